/- The types' rows of SHA. -/
import Derived.Test.YtkidofecahaajaaTypes
import Derived.Test.YtkidofecahaajaaU32
import Derived.Test.YtkidofecahaajaaEq
namespace Go.Proofs.Ytkidofecahaajaa
open Go Go.RowKit
def tzS : List UInt8 := List.replicate 32 0
theorem one_u32 : OneT Try.prog 94 := ⟨.int .u32 0, 4, by kernel_rfl, rfl, by kernel_rfl⟩
theorem info_u32 : (Try.prog.info? 94).map (fun i => (i.zero, i.size, i.bytes)) = some (some (.int .u32 0), 1, 4) := by kernel_rfl
theorem s_int : OneT Try.prog 3 := ⟨.int .i64 0, 8, by kernel_rfl, rfl, by kernel_rfl⟩
theorem s_bool : OneT Try.prog 4 := ⟨.bool false, 1, by kernel_rfl, rfl, by kernel_rfl⟩
theorem s_errno : OneT Try.prog 32 := ⟨.int .i64 0, 8, by kernel_rfl, rfl, by kernel_rfl⟩
theorem s_hash : OneT Try.prog 112 := ⟨.pointer none, 8, by kernel_rfl, rfl, by kernel_rfl⟩
theorem und_u32s : Try.prog.underlying 116 = some (.slice 94) := Try.underlying116
theorem und_nums : Try.prog.underlying 121 = some (.array 8 94) := Try.underlying121
theorem und_w64 : Try.prog.underlying 131 = some (.array 64 94) := Try.underlying131
theorem s_und_Tag : Try.prog.underlying 103 = some (.array 32 5) := Try.underlying103
theorem agg_nums : AggT Try.prog 121 8 ((List.replicate 8 (0 : UInt32)).map uv) := ⟨⟨_, Try.underlying121, rfl⟩, by kernel_rfl, fun w => by kernel_rfl⟩
theorem agg_w64 : AggT Try.prog 131 64 ((List.replicate 64 (0 : UInt32)).map uv) := ⟨⟨_, Try.underlying131, rfl⟩, by kernel_rfl, fun w => by kernel_rfl⟩
theorem s_agg_Tag : AggT Try.prog 103 32 (tzS.map bv) := ⟨⟨_, Try.underlying103, rfl⟩, by kernel_rfl, fun w => by kernel_rfl⟩
theorem s_eqr_Tag : EqR Try.prog 103 32 := ⟨⟨⟨2, by decide, by kernel_rfl⟩, by kernel_rfl⟩, ⟨_, s_und_Tag, und_u8, by kernel_rfl⟩, by kernel_rfl⟩
theorem uv_one (l : List UInt32) : ∀ v ∈ l.map uv, v.oneCell' = true := by
  intro v hv
  obtain ⟨x, _, rfl⟩ := List.mem_map.1 hv
  rfl
end Go.Proofs.Ytkidofecahaajaa
