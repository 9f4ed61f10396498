/- The types' rows of SHA. -/
import Derived.Test.YtdphahphbaebkaaTypes
import Derived.Test.YtdphahphbaebkaaU32
import Derived.Test.YtdphahphbaebkaaEq
namespace Go.Proofs.Ytdphahphbaebkaa
open Go Go.RowKit
def tzS : List UInt8 := List.replicate 32 0
theorem one_u32 : OneT Try.prog 53 := ⟨.int .u32 0, 4, by kernel_rfl, rfl, by kernel_rfl⟩
theorem info_u32 : (Try.prog.info? 53).map (fun i => (i.zero, i.size, i.bytes)) = some (some (.int .u32 0), 1, 4) := by kernel_rfl
theorem s_int : OneT Try.prog 3 := ⟨.int .i64 0, 8, by kernel_rfl, rfl, by kernel_rfl⟩
theorem s_bool : OneT Try.prog 4 := ⟨.bool false, 1, by kernel_rfl, rfl, by kernel_rfl⟩
theorem s_errno : OneT Try.prog 24 := ⟨.int .i64 0, 8, by kernel_rfl, rfl, by kernel_rfl⟩
theorem s_hash : OneT Try.prog 67 := ⟨.pointer none, 8, by kernel_rfl, rfl, by kernel_rfl⟩
theorem und_u32s : Try.prog.underlying 61 = some (.slice 53) := Try.underlying61
theorem und_nums : Try.prog.underlying 73 = some (.array 8 53) := Try.underlying73
theorem und_w64 : Try.prog.underlying 82 = some (.array 64 53) := Try.underlying82
theorem s_und_Tag : Try.prog.underlying 50 = some (.array 32 5) := Try.underlying50
theorem agg_nums : AggT Try.prog 73 8 ((List.replicate 8 (0 : UInt32)).map uv) := ⟨⟨_, Try.underlying73, rfl⟩, by kernel_rfl, fun w => by kernel_rfl⟩
theorem agg_w64 : AggT Try.prog 82 64 ((List.replicate 64 (0 : UInt32)).map uv) := ⟨⟨_, Try.underlying82, rfl⟩, by kernel_rfl, fun w => by kernel_rfl⟩
theorem s_agg_Tag : AggT Try.prog 50 32 (tzS.map bv) := ⟨⟨_, Try.underlying50, rfl⟩, by kernel_rfl, fun w => by kernel_rfl⟩
theorem s_eqr_Tag : EqR Try.prog 50 32 := ⟨⟨⟨2, by decide, by kernel_rfl⟩, by kernel_rfl⟩, ⟨_, s_und_Tag, und_u8, by kernel_rfl⟩, by kernel_rfl⟩
theorem uv_one (l : List UInt32) : ∀ v ∈ l.map uv, v.oneCell' = true := by
  intro v hv
  obtain ⟨x, _, rfl⟩ := List.mem_map.1 hv
  rfl
end Go.Proofs.Ytdphahphbaebkaa
