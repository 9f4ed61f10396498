/- The types' rows of SHA. -/
import Derived.Test.YtdpcahfgdpikfaaTypes
import Derived.Test.YtdpcahfgdpikfaaU32
import Derived.Test.YtdpcahfgdpikfaaEq
namespace Go.Proofs.Ytdpcahfgdpikfaa
open Go Go.RowKit
def tzS : List UInt8 := List.replicate 32 0
theorem one_u32 : OneT Try.prog 92 := ⟨.int .u32 0, 4, by kernel_rfl, rfl, by kernel_rfl⟩
theorem info_u32 : (Try.prog.info? 92).map (fun i => (i.zero, i.size, i.bytes)) = some (some (.int .u32 0), 1, 4) := by kernel_rfl
theorem s_int : OneT Try.prog 3 := ⟨.int .i64 0, 8, by kernel_rfl, rfl, by kernel_rfl⟩
theorem s_bool : OneT Try.prog 4 := ⟨.bool false, 1, by kernel_rfl, rfl, by kernel_rfl⟩
theorem s_errno : OneT Try.prog 26 := ⟨.int .i64 0, 8, by kernel_rfl, rfl, by kernel_rfl⟩
theorem s_hash : OneT Try.prog 24 := ⟨.pointer none, 8, by kernel_rfl, rfl, by kernel_rfl⟩
theorem und_u32s : Try.prog.underlying 108 = some (.slice 92) := Try.underlying108
theorem und_nums : Try.prog.underlying 94 = some (.array 8 92) := Try.underlying94
theorem und_w64 : Try.prog.underlying 129 = some (.array 64 92) := Try.underlying129
theorem s_und_Tag : Try.prog.underlying 29 = some (.array 32 5) := Try.underlying29
theorem agg_nums : AggT Try.prog 94 8 ((List.replicate 8 (0 : UInt32)).map uv) := ⟨⟨_, Try.underlying94, rfl⟩, by kernel_rfl, fun w => by kernel_rfl⟩
theorem agg_w64 : AggT Try.prog 129 64 ((List.replicate 64 (0 : UInt32)).map uv) := ⟨⟨_, Try.underlying129, rfl⟩, by kernel_rfl, fun w => by kernel_rfl⟩
theorem s_agg_Tag : AggT Try.prog 29 32 (tzS.map bv) := ⟨⟨_, Try.underlying29, rfl⟩, by kernel_rfl, fun w => by kernel_rfl⟩
theorem s_eqr_Tag : EqR Try.prog 29 32 := ⟨⟨⟨2, by decide, by kernel_rfl⟩, by kernel_rfl⟩, ⟨_, s_und_Tag, und_u8, by kernel_rfl⟩, by kernel_rfl⟩
theorem uv_one (l : List UInt32) : ∀ v ∈ l.map uv, v.oneCell' = true := by
  intro v hv
  obtain ⟨x, _, rfl⟩ := List.mem_map.1 hv
  rfl
end Go.Proofs.Ytdpcahfgdpikfaa
