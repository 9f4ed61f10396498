/- The types' rows of SHA. -/
import Derived.Test.YthhphmbhlddihaaTypes
import Derived.Test.YthhphmbhlddihaaU32
import Derived.Test.YthhphmbhlddihaaEq
namespace Go.Proofs.Ythhphmbhlddihaa
open Go Go.RowKit
def tzS : List UInt8 := List.replicate 32 0
theorem one_u32 : OneT Try.prog 106 := ⟨.int .u32 0, 4, by kernel_rfl, rfl, by kernel_rfl⟩
theorem info_u32 : (Try.prog.info? 106).map (fun i => (i.zero, i.size, i.bytes)) = some (some (.int .u32 0), 1, 4) := by kernel_rfl
theorem s_int : OneT Try.prog 3 := ⟨.int .i64 0, 8, by kernel_rfl, rfl, by kernel_rfl⟩
theorem s_bool : OneT Try.prog 4 := ⟨.bool false, 1, by kernel_rfl, rfl, by kernel_rfl⟩
theorem s_errno : OneT Try.prog 34 := ⟨.int .i64 0, 8, by kernel_rfl, rfl, by kernel_rfl⟩
theorem s_und_Tag : Try.prog.underlying 24 = some (.array 32 5) := Try.underlying24
theorem s_agg_Tag : AggT Try.prog 24 32 (tzS.map bv) := ⟨⟨_, Try.underlying24, rfl⟩, by kernel_rfl, fun w => by kernel_rfl⟩
theorem s_eqr_Tag : EqR Try.prog 24 32 := ⟨⟨⟨2, by decide, by kernel_rfl⟩, by kernel_rfl⟩, ⟨_, s_und_Tag, und_u8, by kernel_rfl⟩, by kernel_rfl⟩
theorem uv_one (l : List UInt32) : ∀ v ∈ l.map uv, v.oneCell' = true := by
  intro v hv
  obtain ⟨x, _, rfl⟩ := List.mem_map.1 hv
  rfl
end Go.Proofs.Ythhphmbhlddihaa
