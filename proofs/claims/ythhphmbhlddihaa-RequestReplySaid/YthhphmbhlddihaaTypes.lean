/- The types' rows of this seat's program. -/
import Derived.Test.YthhphmbhlddihaaRows
import Derived.Test.YthhphmbhlddihaaDraw
namespace Go.Proofs.Ythhphmbhlddihaa
open Go Go.RowKit
theorem und_bytes : Try.prog.underlying 22 = some (.slice 5) := Try.underlying22
theorem und_bool : Try.prog.underlying 4 = some .bool := Try.underlying4
theorem und_u8 : Try.prog.underlying 5 = some (.int .u8) := Try.underlying5
theorem und_u32 : Try.prog.underlying 106 = some (.int .u32) := Try.underlying106
theorem und_u64 : Try.prog.underlying 94 = some (.int .u64) := Try.underlying94
theorem und_uint : Try.prog.underlying 141 = some (.int .u64) := Try.underlying141
theorem und_int : Try.prog.underlying 3 = some (.int .i64) := Try.underlying3
theorem und_bytess : Try.prog.underlying 115 = some (.slice 22) := Try.underlying115
theorem info_u8 : (Try.prog.info? 5).map (fun i => (i.zero, i.size, i.bytes)) = some (some (.int .u8 0), 1, 1) := by kernel_rfl
theorem one_u8 : OneT Try.prog 5 := ⟨.int .u8 0, 1, info_u8, rfl, by kernel_rfl⟩
theorem info_bytes : (Try.prog.info? 22).map (fun i => (i.zero, i.size, i.bytes)) = some (some (.slice none 0 0), 1, 24) := by kernel_rfl
theorem one_bytes : OneT Try.prog 22 := ⟨.slice none 0 0, 24, info_bytes, rfl, by kernel_rfl⟩
end Go.Proofs.Ythhphmbhlddihaa
