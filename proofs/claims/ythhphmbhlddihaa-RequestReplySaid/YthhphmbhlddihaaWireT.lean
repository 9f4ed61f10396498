/- The types of package wire: their rows, their fields' places. -/
import Derived.Test.YthhphmbhlddihaaTypes
import Derived.Test.YthhphmbhlddihaaObj
namespace Go.Proofs.Ythhphmbhlddihaa
open Go Go.RowKit
theorem und_pw : Try.prog.underlying 29 = some (.pointer 32) := Try.underlying29
theorem und_pr : Try.prog.underlying 30 = some (.pointer 36) := Try.underlying30
theorem one_bool : OneT Try.prog 4 := ⟨.bool false, 1, by kernel_rfl, rfl, by kernel_rfl⟩
theorem one_errno : OneT Try.prog 34 := ⟨.int .i64 0, 8, by kernel_rfl, rfl, by kernel_rfl⟩
theorem fld_W0 : Fld Try.prog 32 0 := ⟨fun w g => by kernel_rfl⟩
theorem fld_W1 : Fld Try.prog 32 1 := ⟨fun w g => by kernel_rfl⟩
theorem fld_W2 : Fld Try.prog 32 2 := ⟨fun w g => by kernel_rfl⟩
theorem fld_R0 : Fld Try.prog 36 0 := ⟨fun w g => by kernel_rfl⟩
theorem fld_R1 : Fld Try.prog 36 1 := ⟨fun w g => by kernel_rfl⟩
theorem fld_R2 : Fld Try.prog 36 2 := ⟨fun w g => by kernel_rfl⟩
theorem bld_W : ∀ w, (Instr.build 32 [(0, .bool true)].toArray).run Try.prog w = .ok (.agg #[.bool true, .bool false, .slice none 0 0]) w := fun w => by kernel_rfl
theorem bld_Rlong : ∀ w, (Instr.build 36 [(0, .bool true), (2, .int .i64 3)].toArray).run Try.prog w = .ok (.agg #[.bool true, .slice none 0 0, .int .i64 3]) w := fun w => by kernel_rfl
theorem bld_R : ∀ w A n c, (Instr.build 36 [(0, .bool true), (1, .slice A n c)].toArray).run Try.prog w = .ok (.agg #[.bool true, .slice A n c, .int .i64 0]) w := fun w A n c => by kernel_rfl
theorem und_string : Try.prog.underlying 9 = some .string := Try.underlying9
theorem slp_Tag : SlP Try.prog 24 32 := ⟨fun w g => by kernel_rfl⟩
end Go.Proofs.Ythhphmbhlddihaa
