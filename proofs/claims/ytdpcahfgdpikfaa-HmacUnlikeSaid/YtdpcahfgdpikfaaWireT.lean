/- The types of package wire: their rows, their fields' places. -/
import Derived.Test.YtdpcahfgdpikfaaTypes
import Derived.Test.YtdpcahfgdpikfaaObj
namespace Go.Proofs.Ytdpcahfgdpikfaa
open Go Go.RowKit
theorem one_bool : OneT Try.prog 4 := ⟨.bool false, 1, by kernel_rfl, rfl, by kernel_rfl⟩
theorem one_errno : OneT Try.prog 26 := ⟨.int .i64 0, 8, by kernel_rfl, rfl, by kernel_rfl⟩
theorem und_string : Try.prog.underlying 9 = some .string := Try.underlying9
theorem slp_Tag : SlP Try.prog 29 32 := ⟨fun w g => by kernel_rfl⟩
end Go.Proofs.Ytdpcahfgdpikfaa
