/- SHA-256 and HMAC computed, byte by byte. No program in sight. -/
import Derived.Test.YtdpcahfgdpikfaaShaC
import Derived.Test.YtdpcahfgdpikfaaHmP
namespace Go.Proofs.Ytdpcahfgdpikfaa
open Go Go.RowKit
set_option linter.unusedVariables false
def shaK (l : List UInt8) : List UInt8 := shaF l fun a b c d e f g h => putL a 4 ++ (putL b 4 ++ (putL c 4 ++ (putL d 4 ++ (putL e 4 ++ (putL f 4 ++ (putL g 4 ++ putL h 4))))))
theorem shaK_eq (l : List UInt8) : shaK l = shaL l := by
  unfold shaK
  rw [shaF_eq]
  unfold give shaL outB N8.l
  simp
def hmacK (key b : List UInt8) : List UInt8 := shaK (xorB 92 (keyB key) ++ shaK (xorB 54 (keyB key) ++ b))
theorem hmacK_eq (key b : List UInt8) : hmacK key b = hmacL key b := by
  unfold hmacK hmacL
  rw [shaK_eq, shaK_eq]
theorem ovr_set {n k : Nat} {a b : UInt8} (h : k < n) : (List.replicate k a ++ List.replicate (n - k) b).set k a = List.replicate (k + 1) a ++ List.replicate (n - (k + 1)) b := by
  rw [List.set_append_right _ _ (by simp), List.length_replicate, Nat.sub_self, show n - k = (n - (k + 1)) + 1 by omega, List.replicate_succ, List.set_cons_zero, List.replicate_succ', List.append_assoc]
  rfl
end Go.Proofs.Ytdpcahfgdpikfaa
