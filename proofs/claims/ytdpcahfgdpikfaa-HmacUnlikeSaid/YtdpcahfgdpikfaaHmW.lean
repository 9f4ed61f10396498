/- The first number of an HMAC, computed; what is summed up to derive a key. No program in sight. -/
import Derived.Test.YtdpcahfgdpikfaaShaK
import Derived.Test.YtdpcahfgdpikfaaNum
namespace Go.Proofs.Ytdpcahfgdpikfaa
open Go Go.RowKit
set_option linter.unusedVariables false
/-- What is summed up to derive a key. -/
def formB (s : ByteArray) (l : List Int) : List UInt8 := s.data.toList ++ (([0] : List UInt8) ++ numsB l)
theorem formB_length (s : ByteArray) (l : List Int) : (formB s l).length = s.data.toList.length + (1 + 8 * l.length) := by simp [formB, numsB_length]; omega
theorem formB_take {s : ByteArray} {l : List Int} {k : Nat} (h : k < l.length) : formB s (l.take (k + 1)) = formB s (l.take k) ++ putL (u64N l[k]) 8 := by
  unfold formB
  rw [take_succ_get l k h, numsB_snoc]
  simp
theorem putL4_injW {x y : Nat} (hx : x < 4294967296) (hy : y < 4294967296) (h : putL x 4 = putL y 4) : x = y := by
  have h0 : UInt8.ofNat (x / 256 ^ 3) = UInt8.ofNat (y / 256 ^ 3) := congrArg (fun l => l.getD 0 0) h
  have h1 : UInt8.ofNat (x / 256 ^ 2) = UInt8.ofNat (y / 256 ^ 2) := congrArg (fun l => l.getD 1 0) h
  have h2 : UInt8.ofNat (x / 256 ^ 1) = UInt8.ofNat (y / 256 ^ 1) := congrArg (fun l => l.getD 2 0) h
  have h3 : UInt8.ofNat (x / 256 ^ 0) = UInt8.ofNat (y / 256 ^ 0) := congrArg (fun l => l.getD 3 0) h
  have k0 := congrArg UInt8.toNat h0
  have k1 := congrArg UInt8.toNat h1
  have k2 := congrArg UInt8.toNat h2
  have k3 := congrArg UInt8.toNat h3
  rw [UInt8.toNat_ofNat', UInt8.toNat_ofNat'] at k0 k1 k2 k3
  simp only [Nat.reducePow, Nat.div_one] at k0 k1 k2 k3
  omega
theorem fst4W (s : N8) : (outB s).take 4 = putL s.a.toNat 4 := rfl
def hmW (key b : List UInt8) : Nat := shaF (xorB 92 (keyB key) ++ shaK (xorB 54 (keyB key) ++ b)) fun a _ _ _ _ _ _ _ => a
theorem hmW_inj {k1 b1 k2 b2 : List UInt8} (h : hmacL k1 b1 = hmacL k2 b2) : hmW k1 b1 = hmW k2 b2 := by
  unfold hmW
  rw [shaF_eq, shaF_eq, shaK_eq, shaK_eq]
  have h1 := congrArg (List.take 4) h
  unfold hmacL at h1
  unfold shaL at h1
  rw [fst4W, fst4W] at h1
  exact putL4_injW (u32_lt _) (u32_lt _) h1
end Go.Proofs.Ytdpcahfgdpikfaa
