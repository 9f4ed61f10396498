/- HMAC, plainly. No program in sight. -/
import Derived.Test.YtdpcahfgdpikfaaShaP
namespace Go.Proofs.Ytdpcahfgdpikfaa
open Go Go.RowKit
set_option linter.unusedVariables false
/-- A key's block, plainly. -/
def keyK (key : List UInt8) : List UInt8 := if 64 < key.length then shaL key else key
def keyB (key : List UInt8) : List UInt8 := keyK key ++ List.replicate (64 - (keyK key).length) 0
def xorB (x : UInt8) (l : List UInt8) : List UInt8 := l.map (· ^^^ x)
theorem keyK_length (key : List UInt8) : (keyK key).length ≤ 64 := by
  unfold keyK
  split
  · rw [shaL_length]; decide
  · omega
theorem keyB_length (key : List UInt8) : (keyB key).length = 64 := by
  have := keyK_length key
  simp [keyB]
  omega
theorem xorB_length (x : UInt8) (l : List UInt8) : (xorB x l).length = l.length := by simp [xorB]
def hmacL (key b : List UInt8) : List UInt8 := shaL (xorB 92 (keyB key) ++ shaL (xorB 54 (keyB key) ++ b))
theorem hmacL_length (key b : List UInt8) : (hmacL key b).length = 32 := shaL_length _
/-- A key that is too long does as its tag. -/
theorem hmacL_long {key : List UInt8} (h : 64 < key.length) (b : List UInt8) : hmacL (shaL key) b = hmacL key b := by
  have h1 : keyK (shaL key) = shaL key := by unfold keyK; rw [if_neg (by rw [shaL_length]; decide)]
  have h2 : keyK key = shaL key := by unfold keyK; rw [if_pos h]
  unfold hmacL keyB
  rw [h1, h2]
/-- Noughts behind a key. -/
theorem hmacL_pad {key : List UInt8} {n : Nat} (h : key.length + n ≤ 64) (b : List UInt8) : hmacL (key ++ List.replicate n 0) b = hmacL key b := by
  have h1 : keyK (key ++ List.replicate n 0) = key ++ List.replicate n 0 := by unfold keyK; rw [if_neg (by rw [List.length_append, List.length_replicate]; omega)]
  have h2 : keyK key = key := by unfold keyK; rw [if_neg (by omega)]
  have h3 : keyB (key ++ List.replicate n 0) = keyB key := by
    unfold keyB
    rw [h1, h2, List.append_assoc, List.length_append, List.length_replicate, List.replicate_append_replicate]
    congr 2
    omega
  unfold hmacL
  rw [h3]
end Go.Proofs.Ytdpcahfgdpikfaa
