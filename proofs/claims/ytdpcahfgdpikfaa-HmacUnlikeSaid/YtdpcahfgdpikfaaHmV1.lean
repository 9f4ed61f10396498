/- The first numbers of 256 HMACs, computed: the others; they are unlike. No program in sight. -/
import Derived.Test.YtdpcahfgdpikfaaHmU1
namespace Go.Proofs.Ytdpcahfgdpikfaa
open Go Go.RowKit
set_option linter.unusedVariables false
theorem uOk1_8 : uOk1 8 = true := by decide +kernel
theorem uOk1_9 : uOk1 9 = true := by decide +kernel
theorem uOk1_10 : uOk1 10 = true := by decide +kernel
theorem uOk1_11 : uOk1 11 = true := by decide +kernel
theorem uOk1_12 : uOk1 12 = true := by decide +kernel
theorem uOk1_13 : uOk1 13 = true := by decide +kernel
theorem uOk1_14 : uOk1 14 = true := by decide +kernel
theorem uOk1_15 : uOk1 15 = true := by decide +kernel
theorem uOk1_all {n : Nat} (h : n < 256) : uF1 n = uL1.getD n 0 := by
  have hc : ∀ c, c < 16 → uOk1 c = true := fun c hc => by
    match c, hc with
    | 0, _ => exact uOk1_0
    | 1, _ => exact uOk1_1
    | 2, _ => exact uOk1_2
    | 3, _ => exact uOk1_3
    | 4, _ => exact uOk1_4
    | 5, _ => exact uOk1_5
    | 6, _ => exact uOk1_6
    | 7, _ => exact uOk1_7
    | 8, _ => exact uOk1_8
    | 9, _ => exact uOk1_9
    | 10, _ => exact uOk1_10
    | 11, _ => exact uOk1_11
    | 12, _ => exact uOk1_12
    | 13, _ => exact uOk1_13
    | 14, _ => exact uOk1_14
    | 15, _ => exact uOk1_15
    | c + 16, h => exact absurd h (by omega)
  have h1 := hc (n / 16) (by omega)
  unfold uOk1 at h1
  rw [List.all_eq_true] at h1
  have h2 := h1 (n % 16) (List.mem_range.2 (by omega))
  rw [show 16 * (n / 16) + n % 16 = n by omega] at h2
  simpa using h2
theorem uL1_nodup : uL1.Nodup := by decide +kernel
theorem uL1_length : uL1.length = 256 := by decide +kernel
theorem uF1_inj {n m : Nat} (hn : n < 256) (hm : m < 256) (h : uF1 n = uF1 m) : n = m := by
  have hl := uL1_length
  rw [uOk1_all hn, uOk1_all hm, List.getD_eq_getElem?_getD, List.getD_eq_getElem?_getD, List.getElem?_eq_getElem (by omega), List.getElem?_eq_getElem (by omega)] at h
  simp only [Option.getD_some] at h
  have hp := List.pairwise_iff_getElem.1 uL1_nodup
  rcases Nat.lt_trichotomy n m with h1 | h1 | h1
  · exact absurd h (hp n m (by omega) (by omega) h1)
  · exact h1
  · exact absurd h.symm (hp m n (by omega) (by omega) h1)
end Go.Proofs.Ytdpcahfgdpikfaa
