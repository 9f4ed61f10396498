/- The first numbers of 256 HMACs, computed: the others; they are unlike. No program in sight. -/
import Derived.Test.YtdpcahfgdpikfaaHmU2
namespace Go.Proofs.Ytdpcahfgdpikfaa
open Go Go.RowKit
set_option linter.unusedVariables false
theorem uOk2_8 : uOk2 8 = true := by decide +kernel
theorem uOk2_9 : uOk2 9 = true := by decide +kernel
theorem uOk2_10 : uOk2 10 = true := by decide +kernel
theorem uOk2_11 : uOk2 11 = true := by decide +kernel
theorem uOk2_12 : uOk2 12 = true := by decide +kernel
theorem uOk2_13 : uOk2 13 = true := by decide +kernel
theorem uOk2_14 : uOk2 14 = true := by decide +kernel
theorem uOk2_15 : uOk2 15 = true := by decide +kernel
theorem uOk2_all {n : Nat} (h : n < 256) : uF2 n = uL2.getD n 0 := by
  have hc : ∀ c, c < 16 → uOk2 c = true := fun c hc => by
    match c, hc with
    | 0, _ => exact uOk2_0
    | 1, _ => exact uOk2_1
    | 2, _ => exact uOk2_2
    | 3, _ => exact uOk2_3
    | 4, _ => exact uOk2_4
    | 5, _ => exact uOk2_5
    | 6, _ => exact uOk2_6
    | 7, _ => exact uOk2_7
    | 8, _ => exact uOk2_8
    | 9, _ => exact uOk2_9
    | 10, _ => exact uOk2_10
    | 11, _ => exact uOk2_11
    | 12, _ => exact uOk2_12
    | 13, _ => exact uOk2_13
    | 14, _ => exact uOk2_14
    | 15, _ => exact uOk2_15
    | c + 16, h => exact absurd h (by omega)
  have h1 := hc (n / 16) (by omega)
  unfold uOk2 at h1
  rw [List.all_eq_true] at h1
  have h2 := h1 (n % 16) (List.mem_range.2 (by omega))
  rw [show 16 * (n / 16) + n % 16 = n by omega] at h2
  simpa using h2
theorem uL2_nodup : uL2.Nodup := by decide +kernel
theorem uL2_length : uL2.length = 256 := by decide +kernel
theorem uF2_inj {n m : Nat} (hn : n < 256) (hm : m < 256) (h : uF2 n = uF2 m) : n = m := by
  have hl := uL2_length
  rw [uOk2_all hn, uOk2_all hm, List.getD_eq_getElem?_getD, List.getD_eq_getElem?_getD, List.getElem?_eq_getElem (by omega), List.getElem?_eq_getElem (by omega)] at h
  simp only [Option.getD_some] at h
  have hp := List.pairwise_iff_getElem.1 uL2_nodup
  rcases Nat.lt_trichotomy n m with h1 | h1 | h1
  · exact absurd h (hp n m (by omega) (by omega) h1)
  · exact h1
  · exact absurd h.symm (hp m n (by omega) (by omega) h1)
theorem uOk3_8 : uOk3 8 = true := by decide +kernel
theorem uOk3_9 : uOk3 9 = true := by decide +kernel
theorem uOk3_10 : uOk3 10 = true := by decide +kernel
theorem uOk3_11 : uOk3 11 = true := by decide +kernel
theorem uOk3_12 : uOk3 12 = true := by decide +kernel
theorem uOk3_13 : uOk3 13 = true := by decide +kernel
theorem uOk3_14 : uOk3 14 = true := by decide +kernel
theorem uOk3_15 : uOk3 15 = true := by decide +kernel
theorem uOk3_all {n : Nat} (h : n < 256) : uF3 n = uL3.getD n 0 := by
  have hc : ∀ c, c < 16 → uOk3 c = true := fun c hc => by
    match c, hc with
    | 0, _ => exact uOk3_0
    | 1, _ => exact uOk3_1
    | 2, _ => exact uOk3_2
    | 3, _ => exact uOk3_3
    | 4, _ => exact uOk3_4
    | 5, _ => exact uOk3_5
    | 6, _ => exact uOk3_6
    | 7, _ => exact uOk3_7
    | 8, _ => exact uOk3_8
    | 9, _ => exact uOk3_9
    | 10, _ => exact uOk3_10
    | 11, _ => exact uOk3_11
    | 12, _ => exact uOk3_12
    | 13, _ => exact uOk3_13
    | 14, _ => exact uOk3_14
    | 15, _ => exact uOk3_15
    | c + 16, h => exact absurd h (by omega)
  have h1 := hc (n / 16) (by omega)
  unfold uOk3 at h1
  rw [List.all_eq_true] at h1
  have h2 := h1 (n % 16) (List.mem_range.2 (by omega))
  rw [show 16 * (n / 16) + n % 16 = n by omega] at h2
  simpa using h2
theorem uL3_nodup : uL3.Nodup := by decide +kernel
theorem uL3_length : uL3.length = 256 := by decide +kernel
theorem uF3_inj {n m : Nat} (hn : n < 256) (hm : m < 256) (h : uF3 n = uF3 m) : n = m := by
  have hl := uL3_length
  rw [uOk3_all hn, uOk3_all hm, List.getD_eq_getElem?_getD, List.getD_eq_getElem?_getD, List.getElem?_eq_getElem (by omega), List.getElem?_eq_getElem (by omega)] at h
  simp only [Option.getD_some] at h
  have hp := List.pairwise_iff_getElem.1 uL3_nodup
  rcases Nat.lt_trichotomy n m with h1 | h1 | h1
  · exact absurd h (hp n m (by omega) (by omega) h1)
  · exact h1
  · exact absurd h.symm (hp m n (by omega) (by omega) h1)
end Go.Proofs.Ytdpcahfgdpikfaa
