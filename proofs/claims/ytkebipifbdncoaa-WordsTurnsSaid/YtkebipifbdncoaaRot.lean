/- Turns add up. -/
import Derived.Test.YtkebipifbdncoaaWords4
namespace Go.Proofs.Ytkebipifbdncoaa
open Go Go.RowKit
def rotI : Nat → Nat → Nat
  | 0, x => x
  | k + 1, x => (rotI k x) / 2 + (rotI k x) % 2 * 2147483648
theorem rotI_eq (x : Nat) : ∀ k, k ≤ 32 → rotI k x = rotS x k
  | 0, _ => (rotS_zero x).symm
  | k + 1, h => by rw [rotS_succ (by omega), rotI, rotI_eq x k (by omega)]
theorem rotI_add (x a : Nat) : ∀ b, rotI b (rotI a x) = rotI (a + b) x
  | 0 => rfl
  | b + 1 => by rw [show a + (b + 1) = a + b + 1 by omega, rotI, rotI, rotI_add x a b]
theorem rotS_32 {x : Nat} (hx : x < 4294967296) : rotS x 32 = x := by
  unfold rotS
  rw [show (2 : Nat) ^ 32 = 4294967296 from rfl, Nat.div_eq_of_lt hx, Nat.mod_eq_of_lt hx]
  simp
theorem rotS_add {x a b : Nat} (hx : x < 4294967296) (ha : a < 32) (hb : b < 32) : rotS (rotS x a) b = rotS x ((a + b) % 32) := by
  rw [← rotI_eq _ b (by omega), ← rotI_eq x a (by omega), rotI_add]
  by_cases h : a + b < 32
  · rw [Nat.mod_eq_of_lt h, rotI_eq _ _ (by omega)]
  · have h2 : (a + b) % 32 = a + b - 32 := by omega
    rw [h2, ← rotI_eq _ (a + b - 32) (by omega)]
    have h3 := rotI_add x 32 (a + b - 32)
    rw [rotI_eq x 32 (Nat.le_refl _), rotS_32 hx, show 32 + (a + b - 32) = a + b by omega] at h3
    exact h3.symm
theorem rotK_add (n m : Int) : rotK (n + m) = (rotK n + rotK m) % 32 := by unfold rotK; omega
theorem rotK_neg (n : Int) : (rotK n + rotK (0 - n)) % 32 = 0 := by unfold rotK; omega
end Go.Proofs.Ytkebipifbdncoaa
