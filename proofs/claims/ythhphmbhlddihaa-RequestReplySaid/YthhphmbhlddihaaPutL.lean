/- Numbers as bytes, there and back. No program in sight. -/
import Derived.Test.YthhphmbhlddihaaPlain1
namespace Go.Proofs.Ythhphmbhlddihaa
open Go Go.RowKit
set_option linter.unusedVariables false
theorem loadL_putL (n : Nat) : ∀ x, x < 256 ^ n → loadL (putL x n) = x := by
  induction n with
  | zero => intro x hx; simp at hx; subst hx; rfl
  | succ n ih =>
    intro x hx
    have h1 : putL x (n + 1) = putL (x / 256) n ++ [UInt8.ofNat x] := by
      unfold putL
      rw [List.range_succ, List.map_append]
      congr 1
      · apply List.map_congr_left
        intro i hi
        have hi' : i < n := List.mem_range.1 hi
        rw [show n + 1 - 1 - i = (n - 1 - i) + 1 by omega, Nat.pow_succ, Nat.mul_comm, ← Nat.div_div_eq_div_mul]
      · simp
    rw [h1, loadL_snoc, ih _ (by rw [Nat.pow_succ] at hx; omega), UInt8.toNat_ofNat']
    omega
theorem putL_snoc (x n : Nat) : putL x (n + 1) = putL (x / 256) n ++ [UInt8.ofNat x] := by
  unfold putL
  rw [List.range_succ, List.map_append]
  congr 1
  · apply List.map_congr_left
    intro i hi
    have hi' : i < n := List.mem_range.1 hi
    rw [show n + 1 - 1 - i = (n - 1 - i) + 1 by omega, Nat.pow_succ, Nat.mul_comm, ← Nat.div_div_eq_div_mul]
  · simp
theorem putL_loadL : ∀ (n : Nat) (l : List UInt8), l.length = n → putL (loadL l) n = l
  | 0, l, h => by rw [List.eq_nil_of_length_eq_zero h]; rfl
  | n + 1, l, h => by
    obtain ⟨l', b, rfl⟩ : ∃ l' b, l = l' ++ [b] := ⟨l.dropLast, l.getLast (by intro hh; rw [hh] at h; cases h), (List.dropLast_concat_getLast _).symm⟩
    have hb := b.toNat_lt
    rw [putL_snoc, loadL_snoc, show (256 * loadL l' + b.toNat) / 256 = loadL l' by omega, putL_loadL n l' (by simpa using h)]
    congr 2
    apply UInt8.toNat_inj.1
    rw [UInt8.toNat_ofNat']
    omega
end Go.Proofs.Ythhphmbhlddihaa
