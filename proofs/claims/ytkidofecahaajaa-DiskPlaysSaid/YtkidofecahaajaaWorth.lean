/- What lists are worth. -/
import Derived.Test.YtkidofecahaajaaBvs
namespace Go.Proofs.Ytkidofecahaajaa
open Go Go.RowKit
set_option linter.unusedVariables false
def worth (n : Nat) (vs : List BV) : Nat := (vs.map fun v => v.2.2.length + n).sum
theorem worth_snoc (n : Nat) (vs : List BV) (v : BV) : worth n (vs ++ [v]) = worth n vs + (v.2.2.length + n) := by simp [worth]
theorem worth_take_le (n : Nat) (vs : List BV) (k : Nat) : worth n (vs.take k) ≤ worth n vs := by
  conv => rhs; rw [← List.take_append_drop k vs]
  unfold worth
  rw [List.map_append, List.sum_append]
  omega
theorem worth_each {n : Nat} {vs : List BV} {v : BV} (h : v ∈ vs) : v.2.2.length + n ≤ worth n vs := by
  induction vs with
  | nil => simp at h
  | cons u vs ih =>
    unfold worth
    rw [List.map_cons, List.sum_cons]
    rcases List.mem_cons.1 h with h | h
    · subst h; omega
    · have := ih h; unfold worth at this; omega
theorem worth_len {n : Nat} (vs : List BV) : n * vs.length ≤ worth n vs := by
  induction vs with
  | nil => simp [worth]
  | cons u vs ih =>
    unfold worth at ih ⊢
    rw [List.map_cons, List.sum_cons, List.length_cons, Nat.mul_add]
    omega
/-- The first lists, put together. -/
def flatK (vs : List BV) (k : Nat) : List UInt8 := ((vs.map pay).take k).flatten
theorem flatK_zero (vs : List BV) : flatK vs 0 = [] := by simp [flatK]
theorem flatK_succ {vs : List BV} {k : Nat} (h : k < vs.length) : flatK vs (k + 1) = flatK vs k ++ (vs[k]).2.2 := by
  unfold flatK
  rw [take_succ_get _ _ (by simpa using h), List.flatten_append]
  simp
theorem flatK_all (vs : List BV) : flatK vs vs.length = (vs.map pay).flatten := by unfold flatK; rw [List.take_of_length_le (by simp)]
theorem flatK_le (n : Nat) (vs : List BV) (k : Nat) : (flatK vs k).length ≤ worth n vs := by
  have h1 : ∀ us : List BV, ((us.map pay).flatten).length ≤ worth n us := by
    intro us
    induction us with
    | nil => simp
    | cons u us ih =>
      unfold worth at ih ⊢
      rw [List.map_cons, List.flatten_cons, List.length_append, List.map_cons, List.sum_cons]
      show u.2.2.length + _ ≤ _
      omega
  have := h1 (vs.take k)
  have := worth_take_le n vs k
  unfold flatK
  rw [← List.map_take]
  omega
theorem flatK_worth (n : Nat) (vs : List BV) (k : Nat) : (flatK vs k).length ≤ worth n (vs.take k) := by
  have h1 : ∀ us : List BV, ((us.map pay).flatten).length ≤ worth n us := by
    intro us
    induction us with
    | nil => simp
    | cons u us ih =>
      unfold worth at ih ⊢
      rw [List.map_cons, List.flatten_cons, List.length_append, List.map_cons, List.sum_cons]
      show u.2.2.length + _ ≤ _
      omega
  unfold flatK
  rw [← List.map_take]
  exact h1 _
theorem own_kept_other {w w' : World} {b1 b2 : Nat} {T1 T2 : TypeId} {A B : Option Addr} {n c m d : Nat} {xs ys : List Value} (h1 : w.ownsRow b1 T1 1 (.slice A n c) n xs) (h2 : w.ownsRow b2 T2 1 (.slice B m d) m ys) (hne : T1 ≠ T2) (hg : w.grownBy w' (Value.ownBlock (.slice A n c))) : w'.ownsRow b2 T2 1 (.slice B m d) m ys :=
  own_keeps (S := fun k => ∃ ad, A = some ad ∧ ad.block = k) h2 (Keeps.of_grown hg (fun g hg => by
    cases A with
    | none => cases hg
    | some ad => cases hg; exact ⟨ad, rfl, rfl⟩)) (fun b hb ⟨a, ha, hab⟩ => own_ne_own h1 h2 hne a b ha hb hab)
theorem grown_ext {w0 w w' : World} {A : Option Addr} {n c : Nat} {T : TypeId} {xs : List Value} (h : Ext w0 w) (ho : w.ownsRow w0.heap.size T 1 (.slice A n c) n xs) (hg : w.grownBy w' (Value.ownBlock (.slice A n c))) : Ext w0 w' :=
  (Keeps.of_grown (S := fun k => w0.heap.size ≤ k) hg (fun k hk => (ho.lt k hk).1)).ext h (fun k hk => hk)
end Go.Proofs.Ytkidofecahaajaa
