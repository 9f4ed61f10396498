/- Lists of lists of bytes, of a call's own. -/
import Derived.Test.YtkidofecahaajaaWords5
import Derived.Test.YtkidofecahaajaaObj
import Derived.Test.YtkidofecahaajaaInc
namespace Go.Proofs.Ytkidofecahaajaa
open Go Go.RowKit
set_option linter.unusedVariables false
theorem one_bytess : OneT Try.prog 28 := ⟨.slice none 0 0, 24, by kernel_rfl, rfl, by kernel_rfl⟩
abbrev pay (v : BV) : List UInt8 := v.2.2
/-- The block of a list. -/
def bvB (v : BV) (k : Nat) : Prop := ∃ ad, v.1 = some ad ∧ ad.block = k
abbrev bvOwn (w : World) (base : Nat) (v : BV) : Prop := w.ownsRow base 5 1 (.slice v.1 v.2.2.length v.2.1) v.2.2.length (v.2.2.map bv)
def Apart (u v : BV) : Prop := ∀ k, bvB u k → ¬ bvB v k
structure RowsB (w : World) (base : Nat) (A : Option Addr) (c : Nat) (vs : List BV) : Prop where
  row : w.ownsRow base 22 1 (.slice A vs.length c) vs.length (vs.map sv)
  each : ∀ v ∈ vs, bvOwn w base v
  apart : vs.Pairwise Apart
theorem RowsB.nil (w : World) (base : Nat) : RowsB w base none 0 [] := ⟨World.ownsRow_nil _ _ _ _, fun v h => by simp at h, List.Pairwise.nil⟩
theorem RowsB.ext {w w' : World} {base : Nat} {A : Option Addr} {c : Nat} {vs : List BV} (h : RowsB w base A c vs) (hx : Ext w w') : RowsB w' base A c vs := ⟨own_ext h.row hx, fun v hv => own_ext (h.each v hv) hx, h.apart⟩
theorem RowsB.mono {w : World} {base base' : Nat} {A : Option Addr} {c : Nat} {vs : List BV} (h : RowsB w base A c vs) (hb : base' ≤ base) : RowsB w base' A c vs := ⟨own_mono h.row hb, fun v hv => own_mono (h.each v hv) hb, h.apart⟩
theorem bvOwn.lt {w : World} {base : Nat} {v : BV} (h : bvOwn w base v) {k : Nat} (hk : bvB v k) : base ≤ k ∧ k < w.heap.size := by
  obtain ⟨ad, ha, rfl⟩ := hk
  exact own_block h ad ha
theorem bvOwn.bs {w : World} {base : Nat} {v : BV} (h : bvOwn w base v) : Bs w v.1 v.2.2 := own_rd h
theorem bvOwn.keeps {w w' : World} {base : Nat} {v : BV} {S : Nat → Prop} (h : bvOwn w base v) (hk : Keeps w w' S) (hn : ∀ k, bvB v k → ¬ S k) : bvOwn w' base v := own_keeps h hk fun ad ha => hn _ ⟨ad, ha, rfl⟩
theorem RowsB.keeps {w w' : World} {base : Nat} {A : Option Addr} {c : Nat} {vs : List BV} {S : Nat → Prop} (h : RowsB w base A c vs) (hk : Keeps w w' S) (h1 : ∀ ad, A = some ad → ¬ S ad.block) (h2 : ∀ v ∈ vs, ∀ k, bvB v k → ¬ S k) : RowsB w' base A c vs :=
  ⟨own_keeps h.row hk h1, fun v hv => (h.each v hv).keeps hk (h2 v hv), h.apart⟩
theorem RowsB.rd {w : World} {base : Nat} {A : Option Addr} {c : Nat} {vs : List BV} (h : RowsB w base A c vs) : Rd w A (vs.map sv) := own_rd h.row
theorem own_at {w : World} {base : Nat} {T : TypeId} {A : Option Addr} {n c : Nat} {xs : List Value} (h : w.ownsRow base T 1 (.slice A n c) n xs) : A = none ∨ ∃ g cur, A = some ⟨g, 0, none⟩ ∧ w.heap[g]? = some (.cells cur T (0, 0)) := by
  rcases h.2 with ⟨hv, _⟩ | ⟨g, cap, cur, hv, _, hg, _⟩
  · injection hv with hA; exact .inl hA
  · injection hv with hA; exact .inr ⟨g, cur, hA, hg⟩
theorem own_ne_own {w : World} {b1 b2 : Nat} {T1 T2 : TypeId} {A B : Option Addr} {n c m d : Nat} {xs ys : List Value} (h1 : w.ownsRow b1 T1 1 (.slice A n c) n xs) (h2 : w.ownsRow b2 T2 1 (.slice B m d) m ys) (hne : T1 ≠ T2) : ∀ x y, A = some x → B = some y → x.block ≠ y.block := by
  intro x y hx hy hxy
  rcases own_at h1 with h | ⟨g, cur, hA, hg⟩
  · rw [h] at hx; cases hx
  rcases own_at h2 with h | ⟨g2, cur2, hB, hg2⟩
  · rw [h] at hy; cases hy
  rw [hA] at hx; rw [hB] at hy
  cases hx; cases hy
  simp only at hxy
  subst hxy
  rw [hg] at hg2
  injection hg2 with h
  injection h with _ h
  exact hne h
/-- A list more, behind the others. -/
theorem RowsB.add {w w' : World} {base : Nat} {A A' : Option Addr} {c c' : Nat} {vs : List BV} {v : BV} (h : RowsB w base A c vs) (hv : bvOwn w base v) (ha : ∀ u ∈ vs, Apart u v)
    (hg : w.grownBy w' (Value.ownBlock (.slice A vs.length c))) (hr : w'.ownsRow base 22 1 (.slice A' (vs.length + 1) c') (vs.length + 1) (vs.map sv ++ [sv v])) : RowsB w' base A' c' (vs ++ [v]) := by
  have hK : Keeps w w' (fun k => ∃ ad, A = some ad ∧ ad.block = k) := Keeps.of_grown hg (fun g hg => by
    cases A with
    | none => cases hg
    | some ad => cases hg; exact ⟨ad, rfl, rfl⟩)
  have key : ∀ u, bvOwn w base u → bvOwn w' base u := fun u hu => hu.keeps hK (fun k ⟨ad2, ha2, hb2⟩ ⟨ad, ha1, hb1⟩ => own_ne_own h.row hu (by decide) ad ad2 ha1 ha2 (by rw [hb1, hb2]))
  refine ⟨by rw [List.length_append, List.map_append]; exact hr, fun u hu => ?_, ?_⟩
  · rcases List.mem_append.1 hu with h1 | h1
    · exact key u (h.each u h1)
    · rw [List.mem_singleton.1 h1]; exact key v hv
  · rw [List.pairwise_append]
    exact ⟨h.apart, List.pairwise_singleton _ _, fun a ha1 b hb1 => by rw [List.mem_singleton.1 hb1]; exact ha a ha1⟩
theorem sv_one (vs : List BV) : ∀ u ∈ vs.map sv, u.oneCell' = true := by
  intro u hu
  obtain ⟨b, _, rfl⟩ := List.mem_map.1 hu
  rfl
end Go.Proofs.Ytkidofecahaajaa
