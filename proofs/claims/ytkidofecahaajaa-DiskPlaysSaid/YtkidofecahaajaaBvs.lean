/- Lists of lists of bytes that come in, or were told. -/
import Derived.Test.YtkidofecahaajaaLists
import Derived.Test.YtkidofecahaajaaKt
namespace Go.Proofs.Ytkidofecahaajaa
open Go Go.RowKit
set_option linter.unusedVariables false
structure ArgL (w : World) (A : Option Addr) (vs : List BV) : Prop where
  rd : Rd w A (vs.map sv)
  bs : ∀ v ∈ vs, Bs w v.1 v.2.2 ∧ v.2.2.length ≤ v.2.1
theorem ArgL.ext {w w' : World} {A : Option Addr} {vs : List BV} (h : ArgL w A vs) (hx : Ext w w') : ArgL w' A vs := ⟨h.rd.ext hx, fun v hv => ⟨(h.bs v hv).1.ext hx, (h.bs v hv).2⟩⟩
theorem RowsB.arg {w : World} {base : Nat} {A : Option Addr} {c : Nat} {vs : List BV} (h : RowsB w base A c vs) : ArgL w A vs := ⟨h.rd, fun v hv => ⟨(h.each v hv).bs, (own_cap (h.each v hv)).1⟩⟩
theorem ArgL.cell {w : World} {A : Option Addr} {vs : List BV} (h : ArgL w A vs) {k : Nat} (hk : k < vs.length) : ∃ ad, A = some ad ∧ w.cell? (ad.add k) = some (sv vs[k]) := by
  obtain ⟨ad, ha, hc⟩ := Rd.at_ h.rd (j := k) (by simpa using hk)
  exact ⟨ad, ha, by simpa using hc⟩
theorem bvs_of {w : World} {A : Option Addr} {l : List (List UInt8)} (h : SlR kBs.n kBs.R w A l) : ∃ vs : List BV, vs.map pay = l ∧ ArgL w A vs := by
  have key : ∀ i, i < l.length → ∃ v : BV, ∀ hi : i < l.length, v.2.2 = l[i] ∧ Bs w v.1 v.2.2 ∧ v.2.2.length ≤ v.2.1 ∧ ∃ ad, A = some ad ∧ w.cell? (ad.add i) = some (sv v) := by
    intro i hi
    obtain ⟨ad, ce, e1, e2, e3, A', c', e4, e5, e6⟩ := h i hi
    refine ⟨(A', c', l[i]), fun _ => ⟨rfl, e6, e5.1, ad, e1, ?_⟩⟩
    subst e4
    have h0 := e3 0 (.slice A' l[i].length c') rfl
    rw [addr_add_add] at h0
    rw [show i * kBs.n + 0 = i by show i * 1 + 0 = i; omega] at h0
    exact h0
  obtain ⟨vs, hl, hv⟩ := choose_list l.length key
  have he : vs.map pay = l := by
    apply List.ext_getElem (by rw [List.length_map, hl])
    intro i h1 h2
    rw [List.getElem_map]
    exact (hv i (by simpa using h1) h2).1
  refine ⟨vs, he, ⟨fun j u hu => ?_, fun v hv2 => ?_⟩⟩
  · have hj : j < vs.length := by have := (List.getElem?_eq_some_iff.1 hu).1; simpa using this
    obtain ⟨_, _, _, ad, ha, hc⟩ := hv j hj (by omega)
    refine ⟨ad, ha, ?_⟩
    rw [hc, ← hu, List.getElem?_map, List.getElem?_eq_getElem hj]
    rfl
  · obtain ⟨i, hi, rfl⟩ := List.mem_iff_getElem.1 hv2
    have := hv i hi (by omega)
    exact ⟨this.2.1, this.2.2.1⟩
theorem slr_small {w : World} {A : Option Addr} {l : List (List UInt8)} (h : SlR kBs.n kBs.R w A l) : ∀ x ∈ l, x.length ≤ 140737488351232 := by
  intro x hx
  obtain ⟨i, hi, rfl⟩ := List.mem_iff_getElem.1 hx
  obtain ⟨ad, ce, e1, e2, e3, A', c', e4, e5, e6⟩ := h i hi
  exact Nat.le_trans e5.1 e5.2
theorem Apart.symm {u v : BV} (h : Apart u v) : Apart v u := fun k h1 h2 => h k h2 h1
/-- One byte of one list, written. -/
theorem RowsB.put {w : World} {base : Nat} {A : Option Addr} {c : Nat} {us : List BV} (h : RowsB w base A c us) {i k g : Nat} (hi : i < us.length) (hk : k < (us[i]).2.2.length) (hg : (us[i]).1 = some ⟨g, 0, none⟩) (x : UInt8) :
    RowsB (w.setCell ⟨g, k, none⟩ (bv x)) base A c (us.set i ((us[i]).1, (us[i]).2.1, (us[i]).2.2.set k x)) ∧ w.grownBy (w.setCell ⟨g, k, none⟩ (bv x)) (some g) := by
  have hgr := only_set w g k (bv x)
  have hK : Keeps w (w.setCell ⟨g, k, none⟩ (bv x)) (· = g) := Keeps.of_only hgr rfl
  have hi0 := h.each us[i] (List.getElem_mem hi)
  have hsv : sv ((us[i]).1, (us[i]).2.1, (us[i]).2.2.set k x) = sv us[i] := by unfold sv; rw [List.length_set]
  have hrow := own_keeps h.row hK (fun ad ha hb => own_ne_own h.row hi0 (by decide) ad _ ha hg hb)
  have hap : ∀ j, (hj : j < us.length) → j ≠ i → Apart us[j] us[i] := fun j hj hne => by
    have hp := List.pairwise_iff_getElem.1 h.apart
    rcases Nat.lt_or_ge j i with h1 | h1
    · exact hp j i hj hi h1
    · exact (hp i j hi hj (by omega)).symm
  refine ⟨⟨?_, fun v hv => ?_, ?_⟩, hgr⟩
  · rw [List.length_set, List.map_set, hsv]
    have : (us.map sv).set i (sv us[i]) = us.map sv := by
      apply List.ext_getElem (by simp)
      intro j h1 h2
      rw [List.getElem_set]
      split
      · rename_i hh; subst hh; simp
      · rfl
    rw [this]; exact hrow
  · obtain ⟨j, hj, rfl⟩ := List.mem_iff_getElem.1 hv
    rw [List.getElem_set]
    split
    · rename_i hh
      have hi1 := hi0
      unfold bvOwn at hi1 ⊢
      rw [hg] at hi1 ⊢
      simp only [List.length_set]
      exact (inc_step hi1 rfl hk x).1
    · rename_i hh
      have hj' : j < us.length := by simpa using hj
      exact (h.each us[j] (List.getElem_mem hj')).keeps hK (fun k' hk' hkg => hap j hj' (fun h => hh h.symm) k' hk' ⟨_, hg, hkg.symm⟩)
  · rw [List.pairwise_iff_getElem]
    intro a b ha hb hab
    have hp := List.pairwise_iff_getElem.1 h.apart
    have ha' : a < us.length := by simpa using ha
    have hb' : b < us.length := by simpa using hb
    have hB : ∀ j, (hj : j < us.length) → ∀ k', bvB ((us.set i ((us[i]).1, (us[i]).2.1, (us[i]).2.2.set k x))[j]'(by simpa using hj)) k' ↔ bvB us[j] k' := by
      intro j hj k'
      rw [List.getElem_set]
      split
      · rename_i hh; subst hh; exact Iff.rfl
      · exact Iff.rfl
    intro k' h1 h2
    exact hp a b ha' hb' hab k' ((hB a ha' k').1 h1) ((hB b hb' k').1 h2)
end Go.Proofs.Ytkidofecahaajaa
