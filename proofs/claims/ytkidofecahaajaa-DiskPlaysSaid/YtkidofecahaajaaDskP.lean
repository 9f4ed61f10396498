/- A disk, plainly. No program in sight. -/
import Derived.Test.YtkidofecahaajaaPlain1
namespace Go.Proofs.Ytkidofecahaajaa
open Go Go.RowKit
set_option linter.unusedVariables false
structure DS where
  up : Bool
  s : List UInt8
  ws : List (List UInt8)
def DS.all (d : DS) : List UInt8 := d.s ++ d.ws.flatten
def dNew : DS := ⟨true, [], []⟩
def dWrite (d : DS) (b : List UInt8) : Int × DS := if d.up then (0, ⟨true, d.s, d.ws ++ [b]⟩) else (60, d)
def dSync (d : DS) : Int × DS := if d.up then (0, ⟨true, d.all, []⟩) else (60, d)
/-- How much of the next write stays. -/
def tornN (d : DS) (k t : Nat) : Nat := if h : k < d.ws.length then min t ((d.ws[k]).length - 1) else 0
def crashN (d : DS) (k t : Nat) : Nat := d.s.length + (d.ws.take k).flatten.length + tornN d k t
def dCrash (d : DS) (k t : Int) : Int × DS := if d.up then (if min k t < 0 then (2, d) else (0, ⟨false, d.all.take (crashN d k.toNat t.toNat), []⟩)) else (60, d)
def dStart (d : DS) : Int × DS := if d.up then (2, d) else (0, ⟨true, d.s, d.ws⟩)
def dCut (d : DS) (n : Int) : Int × DS := if d.up then (if n < 0 ∨ (d.all.length : Int) < n then (2, d) else (0, ⟨true, d.all.take n.toNat, []⟩)) else (60, d)
theorem flat_split (ws : List (List UInt8)) (k : Nat) : ws.flatten = (ws.take k).flatten ++ (ws.drop k).flatten := by
  conv => lhs; rw [← List.take_append_drop k ws]
  rw [List.flatten_append]
theorem ws_take_succ {ws : List (List UInt8)} {k : Nat} (h : k < ws.length) : (ws.take (k + 1)).flatten = (ws.take k).flatten ++ ws[k] := by
  rw [List.take_succ_eq_append_getElem h, List.flatten_append]; simp
theorem take_two {a b c : List UInt8} {n m : Nat} (h : n = a.length + b.length + m) : (a ++ (b ++ c)).take n = a ++ (b ++ c.take m) := by
  subst h
  rw [List.take_append, List.take_of_length_le (by omega), show a.length + b.length + m - a.length = b.length + m by omega, List.take_append, List.take_of_length_le (by omega), show b.length + m - b.length = m by omega]
theorem crash_parts (d : DS) (k t : Nat) (h : k < d.ws.length) : d.s ++ ((d.ws.take k).flatten ++ (d.ws[k]).take (min t ((d.ws[k]).length - 1))) = d.all.take (crashN d k t) := by
  have h1 := flat_split d.ws k
  rw [List.drop_eq_getElem_cons h, List.flatten_cons] at h1
  obtain ⟨Z, hZ⟩ : ∃ Z, (d.ws.take k).flatten = Z := ⟨_, rfl⟩
  obtain ⟨Y, hY⟩ : ∃ Y, d.ws[k] = Y := ⟨_, rfl⟩
  have h2 : d.all = d.s ++ (Z ++ (Y ++ (d.ws.drop (k + 1)).flatten)) := by unfold DS.all; rw [h1, hZ, hY]
  unfold crashN tornN
  rw [dif_pos h, hZ, hY, h2, take_two rfl, List.take_append_of_le_length (by omega)]
theorem crash_whole (d : DS) (k t : Nat) (h : ¬ k < d.ws.length) : d.s ++ (d.ws.take k).flatten = d.all.take (crashN d k t) := by
  unfold DS.all crashN tornN
  rw [dif_neg h, List.take_of_length_le (by omega : d.ws.length ≤ k), List.take_of_length_le (by rw [List.length_append]; omega)]
theorem crashN_le (d : DS) (k t : Nat) : crashN d k t ≤ d.all.length := by
  unfold DS.all crashN tornN
  rw [List.length_append]
  have h1 := congrArg List.length (flat_split d.ws k)
  rw [List.length_append] at h1
  split
  · rename_i h
    rw [List.drop_eq_getElem_cons h, List.flatten_cons, List.length_append] at h1
    omega
  · omega
/-- Where the writes end. -/
def dEnds (d : DS) : List Int := (List.range d.ws.length).map fun i => ((d.s.length + (d.ws.take (i + 1)).flatten.length : Nat) : Int)
theorem dEnds_length (d : DS) : (dEnds d).length = d.ws.length := by simp [dEnds]
theorem dEnds_get {d : DS} {k : Nat} (h : k < d.ws.length) : (dEnds d)[k]'(by rw [dEnds_length]; exact h) = ((d.s.length + (d.ws.take (k + 1)).flatten.length : Nat) : Int) := by simp [dEnds]
theorem dEnds_write (u : Bool) (s : List UInt8) (ws : List (List UInt8)) (b : List UInt8) (u' : Bool) : dEnds ⟨u', s, ws ++ [b]⟩ = dEnds ⟨u, s, ws⟩ ++ [(((DS.all ⟨u, s, ws⟩) ++ b).length : Int)] := by
  unfold dEnds DS.all
  simp only [List.length_append, List.length_singleton, List.range_succ, List.map_append, List.map_cons, List.map_nil]
  congr 1
  · apply List.map_congr_left
    intro i hi
    have hi' : i < ws.length := List.mem_range.1 hi
    rw [List.take_append_of_le_length (by omega)]
  · congr 1
    rw [List.take_of_length_le (by simp)]
    simp
    omega
theorem dAll_write (u : Bool) (s : List UInt8) (ws : List (List UInt8)) (b : List UInt8) : DS.all ⟨u, s, ws ++ [b]⟩ = DS.all ⟨u, s, ws⟩ ++ b := by simp [DS.all]
/-- An act. -/
structure AD where
  kind : Int
  n : Int
  m : Int
  B : List UInt8
def dAct (d : DS) (a : AD) : Int × DS :=
  if a.kind = 0 ∨ a.kind = 1 ∨ a.kind = 2 then dWrite d a.B else if a.kind = 3 then dSync d else if a.kind = 4 then dCrash d a.n a.m else if a.kind = 5 ∨ a.kind = 6 then dStart d else if a.kind = 7 then dCut d a.n else (0, d)
theorem prefix_take {a b : List UInt8} (h : a <+: b) : a.length ≤ b.length ∧ b.take a.length = a := ⟨h.length_le, (List.prefix_iff_eq_take.1 h).symm⟩
theorem dAll_len_act (d : DS) (a : AD) : (dAct d a).2.all.length ≤ d.all.length + a.B.length ∧ (dAct d a).2.ws.length ≤ d.ws.length + 1 := by
  unfold dAct dWrite dSync dCrash dStart dCut
  repeat' split
  all_goals simp [DS.all]
  all_goals omega
theorem dWrite_refused (d : DS) (b : List UInt8) (h : (dWrite d b).1 ≠ 0) : (dWrite d b).2 = d := by
  unfold dWrite at h ⊢
  split
  · rename_i hh; rw [if_pos hh] at h; exact absurd rfl h
  · rfl
theorem dSync_refused (d : DS) (h : (dSync d).1 ≠ 0) : (dSync d).2 = d := by
  unfold dSync at h ⊢
  split
  · rename_i hh; rw [if_pos hh] at h; exact absurd rfl h
  · rfl
theorem dStart_refused (d : DS) (h : (dStart d).1 ≠ 0) : (dStart d).2 = d := by
  unfold dStart at h ⊢
  split
  · rfl
  · rename_i hh; rw [if_neg hh] at h; exact absurd rfl h
theorem dCrash_refused (d : DS) (k t : Int) (h : (dCrash d k t).1 ≠ 0) : (dCrash d k t).2 = d := by
  unfold dCrash at h ⊢
  split
  · rename_i hh; rw [if_pos hh] at h
    split
    · rfl
    · rename_i h2; rw [if_neg h2] at h; exact absurd rfl h
  · rfl
theorem dCut_refused (d : DS) (n : Int) (h : (dCut d n).1 ≠ 0) : (dCut d n).2 = d := by
  unfold dCut at h ⊢
  split
  · rename_i hh; rw [if_pos hh] at h
    split
    · rfl
    · rename_i h2; rw [if_neg h2] at h; exact absurd rfl h
  · rfl
theorem dAct_refused (d : DS) (a : AD) (h : (dAct d a).1 ≠ 0) : (dAct d a).2 = d := by
  unfold dAct at h ⊢
  split
  · rename_i hh; rw [if_pos hh] at h; exact dWrite_refused _ _ h
  rename_i h0; rw [if_neg h0] at h
  split
  · rename_i hh; rw [if_pos hh] at h; exact dSync_refused _ h
  rename_i h1; rw [if_neg h1] at h
  split
  · rename_i hh; rw [if_pos hh] at h; exact dCrash_refused _ _ _ h
  rename_i h2; rw [if_neg h2] at h
  split
  · rename_i hh; rw [if_pos hh] at h; exact dStart_refused _ h
  rename_i h3; rw [if_neg h3] at h
  split
  · rename_i hh; rw [if_pos hh] at h; exact dCut_refused _ _ h
  · rfl
theorem dAct_down (d : DS) (a : AD) (hu : d.up = false) (h : 0 ≤ a.kind ∧ a.kind ≤ 4) : (dAct d a).1 = 60 := by
  unfold dAct dWrite dSync dCrash
  rw [hu]
  have : a.kind = 0 ∨ a.kind = 1 ∨ a.kind = 2 ∨ a.kind = 3 ∨ a.kind = 4 := by omega
  rcases this with h | h | h | h | h <;> simp [h]
theorem take_pre {l : List UInt8} {a b : Nat} (h : a ≤ b) : l.take a <+: l.take b := List.prefix_of_prefix_length_le (List.take_prefix a l) (List.take_prefix b l) (by simp; omega)
theorem s_pre (d : DS) : d.s <+: d.all := List.prefix_append _ _
theorem s_pre_take (d : DS) {n : Nat} (h : d.s.length ≤ n) : d.s <+: d.all.take n := by
  have h1 : d.s = d.all.take d.s.length := by unfold DS.all; rw [List.take_append_of_le_length (Nat.le_refl _), List.take_of_length_le (Nat.le_refl _)]
  conv => lhs; rw [h1]
  exact take_pre h
theorem dAct_synced (d : DS) (a : AD) (h : a.kind ≠ 7) : d.s <+: (dAct d a).2.all := by
  unfold dAct
  split
  · unfold dWrite; split
    · exact List.prefix_append _ _
    · exact s_pre d
  split
  · unfold dSync; split
    · show d.s <+: DS.all ⟨true, d.all, []⟩
      rw [show DS.all ⟨true, d.all, []⟩ = d.all from List.append_nil _]
      exact s_pre d
    · exact s_pre d
  split
  · unfold dCrash; split
    · split
      · exact s_pre d
      · show d.s <+: DS.all ⟨false, d.all.take _, []⟩
        rw [show ∀ n, DS.all ⟨false, d.all.take n, []⟩ = d.all.take n from fun n => List.append_nil _]
        exact s_pre_take d (by unfold crashN; omega)
    · exact s_pre d
  split
  · unfold dStart; split
    · exact s_pre d
    · exact s_pre d
  exact s_pre d
theorem dAct_cut (d : DS) (a : AD) (h : a.kind = 7) : (dAct d a).2.all <+: d.all := by
  unfold dAct
  rw [if_neg (by omega), if_neg (by omega), if_neg (by omega), if_neg (by omega), if_pos h]
  unfold dCut; split
  · split
    · exact List.prefix_refl _
    · show DS.all ⟨true, d.all.take _, []⟩ <+: d.all
      rw [show ∀ n, DS.all ⟨true, d.all.take n, []⟩ = d.all.take n from fun n => List.append_nil _]
      exact List.take_prefix _ _
  · exact List.prefix_refl _
end Go.Proofs.Ytkidofecahaajaa
