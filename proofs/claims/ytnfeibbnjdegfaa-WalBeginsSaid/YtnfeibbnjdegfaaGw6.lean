/- Several texts in one, as they stand in wip/src. -/
import Derived.Test.YtnfeibbnjdegfaaGw4
import Derived.Test.YtnfeibbnjdegfaaGw5
/- Regions whose order is drawn, with acts behind which the class of worlds is another one: a quiet operation of the class must come ahead of them; pure operations may come anywhere. No program in sight. -/
namespace Go.Proofs.Ytnfeibbnjdegfaa
open Go Go.RowKit
set_option linter.unusedVariables false

inductive Ty
  | done
  | q (i : Nat) (t : Ty)
  | p (i : Nat) (t : Ty)
  | a (i : Nat) (t : Ty)
  | d (i : Nat) (t : Ty)
  | a2 (i : Nat) (t : Ty) (j : Nat) (u : Ty)
  | a3 (i : Nat) (t : Ty) (j : Nat) (u : Ty) (k : Nat) (v : Ty)
/-- Who stands behind 'k'. -/
def marksF (k : Nat) : List Oper → List Bool → List Bool
  | [], ms => ms
  | o :: l, ms => marksF k l (ms ++ [ms.length == k || o.after.any fun e => Region.binds .any e && ms.getD e.on false])
def behind (l : List Oper) (k j : Nat) : Bool := (marksF k l []).getD j false
theorem marksF_spec (k : Nat) (P : Nat → Prop) (listed : Nat → Bool) (hk : listed k = false) : ∀ (l pre : List Oper) (ms : List Bool), ms.length = pre.length →
    (∀ j o, (pre ++ l)[j]? = some o → listed j = true → ∀ e ∈ o.after, Region.binds .any e = true → listed e.on = true) →
    (∀ j, ms.getD j false = true → listed j = false ∧ (j = k ∨ ∃ o, (pre ++ l)[j]? = some o ∧ ∃ e ∈ o.after, Region.binds .any e = true ∧ listed e.on = false)) →
    ∀ j, (marksF k l ms).getD j false = true → listed j = false ∧ (j = k ∨ ∃ o, (pre ++ l)[j]? = some o ∧ ∃ e ∈ o.after, Region.binds .any e = true ∧ listed e.on = false)
  | [], pre, ms, _, _, hm => by unfold marksF; exact hm
  | o :: l, pre, ms, hl, hc, hm => by
    unfold marksF
    have e1 : pre ++ o :: l = (pre ++ [o]) ++ l := by simp
    rw [e1] at hc hm ⊢
    refine marksF_spec k P listed hk l (pre ++ [o]) _ (by simp [hl]) hc ?_
    intro j hj
    rcases Nat.lt_trichotomy j ms.length with h | h | h
    · rw [List.getD_eq_getElem?_getD, List.getElem?_append_left h, ← List.getD_eq_getElem?_getD] at hj
      exact hm j hj
    · subst h
      rw [List.getD_eq_getElem?_getD, List.getElem?_append_right (Nat.le_refl _)] at hj
      simp only [Nat.sub_self, List.getElem?_cons_zero, Option.getD_some, Bool.or_eq_true, beq_iff_eq, Array.any_eq_true', Bool.and_eq_true] at hj
      rcases hj with hj | ⟨e, he, hb, hme⟩
      · rw [hj]; exact ⟨hk, .inl rfl⟩
      · have hun := (hm _ hme).1
        have hoj : ((pre ++ [o]) ++ l)[ms.length]? = some o := by rw [hl]; simp
        refine ⟨?_, .inr ⟨o, hoj, e, he, hb, hun⟩⟩
        cases hlj : listed ms.length with
        | false => rfl
        | true => rw [hc _ o hoj hlj e he hb] at hun; cases hun
    · rw [List.getD_eq_getElem?_getD, List.getElem?_eq_none (by simp; omega)] at hj
      cases hj
/-- Who is listed, those ahead of him are. -/
def Closed (l : List Oper) (listed : Array Bool) : Prop := ∀ j o, l[j]? = some o → listed.getD j false = true → ∀ e ∈ o.after, Region.binds .any e = true → listed.getD e.on false = true
theorem Closed.set {l : List Oper} {listed : Array Bool} (h : Closed l listed) {i : Nat} (hr : i ∈ Region.ready .any l.toArray listed) : Closed l (listed.setIfInBounds i true) := by
  intro j o ho hl e he hb
  obtain ⟨_, o', ho', hall⟩ := mem_ready.1 hr
  by_cases hij : i = j
  · subst hij
    have : o' = o := Option.some.inj (ho'.symm.trans (by simpa using ho))
    subst this
    exact getD_set_true (hall e he hb)
  · rw [getD_set_ne false hij] at hl
    exact getD_set_true (h j o ho hl e he hb)
theorem behind_spec {l : List Oper} {listed : Array Bool} {k j : Nat} (hc : Closed l listed) (hk : listed.getD k false = false) (hb : behind l k j = true) (hne : j ≠ k) (hr : j ∈ Region.ready .any l.toArray listed) : False := by
  have := marksF_spec k (fun _ => True) (fun j => listed.getD j false) hk l [] [] rfl hc (by simp) j hb
  obtain ⟨_, h | ⟨o, ho, e, he, hb, hun⟩⟩ := this
  · exact hne h
  · obtain ⟨_, o', ho', hall⟩ := mem_ready.1 hr
    have : o' = o := Option.some.inj (ho'.symm.trans (by simpa using ho))
    subst this
    have hun' : listed.getD e.on false = false := hun
    rw [hall e he hb] at hun'; cases hun'
/-- All of the class that are listed stand ahead of 'j'. -/
def dropB (l : List Oper) (K : List Nat) (listed : Array Bool) (j : Nat) : Bool := K.all fun k => !(listed.getD k false) || behind l k j

def OT2 (P : Program) (l : List Oper) (K : List Nat) (Q : Exit → (Nat → Value) → World → Prop) : Nat → (World → Prop) → Array Bool → (Nat → Value) → World → Prop
  | 0, C, listed, e, w => Region.ready .any l.toArray listed = [] ∧ Q .normal e w
  | f + 1, C, listed, e, w => (Region.ready .any l.toArray listed = [] → Q .normal e w) ∧ ∀ i ∈ Region.ready .any l.toArray listed, ∀ o, l[i]? = some o →
      if wantedE l.toArray e o then opW P o e w (fun v w' => ∃ C' : World → Prop, (dropB l K listed i = true ∨ ∀ u, C' u → C u) ∧ C' w' ∧ OT2 P l K Q f C' (listed.setIfInBounds i true) (put e o.dst v) w') else OT2 P l K Q f C (listed.setIfInBounds i true) (put e o.dst undef) w

theorem wpAnyIn_of_OT2 {P : Program} {n : Nat} {rd : Option Nat} {ds : List Deferred} {Q : Exit → (Nat → Value) → World → Prop} {l : List Oper} {K : List Nat} (hd : dstsIn n l = true) {m : Nat} : ∀ (f : Nat) (C : World → Prop) (listed : Array Bool) (a : Act) (e : Nat → Value) (w : World),
    StD n ds a e → OT2 P l K Q f C listed e w → wpAnyIn (fen rd) m P .any l.toArray (QD n ds Q) f listed a w
  | 0, C, listed, a, e, w, hs, h => ⟨h.1, e, hs, h.2⟩
  | f + 1, C, listed, a, e, w, hs, h => by
    refine ⟨fun h0 => ⟨e, hs, h.1 h0⟩, fun i hi => ?_⟩
    obtain ⟨_, o, ho, _⟩ := mem_ready.1 hi
    have ho' : l[i]? = some o := by simpa using ho
    have hh := h.2 i hi o ho'
    have hdo : ∀ k, o.dst = some k → k < n := fun k hk => by
      unfold dstsIn at hd
      rw [List.all_eq_true] at hd
      have := hd o (List.mem_iff_getElem?.2 ⟨i, ho'⟩)
      rw [hk] at this
      simpa using this
    unfold wpOpIn
    simp only [ho]
    rw [wanted_eqD hs]
    split
    · rename_i hw
      rw [if_pos hw] at hh
      exact Oper.wpIn_of_opWF hs (opWF_of hh) fun v w' ⟨C', _, _, hv⟩ => wpAnyIn_of_OT2 hd f C' _ _ _ _ (hs.put hdo v) hv
    · rename_i hw
      rw [if_neg hw] at hh
      exact ⟨fun f _ => fen_fn rd f, wpAnyIn_of_OT2 hd f C _ _ _ _ (hs.put hdo undef) hh⟩

theorem OT2_first {P : Program} {l : List Oper} {K : List Nat} {Q : Exit → (Nat → Value) → World → Prop} {i : Nat} {oi : Oper} {v : Value} (pure : Bool) (hp : pure = false → i ∈ K) (hi : l[i]? = some oi)
    (hsel : ∀ (j : Nat) (o : Oper) cs b, l.toArray[j]? = some o → o.op ≠ .select cs b) :
    ∀ (f : Nat) (C : World → Prop) (listed : Array Bool) (e : Nat → Value) (w : World),
      (∀ j oj, l.toArray[j]? = some oj → j ≠ i → listed.getD j true = false → (∀ e ∈ oj.after, Region.binds .any e = true → e.on ≠ i) → oi.apart l.toArray oj = true) →
      i ∈ Region.ready .any l.toArray listed → Closed l listed → Quiet P l.toArray (fun u => pure = true ∨ C u) oi v e → C w →
      OT2 P l K Q f C (listed.setIfInBounds i true) (put e oi.dst v) w → OT2 P l K Q (f + 1) C listed e w := by
  intro f
  have doI : ∀ (f : Nat) (C : World → Prop) (listed : Array Bool) (e : Nat → Value) (w : World), Quiet P l.toArray (fun u => pure = true ∨ C u) oi v e → C w → OT2 P l K Q f C (listed.setIfInBounds i true) (put e oi.dst v) w →
      ∀ o, l[i]? = some o → if wantedE l.toArray e o then opW P o e w (fun v w' => ∃ C' : World → Prop, (dropB l K listed i = true ∨ ∀ u, C' u → C u) ∧ C' w' ∧ OT2 P l K Q f C' (listed.setIfInBounds i true) (put e o.dst v) w') else OT2 P l K Q f C (listed.setIfInBounds i true) (put e o.dst undef) w := by
    intro f C listed e w hq hC H o ho
    rw [hi] at ho
    cases ho
    rcases hq with ⟨hw, hr⟩ | ⟨hw, rfl⟩
    · rw [if_pos hw]
      exact opW_mono (hr w (.inr hC)) fun u w' ⟨hu, hw'⟩ => by subst hu; subst hw'; exact ⟨C, .inr fun _ h => h, hC, H⟩
    · rw [hw, if_neg (by simp)]
      exact H
  induction f with
  | zero =>
    intro C listed e w hfree hr hcl hq hC H
    refine ⟨fun h => (by rw [h] at hr; cases hr), fun j hj o ho => ?_⟩
    by_cases hji : j = i
    · subst hji; exact doI _ _ _ _ _ hq hC H o ho
    · have := ready_mono hj hji
      rw [H.1] at this
      cases this
  | succ f ih =>
    intro C listed e w hfree hr hcl hq hC H
    refine ⟨fun h => (by rw [h] at hr; cases hr), fun j hj oj hoj => ?_⟩
    by_cases hji : j = i
    · subst hji; exact doI _ _ _ _ _ hq hC H oj hoj
    · have hjr := ready_mono hj hji
      have h1 := H.2 j hjr oj hoj
      obtain ⟨hjun, oj', hoj', hall⟩ := mem_ready.1 hj
      have hojA : l.toArray[j]? = some oj := by simpa using hoj
      have : oj' = oj := Option.some.inj (hoj'.symm.trans hojA)
      subst this
      have hiun := (mem_ready.1 hr).1
      have hisz : i < listed.size := by
        rcases Nat.lt_or_ge i listed.size with h' | h'
        · exact h'
        · simp [Array.getElem?_eq_none h'] at hiun
      have hiun' : listed.getD i false = false := by simp [hisz] at hiun ⊢; exact hiun
      have hnot : ∀ e ∈ oj'.after, Region.binds .any e = true → e.on ≠ i := fun e he hb heq => by
        have h1 := hall e he hb
        rw [heq, hiun'] at h1
        cases h1
      have hap := hfree j oj' hoj' hji hjun hnot
      obtain ⟨p1, p2, p3⟩ := Oper.apart_spec hap
      have hsi : ∀ cs b, oi.op ≠ .select cs b := fun cs b => hsel i oi cs b (by simpa using hi)
      have hsj : ∀ cs b, oj'.op ≠ .select cs b := fun cs b => hsel j oj' cs b hoj'
      have hfree' : ∀ k ok, l.toArray[k]? = some ok → k ≠ i → (listed.setIfInBounds j true).getD k true = false →
          (∀ e ∈ ok.after, Region.binds .any e = true → e.on ≠ i) → oi.apart l.toArray ok = true := fun k ok hk hki hun hno => by
        refine hfree k ok hk hki ?_ hno
        by_cases hjk : j = k
        · subst hjk; exact hjun
        · rw [getD_set_ne true hjk] at hun; exact hun
      have hdrop : dropB l K (listed.setIfInBounds i true) j = true → dropB l K listed j = true ∧ pure = true := fun hd => by
        unfold dropB at hd ⊢
        rw [List.all_eq_true] at hd ⊢
        refine ⟨fun k hk => ?_, ?_⟩
        · have := hd k hk
          simp only [Bool.or_eq_true, Bool.not_eq_true'] at this ⊢
          rcases this with h | h
          · left
            by_cases hik : i = k
            · subst hik; exact hiun'
            · rwa [getD_set_ne false hik] at h
          · exact .inr h
        · cases hpp : pure with
          | true => rfl
          | false =>
            have := hd i (hp hpp)
            simp only [Bool.or_eq_true, Bool.not_eq_true'] at this
            rcases this with h | h
            · simp [hisz] at h
            · exact absurd (behind_spec hcl hiun' h hji hj) (fun h => h)
      have step : ∀ (u : Value) (w' : World) (C' : World → Prop), (dropB l K (listed.setIfInBounds i true) j = true ∨ ∀ u, C' u → C u) → C' w' → OT2 P l K Q f C' ((listed.setIfInBounds i true).setIfInBounds j true) (put (put e oi.dst v) oj'.dst u) w' →
          (dropB l K listed j = true ∨ ∀ u, C' u → C u) ∧ OT2 P l K Q (f + 1) C' (listed.setIfInBounds j true) (put e oj'.dst u) w' := fun u w' C' hor hC' h => by
        have hq' : Quiet P l.toArray (fun u => pure = true ∨ C' u) oi v e := by
          rcases hq with ⟨hw, hr⟩ | hx
          · refine .inl ⟨hw, fun w hc => hr w ?_⟩
            rcases hor with hd | hs
            · exact .inl (hdrop hd).2
            · exact hc.imp id (hs w)
          · exact .inr hx
        refine ⟨hor.imp (fun hd => (hdrop hd).1) id, ih C' (listed.setIfInBounds j true) _ _ hfree' (ready_mono hr (Ne.symm hji)) (hcl.set hj) (hq'.keep hsi p3 u) hC' ?_⟩
        rw [Array.setIfInBounds_comm _ _ hji, ← put_comm e v u p2]
        exact h
      rw [wantedE_put oj' e oi.dst v p1] at h1
      split
      · rename_i hw
        rw [if_pos hw] at h1
        have h1' : opW P oj' e w (fun u w' => ∃ C' : World → Prop, (dropB l K (listed.setIfInBounds i true) j = true ∨ ∀ u, C' u → C u) ∧ C' w' ∧ OT2 P l K Q f C' ((listed.setIfInBounds i true).setIfInBounds j true) (put (put e oi.dst v) oj'.dst u) w') := by
          unfold opW at h1 ⊢
          rw [execOp_putE oj' hsj e oi.dst v p1] at h1
          exact h1
        refine opW_mono h1' fun u w' ⟨C', hor, hc', hh⟩ => ?_
        obtain ⟨a1, a2⟩ := step u w' C' hor hc' hh
        exact ⟨C', a1, hc', a2⟩
      · rename_i hw
        rw [if_neg hw] at h1
        exact (step undef w C (.inr fun _ h => h) hC h1).2

/-- What an act is to come to. -/
def actY (P : Program) (l : List Oper) (o : Oper) (e : Nat → Value) (w : World) (keep : (World → Prop) → Prop) (next : (World → Prop) → (Nat → Value) → World → Prop) (pass : (Nat → Value) → World → Prop) : Prop :=
  if wantedE l.toArray e o then opW P o e w (fun v w' => ∃ C' : World → Prop, keep C' ∧ C' w' ∧ next C' (put e o.dst v) w') else pass (put e o.dst undef) w
/-- A walk along a tree. -/
def OY (P : Program) (l : List Oper) : (World → Prop) → (Exit → (Nat → Value) → World → Prop) → Ty → (Nat → Value) → World → Prop
  | _, Q, .done, e, w => Q .normal e w
  | C, Q, .q i t, e, w => ∀ o, nth l i = some o → ∃ v, Quiet P l.toArray C o v e ∧ OY P l C Q t (put e o.dst v) w
  | C, Q, .p i t, e, w => ∀ o, nth l i = some o → ∃ v, Quiet P l.toArray (fun _ => True) o v e ∧ OY P l C Q t (put e o.dst v) w
  | C, Q, .a i t, e, w => ∀ o, nth l i = some o → actY P l o e w (fun C' => ∀ u, C' u → C u) (fun C' e w => OY P l C' Q t e w) (OY P l C Q t)
  | C, Q, .d i t, e, w => ∀ o, nth l i = some o → actY P l o e w (fun C' => True) (fun C' e w => OY P l C' Q t e w) (OY P l C Q t)
  | C, Q, .a2 i t j u, e, w => (∀ o, nth l i = some o → actY P l o e w (fun C' => ∀ u, C' u → C u) (fun C' e w => OY P l C' Q t e w) (OY P l C Q t)) ∧ (∀ o, nth l j = some o → actY P l o e w (fun C' => ∀ u, C' u → C u) (fun C' e w => OY P l C' Q u e w) (OY P l C Q u))
  | C, Q, .a3 i t j u k v, e, w => (∀ o, nth l i = some o → actY P l o e w (fun C' => ∀ u, C' u → C u) (fun C' e w => OY P l C' Q t e w) (OY P l C Q t)) ∧ (∀ o, nth l j = some o → actY P l o e w (fun C' => ∀ u, C' u → C u) (fun C' e w => OY P l C' Q u e w) (OY P l C Q u)) ∧ (∀ o, nth l k = some o → actY P l o e w (fun C' => ∀ u, C' u → C u) (fun C' e w => OY P l C' Q v e w) (OY P l C Q v))
def Ty.graft : Ty → Ty → Ty
  | .done, s => s
  | .q i t, s => .q i (t.graft s)
  | .p i t, s => .p i (t.graft s)
  | .a i t, s => .a i (t.graft s)
  | .d i t, s => .d i (t.graft s)
  | .a2 i t j u, s => .a2 i (t.graft s) j (u.graft s)
  | .a3 i t j u k v, s => .a3 i (t.graft s) j (u.graft s) k (v.graft s)
def Ty.ok (l : List Oper) (K : List Nat) : Ty → Nat → Array Bool → Bool
  | .done, f, listed => (f == 0) && (Region.ready .any l.toArray listed).isEmpty
  | .q i t, f, listed => (f != 0) && K.contains i && (Region.ready .any l.toArray listed).contains i && Region.free .any l.toArray listed i && t.ok l K (f - 1) (listed.setIfInBounds i true)
  | .p i t, f, listed => (f != 0) && (Region.ready .any l.toArray listed).contains i && Region.free .any l.toArray listed i && t.ok l K (f - 1) (listed.setIfInBounds i true)
  | .a i t, f, listed => (f != 0) && (Region.ready .any l.toArray listed == [i]) && t.ok l K (f - 1) (listed.setIfInBounds i true)
  | .d i t, f, listed => (f != 0) && (Region.ready .any l.toArray listed == [i]) && dropB l K listed i && t.ok l K (f - 1) (listed.setIfInBounds i true)
  | .a2 i t j u, f, listed => (f != 0) && (Region.ready .any l.toArray listed == [i, j]) && t.ok l K (f - 1) (listed.setIfInBounds i true) && u.ok l K (f - 1) (listed.setIfInBounds j true)
  | .a3 i t j u k v, f, listed => (f != 0) && (Region.ready .any l.toArray listed == [i, j, k]) && t.ok l K (f - 1) (listed.setIfInBounds i true) && u.ok l K (f - 1) (listed.setIfInBounds j true) && v.ok l K (f - 1) (listed.setIfInBounds k true)
theorem actY_mono {P : Program} {l : List Oper} {o : Oper} {e : Nat → Value} {w : World} {k k' : (World → Prop) → Prop} {n n' : (World → Prop) → (Nat → Value) → World → Prop} {p p' : (Nat → Value) → World → Prop} (h : actY P l o e w k n p) (hk : ∀ C, k C → k' C) (hn : ∀ C e w, C w → n C e w → n' C e w) (hp : ∀ e, p e w → p' e w) : actY P l o e w k' n' p' := by
  unfold actY at *
  split
  · rename_i hw
    rw [if_pos hw] at h
    exact opW_mono h fun v w' ⟨C', a, b, c⟩ => ⟨C', hk _ a, b, hn _ _ _ b c⟩
  · rename_i hw
    rw [if_neg hw] at h
    exact hp _ h
theorem OT2_of_OY {P : Program} {l : List Oper} {K : List Nat} {Q : Exit → (Nat → Value) → World → Prop} (hs : Region.noSelect l.toArray = true) : ∀ (t : Ty) (C : World → Prop) (f : Nat) (listed : Array Bool) (e : Nat → Value) (w : World),
    t.ok l K f listed = true → Closed l listed → C w → OY P l C Q t e w → OT2 P l K Q f C listed e w := by
  intro t
  induction t with
  | done =>
    intro C f listed e w hk hcl hC h
    simp only [Ty.ok, Bool.and_eq_true, beq_iff_eq, List.isEmpty_iff] at hk
    obtain ⟨rfl, hr⟩ := hk
    exact ⟨hr, h⟩
  | q i t ih =>
    intro C f listed e w hk hcl hC h
    simp only [Ty.ok, Bool.and_eq_true, bne_iff_ne] at hk
    obtain ⟨⟨⟨⟨hf, hK⟩, hr⟩, hfree⟩, hk'⟩ := hk
    obtain ⟨f, rfl⟩ : ∃ g, f = g + 1 := ⟨f - 1, by omega⟩
    have hr : i ∈ Region.ready .any l.toArray listed := by simpa using hr
    obtain ⟨_, o, ho, _⟩ := mem_ready.1 hr
    have ho' : l[i]? = some o := by simpa using ho
    obtain ⟨v, hq, hrest⟩ := h o (by rw [nth_eq]; exact ho')
    refine OT2_first false (fun _ => by simpa using hK) ho' (Region.noSelect_spec hs) f C listed e w (Region.free_spec ho hfree) hr hcl ?_ hC (ih C f _ _ _ hk' (hcl.set hr) hC hrest)
    rcases hq with ⟨hw, hr⟩ | hx
    · exact .inl ⟨hw, fun w hc => hr w (hc.resolve_left (by simp))⟩
    · exact .inr hx
  | p i t ih =>
    intro C f listed e w hk hcl hC h
    simp only [Ty.ok, Bool.and_eq_true, bne_iff_ne] at hk
    obtain ⟨⟨⟨hf, hr⟩, hfree⟩, hk'⟩ := hk
    obtain ⟨f, rfl⟩ : ∃ g, f = g + 1 := ⟨f - 1, by omega⟩
    have hr : i ∈ Region.ready .any l.toArray listed := by simpa using hr
    obtain ⟨_, o, ho, _⟩ := mem_ready.1 hr
    have ho' : l[i]? = some o := by simpa using ho
    obtain ⟨v, hq, hrest⟩ := h o (by rw [nth_eq]; exact ho')
    refine OT2_first true (fun h => by cases h) ho' (Region.noSelect_spec hs) f C listed e w (Region.free_spec ho hfree) hr hcl ?_ hC (ih C f _ _ _ hk' (hcl.set hr) hC hrest)
    rcases hq with ⟨hw, hr⟩ | hx
    · exact .inl ⟨hw, fun w hc => hr w trivial⟩
    · exact .inr hx
  | a i t ih =>
    intro C f listed e w hk hcl hC h
    simp only [Ty.ok, Bool.and_eq_true, bne_iff_ne, beq_iff_eq] at hk
    obtain ⟨⟨hf, hr⟩, hk'⟩ := hk
    obtain ⟨f, rfl⟩ : ∃ g, f = g + 1 := ⟨f - 1, by omega⟩
    refine ⟨fun h0 => (by rw [h0] at hr; cases hr), fun j hj o ho => ?_⟩
    have hjr := hj
    rw [hr, List.mem_singleton] at hj
    subst hj
    have hh := h o (by rw [nth_eq]; exact ho)
    exact actY_mono hh (fun C h => .inr h) (fun C' e w hc h => ih C' f _ _ _ hk' (hcl.set hjr) hc h) (fun e h => ih C f _ _ _ hk' (hcl.set hjr) hC h)
  | d i t ih =>
    intro C f listed e w hk hcl hC h
    simp only [Ty.ok, Bool.and_eq_true, bne_iff_ne, beq_iff_eq] at hk
    obtain ⟨⟨⟨hf, hr⟩, hdr⟩, hk'⟩ := hk
    obtain ⟨f, rfl⟩ : ∃ g, f = g + 1 := ⟨f - 1, by omega⟩
    refine ⟨fun h0 => (by rw [h0] at hr; cases hr), fun j hj o ho => ?_⟩
    have hjr := hj
    rw [hr, List.mem_singleton] at hj
    subst hj
    have hh := h o (by rw [nth_eq]; exact ho)
    exact actY_mono hh (fun C h => .inl hdr) (fun C' e w hc h => ih C' f _ _ _ hk' (hcl.set hjr) hc h) (fun e h => ih C f _ _ _ hk' (hcl.set hjr) hC h)
  | a2 i t j u iht ihu =>
    intro C f listed e w hk hcl hC h
    simp only [Ty.ok, Bool.and_eq_true, bne_iff_ne, beq_iff_eq] at hk
    obtain ⟨⟨⟨hf, hr⟩, hk1⟩, hk2⟩ := hk
    obtain ⟨f, rfl⟩ : ∃ g, f = g + 1 := ⟨f - 1, by omega⟩
    refine ⟨fun h0 => (by rw [h0] at hr; cases hr), fun x hx o ho => ?_⟩
    have hxr := hx
    rw [hr, List.mem_cons, List.mem_singleton] at hx
    rcases hx with rfl | rfl
    · exact actY_mono (h.1 o (by rw [nth_eq]; exact ho)) (fun C h => .inr h) (fun C' e w hc h => iht C' f _ _ _ hk1 (hcl.set hxr) hc h) (fun e h => iht C f _ _ _ hk1 (hcl.set hxr) hC h)
    · exact actY_mono (h.2 o (by rw [nth_eq]; exact ho)) (fun C h => .inr h) (fun C' e w hc h => ihu C' f _ _ _ hk2 (hcl.set hxr) hc h) (fun e h => ihu C f _ _ _ hk2 (hcl.set hxr) hC h)
  | a3 i t j u k v iht ihu ihv =>
    intro C f listed e w hk hcl hC h
    simp only [Ty.ok, Bool.and_eq_true, bne_iff_ne, beq_iff_eq] at hk
    obtain ⟨⟨⟨⟨hf, hr⟩, hk1⟩, hk2⟩, hk3⟩ := hk
    obtain ⟨f, rfl⟩ : ∃ g, f = g + 1 := ⟨f - 1, by omega⟩
    refine ⟨fun h0 => (by rw [h0] at hr; cases hr), fun x hx o ho => ?_⟩
    have hxr := hx
    rw [hr, List.mem_cons, List.mem_cons, List.mem_singleton] at hx
    rcases hx with rfl | rfl | rfl
    · exact actY_mono (h.1 o (by rw [nth_eq]; exact ho)) (fun C h => .inr h) (fun C' e w hc h => iht C' f _ _ _ hk1 (hcl.set hxr) hc h) (fun e h => iht C f _ _ _ hk1 (hcl.set hxr) hC h)
    · exact actY_mono (h.2.1 o (by rw [nth_eq]; exact ho)) (fun C h => .inr h) (fun C' e w hc h => ihu C' f _ _ _ hk2 (hcl.set hxr) hc h) (fun e h => ihu C f _ _ _ hk2 (hcl.set hxr) hC h)
    · exact actY_mono (h.2.2 o (by rw [nth_eq]; exact ho)) (fun C h => .inr h) (fun C' e w hc h => ihv C' f _ _ _ hk3 (hcl.set hxr) hc h) (fun e h => ihv C f _ _ _ hk3 (hcl.set hxr) hC h)

section
variable {rd : Option Nat} {ds : List Deferred} {P : Program} {n : Nat} {Q : Exit → (Nat → Value) → World → Prop} {e : Nat → Value} {w : World}
theorem FW_tree2 {id : Nat} {l : List Oper} (K : List Nat) (t : Ty) (C : World → Prop) (hm : P.follows .mixedOrders = true) (hd : dstsIn n l = true)
    (hk : (Region.noSelect l.toArray && t.ok l K l.length (Array.replicate l.length false)) = true) (hC : ∀ w', Ext w w' → C w') (h : ∀ w', Ext w w' → C w' → OY P l C Q t e w') : FW rd ds P n (.region id l.toArray true) Q e w := by
  refine FW_mk fun m a hs => ?_
  refine wpIn_region_any hm ?_
  rw [Bool.and_eq_true] at hk
  have := wpAnyIn_of_OT2 (rd := rd) hd (m := m) l.length C (Array.replicate l.length false) a e w.drew hs (OT2_of_OY hk.1 t C l.length (Array.replicate l.length false) e w.drew hk.2 (fun j o _ hl => by rw [getD_replicate_false] at hl; cases hl) (hC _ (Ext.drew' w)) (h _ (Ext.drew' w) (hC _ (Ext.drew' w))))
  simpa using this
theorem CW_tree2 {id : Nat} {l : List Oper} (K : List Nat) (t : Ty) (C : World → Prop) (hm : P.follows .mixedOrders = true) (hd : dstsIn n l = true)
    (hk : (Region.noSelect l.toArray && t.ok l K l.length (Array.replicate l.length false)) = true) (hC : ∀ w', Ext w w' → C w') (h : ∀ w', Ext w w' → C w' → OY P l C Q t e w') : CW P n (.region id l.toArray true) Q e w :=
  CW_of_FW (FW_tree2 K t C hm hd hk hC h)
end
section
variable {P : Program} {l : List Oper} {C : World → Prop} {Q : Exit → (Nat → Value) → World → Prop} {e : Nat → Value} {w : World} {d : Tmp} {op : Op} {ty : TypeId} {pos : String} {aft : Array Edge}
theorem OY_done (h : Q .normal e w) : OY P l C Q .done e w := h
theorem quiet_of {C : World → Prop} {v : Value} (h1 : ∀ w, C w → OW P l.toArray (stay e d v w) [⟨some d, op, ty, pos, aft, none⟩] e w) : Quiet P l.toArray C ⟨some d, op, ty, pos, aft, none⟩ v e := by
  refine .inl ⟨rfl, fun w hw => ?_⟩
  have hh := h1 w hw
  unfold OW at hh
  rw [if_pos (by rfl)] at hh
  have hinj : ∀ u, upd e d u = upd e d v → u = v := fun u hu => by
    have := congrFun hu d
    rwa [upd_same, upd_same] at this
  exact opW_mono hh fun u w' hx => by unfold OW stay at hx; exact ⟨hinj _ hx.2.1, hx.2.2⟩
theorem quiet_take {C : World → Prop} {v : Value} {g : Nat × Bool} (hw : wantedE l.toArray e ⟨some d, op, ty, pos, aft, some g⟩ = true) (h1 : ∀ w, C w → OW P l.toArray (stay e d v w) [⟨some d, op, ty, pos, aft, none⟩] e w) : Quiet P l.toArray C ⟨some d, op, ty, pos, aft, some g⟩ v e := by
  refine .inl ⟨hw, fun w hw => ?_⟩
  have hh := h1 w hw
  unfold OW at hh
  rw [if_pos (by rfl)] at hh
  have hinj : ∀ u, upd e d u = upd e d v → u = v := fun u hu => by
    have := congrFun hu d
    rwa [upd_same, upd_same] at this
  have hh2 : opW P ⟨some d, op, ty, pos, aft, some g⟩ e w (fun u w' => OW P l.toArray (stay e d v w) [] (upd e d u) w') := by unfold opW at hh ⊢; exact hh
  exact opW_mono hh2 fun u w' hx => by unfold OW stay at hx; exact ⟨hinj _ hx.2.1, hx.2.2⟩
theorem OY_q {i : Nat} {t : Ty} (v : Value) (ho : nth l i = some ⟨some d, op, ty, pos, aft, none⟩) (h1 : ∀ w, C w → OW P l.toArray (stay e d v w) [⟨some d, op, ty, pos, aft, none⟩] e w) (h : OY P l C Q t (upd e d v) w) : OY P l C Q (.q i t) e w := by
  unfold OY
  intro o ho'
  rw [ho] at ho'
  cases ho'
  exact ⟨v, quiet_of h1, h⟩
theorem OY_p {i : Nat} {t : Ty} (v : Value) (ho : nth l i = some ⟨some d, op, ty, pos, aft, none⟩) (h1 : ∀ w, OW P l.toArray (stay e d v w) [⟨some d, op, ty, pos, aft, none⟩] e w) (h : OY P l C Q t (upd e d v) w) : OY P l C Q (.p i t) e w := by
  unfold OY
  intro o ho'
  rw [ho] at ho'
  cases ho'
  exact ⟨v, quiet_of fun w _ => h1 w, h⟩
theorem OY_qtake {i : Nat} {t : Ty} {g : Nat × Bool} (v : Value) (ho : nth l i = some ⟨some d, op, ty, pos, aft, some g⟩) (hw : wantedE l.toArray e ⟨some d, op, ty, pos, aft, some g⟩ = true) (h1 : ∀ w, C w → OW P l.toArray (stay e d v w) [⟨some d, op, ty, pos, aft, none⟩] e w) (h : OY P l C Q t (upd e d v) w) : OY P l C Q (.q i t) e w := by
  unfold OY
  intro o ho'
  rw [ho] at ho'
  cases ho'
  exact ⟨v, quiet_take hw h1, h⟩
theorem OY_ptake {i : Nat} {t : Ty} {g : Nat × Bool} (v : Value) (ho : nth l i = some ⟨some d, op, ty, pos, aft, some g⟩) (hw : wantedE l.toArray e ⟨some d, op, ty, pos, aft, some g⟩ = true) (h1 : ∀ w, OW P l.toArray (stay e d v w) [⟨some d, op, ty, pos, aft, none⟩] e w) (h : OY P l C Q t (upd e d v) w) : OY P l C Q (.p i t) e w := by
  unfold OY
  intro o ho'
  rw [ho] at ho'
  cases ho'
  exact ⟨v, quiet_take hw fun w _ => h1 w, h⟩
theorem OY_qpass {i : Nat} {t : Ty} {dst : Option Tmp} {g : Nat × Bool} (ho : nth l i = some ⟨dst, op, ty, pos, aft, some g⟩) (hw : wantedE l.toArray e ⟨dst, op, ty, pos, aft, some g⟩ = false) (h : OY P l C Q t (put e dst undef) w) : OY P l C Q (.q i t) e w := by
  unfold OY
  intro o ho'
  rw [ho] at ho'
  cases ho'
  exact ⟨undef, .inr ⟨hw, rfl⟩, h⟩
theorem OY_ppass {i : Nat} {t : Ty} {dst : Option Tmp} {g : Nat × Bool} (ho : nth l i = some ⟨dst, op, ty, pos, aft, some g⟩) (hw : wantedE l.toArray e ⟨dst, op, ty, pos, aft, some g⟩ = false) (h : OY P l C Q t (put e dst undef) w) : OY P l C Q (.p i t) e w := by
  unfold OY
  intro o ho'
  rw [ho] at ho'
  cases ho'
  exact ⟨undef, .inr ⟨hw, rfl⟩, h⟩
/-- What an act comes to: the class that lasts, and the rest. -/
def goY (P : Program) (l : List Oper) (keep : (World → Prop) → Prop) (Q : Exit → (Nat → Value) → World → Prop) (t : Ty) : Exit → (Nat → Value) → World → Prop := fun x e w => x = .normal ∧ ∃ C' : World → Prop, keep C' ∧ C' w ∧ OY P l C' Q t e w
theorem goY_mk {t : Ty} (hC : C w) (h : OY P l C Q t e w) : goY P l (fun C' => ∀ u, C' u → C u) Q t .normal e w := ⟨rfl, C, fun _ h => h, hC, h⟩
theorem goY_sub {t : Ty} (C' : World → Prop) (hs : ∀ u, C' u → C u) (hC : C' w) (h : OY P l C' Q t e w) : goY P l (fun C' => ∀ u, C' u → C u) Q t .normal e w := ⟨rfl, C', hs, hC, h⟩
theorem goY_drop {t : Ty} (C' : World → Prop) (hC : C' w) (h : OY P l C' Q t e w) : goY P l (fun _ => True) Q t .normal e w := ⟨rfl, C', trivial, hC, h⟩
theorem goY_done (h : Q .normal e w) : goY P l (fun _ => True) Q .done .normal e w := ⟨rfl, fun _ => True, trivial, trivial, h⟩
theorem actY_of {keep : (World → Prop) → Prop} {i : Nat} {t : Ty} {dst : Option Tmp} {pass : (Nat → Value) → World → Prop} (ho : nth l i = some ⟨dst, op, ty, pos, aft, none⟩) (h : OW P l.toArray (goY P l keep Q t) [⟨dst, op, ty, pos, aft, none⟩] e w) :
    ∀ o, nth l i = some o → actY P l o e w keep (fun C' e w => OY P l C' Q t e w) pass := by
  intro o ho'
  rw [ho] at ho'
  cases ho'
  unfold actY
  rw [if_pos (by rfl)]
  unfold OW at h
  rw [if_pos (by rfl)] at h
  exact opW_mono h fun v w' hx => by unfold OW goY at hx; exact hx.2
theorem actY_take {keep : (World → Prop) → Prop} {i : Nat} {t : Ty} {dst : Option Tmp} {g : Nat × Bool} {pass : (Nat → Value) → World → Prop} (ho : nth l i = some ⟨dst, op, ty, pos, aft, some g⟩) (hw : wantedE l.toArray e ⟨dst, op, ty, pos, aft, some g⟩ = true) (h : OW P l.toArray (goY P l keep Q t) [⟨dst, op, ty, pos, aft, none⟩] e w) :
    ∀ o, nth l i = some o → actY P l o e w keep (fun C' e w => OY P l C' Q t e w) pass := by
  intro o ho'
  rw [ho] at ho'
  cases ho'
  unfold actY
  rw [if_pos hw]
  unfold OW at h
  rw [if_pos (by rfl)] at h
  have h2 : opW P ⟨dst, op, ty, pos, aft, some g⟩ e w (fun v w' => OW P l.toArray (goY P l keep Q t) [] (put e dst v) w') := by unfold opW at h ⊢; exact h
  exact opW_mono h2 fun v w' hx => by unfold OW goY at hx; exact hx.2
theorem actY_pass {keep : (World → Prop) → Prop} {i : Nat} {t : Ty} {dst : Option Tmp} {g : Nat × Bool} (ho : nth l i = some ⟨dst, op, ty, pos, aft, some g⟩) (hw : wantedE l.toArray e ⟨dst, op, ty, pos, aft, some g⟩ = false) (h : OY P l C Q t (put e dst undef) w) :
    ∀ o, nth l i = some o → actY P l o e w keep (fun C' e w => OY P l C' Q t e w) (OY P l C Q t) := by
  intro o ho'
  rw [ho] at ho'
  cases ho'
  unfold actY
  rw [if_neg (by rw [hw]; simp)]
  exact h
theorem OY_a {i : Nat} {t : Ty} (h : ∀ o, nth l i = some o → actY P l o e w (fun C' => ∀ u, C' u → C u) (fun C' e w => OY P l C' Q t e w) (OY P l C Q t)) : OY P l C Q (.a i t) e w := h
theorem OY_d {i : Nat} {t : Ty} (h : ∀ o, nth l i = some o → actY P l o e w (fun _ => True) (fun C' e w => OY P l C' Q t e w) (OY P l C Q t)) : OY P l C Q (.d i t) e w := h
theorem OY_a2 {i j : Nat} {t u : Ty} (h : ∀ o, nth l i = some o → actY P l o e w (fun C' => ∀ u, C' u → C u) (fun C' e w => OY P l C' Q t e w) (OY P l C Q t)) (h2 : ∀ o, nth l j = some o → actY P l o e w (fun C' => ∀ u, C' u → C u) (fun C' e w => OY P l C' Q u e w) (OY P l C Q u)) : OY P l C Q (.a2 i t j u) e w := ⟨h, h2⟩
theorem OY_a3 {i j k : Nat} {t u v : Ty} (h : ∀ o, nth l i = some o → actY P l o e w (fun C' => ∀ u, C' u → C u) (fun C' e w => OY P l C' Q t e w) (OY P l C Q t)) (h2 : ∀ o, nth l j = some o → actY P l o e w (fun C' => ∀ u, C' u → C u) (fun C' e w => OY P l C' Q u e w) (OY P l C Q u)) (h3 : ∀ o, nth l k = some o → actY P l o e w (fun C' => ∀ u, C' u → C u) (fun C' e w => OY P l C' Q v e w) (OY P l C Q v)) : OY P l C Q (.a3 i t j u k v) e w := ⟨h, h2, h3⟩
/-- A test of the region, in both ways. -/
theorem OY_split {t : Ty} (s : Nat) (b : Bool) (hs : e s = .bool b) (ht : b = true → OY P l C Q t (upd e s (.bool true)) w) (hf : b = false → OY P l C Q t (upd e s (.bool false)) w) : OY P l C Q t e w := by
  cases b with
  | true => rw [upd_self hs]; exact ht rfl
  | false => rw [upd_self hs]; exact hf rfl
end
attribute [irreducible] OY goY actY
end Go.Proofs.Ytnfeibbnjdegfaa

/- Walks: SHA's small functions, the program's and the reference's. -/
namespace Go.Proofs.Ytnfeibbnjdegfaa
open Go Go.RowKit
set_option linter.unusedVariables false
set_option maxRecDepth 4000

theorem go_Sha1 {A B : Prop} (h : Held B → A := by
  intro hEnd
  repeat (first | refine OW_addW rfl rfl ?_ | refine OW_andW rfl rfl ?_ | refine OW_orW rfl rfl ?_ | refine OW_xorW rfl rfl ?_ | refine OW_notW rfl ?_ | refine OW_shrW _ rfl rfl rfl (by omega) ?_ | refine OW_shlV _ rfl rfl (by omega) ?_ | refine OW_moveV (.int _ _) rfl ?_ | refine OW_moveV (.slice _ _ _) rfl ?_ | refine OW_moveV (.bool _) rfl ?_ | refine OW_moveV (.pointer _) rfl ?_ | refine OW_moveV (.string _) rfl ?_ | refine OW_moveV (.agg _) rfl ?_ | refine OW_moveV (.tuple _) rfl ?_ | refine OW_nil ?_ | refine thenE_normal ?_ | refine CW_seq ?_ | refine CW_region (by kernel_rfl) ?_ | refine OW_assignV (.int _ _) rfl ?_ | refine OW_assignV (.slice _ _ _) rfl ?_ | refine OW_assignV (.bool _) rfl ?_ | refine OW_assignV (.pointer _) rfl ?_ | refine OW_assignV (.string _) rfl ?_ | refine OW_assignV (.agg _) rfl ?_ | refine OW_assignV (.tuple _) rfl ?_ | refine OW_addI rfl rfl (by omega) ?_ | refine OW_subI rfl rfl (by omega) ?_ | refine OW_mulI rfl rfl (by omega) ?_ | refine OW_lss rfl rfl ?_ | refine OW_extract rfl rfl ?_ | refine OW_gtr rfl rfl ?_ | refine OW_leq rfl rfl ?_ | refine OW_geq rfl rfl ?_ | refine OW_eql rfl rfl ?_ | refine OW_neq rfl rfl ?_ | refine OW_not rfl ?_ | refine OW_pickT rfl _ rfl ?_ | refine OW_pickF rfl (.bool _) rfl ?_ | refine OW_pickB rfl rfl rfl ?_ | refine OW_move ?_ | refine OW_assign ?_ | refine OW_pass rfl ?_ | refine OW_take rfl ?_ | refine OW_lenS (by first | with_reducible exact und_bytes | with_reducible exact und_bytess) rfl ?_ | refine OW_convInt (by first | with_reducible exact und_u8 | with_reducible exact und_u64 | with_reducible exact und_int | with_reducible exact und_u32) (by first | with_reducible exact und_u8 | with_reducible exact und_u64 | with_reducible exact und_int | with_reducible exact und_u32) rfl ?_ | refine OW_add rfl rfl ?_ | refine OW_sub rfl rfl ?_ | refine OW_mul rfl rfl ?_ | refine OW_min2 rfl rfl ?_ | refine OW_max2 rfl rfl ?_ | refine OW_neg rfl ?_ | refine CW_block ?_ | refine CW_condT rfl ?_ | refine CW_condF rfl ?_ | refine CW_exit ?_ | refine CW_ret ?_ | refine CW_skip ?_ | refine LW_seq ?_ | refine LW_regC ?_ | refine LW_condC ?_ | refine LW_regF ?_ | refine LW_condF ?_ | refine FW_seq ?_ | refine FW_region (by kernel_rfl) ?_ | refine FW_block ?_ | refine FW_condT rfl ?_ | refine FW_condF rfl ?_ | refine FW_exit ?_ | refine FW_ret ?_ | refine FW_skip ?_ | refine LW_ret ?_ | refine LW_skip ?_ | refine thenE_exit ?_ | refine thenE_ret ?_ | refine inBlockE_normal ?_ | refine inBlockE_same ?_ | refine inBlockE_ret ?_ | refine inBlockE_ne (by rfl) ?_ | refine OW_eqlB (by with_reducible exact und_bool) rfl rfl ?_ | refine OW_neqB (by with_reducible exact und_bool) rfl rfl ?_ | refine OW_idxS (by with_reducible exact und_bytes) one_u8 rfl rfl _ rfl (by omega) ?_ | refine OW_idxS (by with_reducible exact und_bytess) one_bytes rfl rfl _ rfl (by omega) ?_ | refine OW_load1 (by first | with_reducible exact one_u8 | with_reducible exact one_bytes) rfl _ (by assumption) ?_)
  exact hEnd.out) (k : B) : A := h ⟨k⟩
theorem oy_Sha1 {A B : Prop} (h : Held B → A := by
  intro hEnd
  repeat (first
    | refine OY_done ?_
    | (apply OY_p _ rfl
       · intro wd
         (first | refine OW_addW rfl rfl ?_ | refine OW_andW rfl rfl ?_ | refine OW_orW rfl rfl ?_ | refine OW_xorW rfl rfl ?_ | refine OW_notW rfl ?_ | refine OW_shrW _ rfl rfl rfl (by omega) ?_ | refine OW_shlV _ rfl rfl (by omega) ?_ | refine OW_moveV (.int _ _) rfl ?_ | refine OW_moveV (.slice _ _ _) rfl ?_ | refine OW_moveV (.bool _) rfl ?_ | refine OW_moveV (.pointer _) rfl ?_ | refine OW_moveV (.string _) rfl ?_ | refine OW_moveV (.agg _) rfl ?_ | refine OW_moveV (.tuple _) rfl ?_ | refine OW_nil ?_ | refine thenE_normal ?_ | refine CW_seq ?_ | refine CW_region (by kernel_rfl) ?_ | refine OW_assignV (.int _ _) rfl ?_ | refine OW_assignV (.slice _ _ _) rfl ?_ | refine OW_assignV (.bool _) rfl ?_ | refine OW_assignV (.pointer _) rfl ?_ | refine OW_assignV (.string _) rfl ?_ | refine OW_assignV (.agg _) rfl ?_ | refine OW_assignV (.tuple _) rfl ?_ | refine OW_addI rfl rfl (by omega) ?_ | refine OW_subI rfl rfl (by omega) ?_ | refine OW_mulI rfl rfl (by omega) ?_ | refine OW_lss rfl rfl ?_ | refine OW_extract rfl rfl ?_ | refine OW_gtr rfl rfl ?_ | refine OW_leq rfl rfl ?_ | refine OW_geq rfl rfl ?_ | refine OW_eql rfl rfl ?_ | refine OW_neq rfl rfl ?_ | refine OW_not rfl ?_ | refine OW_pickT rfl _ rfl ?_ | refine OW_pickF rfl (.bool _) rfl ?_ | refine OW_pickB rfl rfl rfl ?_ | refine OW_move ?_ | refine OW_assign ?_ | refine OW_pass rfl ?_ | refine OW_take rfl ?_ | refine OW_lenS (by first | with_reducible exact und_bytes | with_reducible exact und_bytess) rfl ?_ | refine OW_convInt (by first | with_reducible exact und_u8 | with_reducible exact und_u64 | with_reducible exact und_int | with_reducible exact und_u32) (by first | with_reducible exact und_u8 | with_reducible exact und_u64 | with_reducible exact und_int | with_reducible exact und_u32) rfl ?_ | refine OW_add rfl rfl ?_ | refine OW_sub rfl rfl ?_ | refine OW_mul rfl rfl ?_ | refine OW_min2 rfl rfl ?_ | refine OW_max2 rfl rfl ?_ | refine OW_neg rfl ?_ | refine CW_block ?_ | refine CW_condT rfl ?_ | refine CW_condF rfl ?_ | refine CW_exit ?_ | refine CW_ret ?_ | refine CW_skip ?_ | refine LW_seq ?_ | refine LW_regC ?_ | refine LW_condC ?_ | refine LW_regF ?_ | refine LW_condF ?_ | refine FW_seq ?_ | refine FW_region (by kernel_rfl) ?_ | refine FW_block ?_ | refine FW_condT rfl ?_ | refine FW_condF rfl ?_ | refine FW_exit ?_ | refine FW_ret ?_ | refine FW_skip ?_ | refine LW_ret ?_ | refine LW_skip ?_ | refine thenE_exit ?_ | refine thenE_ret ?_ | refine inBlockE_normal ?_ | refine inBlockE_same ?_ | refine inBlockE_ret ?_ | refine inBlockE_ne (by rfl) ?_ | refine OW_eqlB (by with_reducible exact und_bool) rfl rfl ?_ | refine OW_neqB (by with_reducible exact und_bool) rfl rfl ?_ | refine OW_idxS (by with_reducible exact und_bytes) one_u8 rfl rfl _ rfl (by omega) ?_ | refine OW_idxS (by with_reducible exact und_bytess) one_bytes rfl rfl _ rfl (by omega) ?_ | refine OW_load1 (by first | with_reducible exact one_u8 | with_reducible exact one_bytes) rfl _ (by assumption) ?_)
         refine OW_nil ?_
         exact stay_mk _ _ _ _)
    | (apply OY_q _ rfl
       · intro wd hwd
         (first | refine OW_addW rfl rfl ?_ | refine OW_andW rfl rfl ?_ | refine OW_orW rfl rfl ?_ | refine OW_xorW rfl rfl ?_ | refine OW_notW rfl ?_ | refine OW_shrW _ rfl rfl rfl (by omega) ?_ | refine OW_shlV _ rfl rfl (by omega) ?_ | refine OW_moveV (.int _ _) rfl ?_ | refine OW_moveV (.slice _ _ _) rfl ?_ | refine OW_moveV (.bool _) rfl ?_ | refine OW_moveV (.pointer _) rfl ?_ | refine OW_moveV (.string _) rfl ?_ | refine OW_moveV (.agg _) rfl ?_ | refine OW_moveV (.tuple _) rfl ?_ | refine OW_nil ?_ | refine thenE_normal ?_ | refine CW_seq ?_ | refine CW_region (by kernel_rfl) ?_ | refine OW_assignV (.int _ _) rfl ?_ | refine OW_assignV (.slice _ _ _) rfl ?_ | refine OW_assignV (.bool _) rfl ?_ | refine OW_assignV (.pointer _) rfl ?_ | refine OW_assignV (.string _) rfl ?_ | refine OW_assignV (.agg _) rfl ?_ | refine OW_assignV (.tuple _) rfl ?_ | refine OW_addI rfl rfl (by omega) ?_ | refine OW_subI rfl rfl (by omega) ?_ | refine OW_mulI rfl rfl (by omega) ?_ | refine OW_lss rfl rfl ?_ | refine OW_extract rfl rfl ?_ | refine OW_gtr rfl rfl ?_ | refine OW_leq rfl rfl ?_ | refine OW_geq rfl rfl ?_ | refine OW_eql rfl rfl ?_ | refine OW_neq rfl rfl ?_ | refine OW_not rfl ?_ | refine OW_pickT rfl _ rfl ?_ | refine OW_pickF rfl (.bool _) rfl ?_ | refine OW_pickB rfl rfl rfl ?_ | refine OW_move ?_ | refine OW_assign ?_ | refine OW_pass rfl ?_ | refine OW_take rfl ?_ | refine OW_lenS (by first | with_reducible exact und_bytes | with_reducible exact und_bytess) rfl ?_ | refine OW_convInt (by first | with_reducible exact und_u8 | with_reducible exact und_u64 | with_reducible exact und_int | with_reducible exact und_u32) (by first | with_reducible exact und_u8 | with_reducible exact und_u64 | with_reducible exact und_int | with_reducible exact und_u32) rfl ?_ | refine OW_add rfl rfl ?_ | refine OW_sub rfl rfl ?_ | refine OW_mul rfl rfl ?_ | refine OW_min2 rfl rfl ?_ | refine OW_max2 rfl rfl ?_ | refine OW_neg rfl ?_ | refine CW_block ?_ | refine CW_condT rfl ?_ | refine CW_condF rfl ?_ | refine CW_exit ?_ | refine CW_ret ?_ | refine CW_skip ?_ | refine LW_seq ?_ | refine LW_regC ?_ | refine LW_condC ?_ | refine LW_regF ?_ | refine LW_condF ?_ | refine FW_seq ?_ | refine FW_region (by kernel_rfl) ?_ | refine FW_block ?_ | refine FW_condT rfl ?_ | refine FW_condF rfl ?_ | refine FW_exit ?_ | refine FW_ret ?_ | refine FW_skip ?_ | refine LW_ret ?_ | refine LW_skip ?_ | refine thenE_exit ?_ | refine thenE_ret ?_ | refine inBlockE_normal ?_ | refine inBlockE_same ?_ | refine inBlockE_ret ?_ | refine inBlockE_ne (by rfl) ?_ | refine OW_eqlB (by with_reducible exact und_bool) rfl rfl ?_ | refine OW_neqB (by with_reducible exact und_bool) rfl rfl ?_ | refine OW_idxS (by with_reducible exact und_bytes) one_u8 rfl rfl _ rfl (by omega) ?_ | refine OW_idxS (by with_reducible exact und_bytess) one_bytes rfl rfl _ rfl (by omega) ?_ | refine OW_load1 (by first | with_reducible exact one_u8 | with_reducible exact one_bytes) rfl _ (by assumption) ?_ | (refine OW_isLoad ?_; refine OW_loadBk (by first | with_reducible exact one_u8 | with_reducible exact one_bytes | with_reducible exact one_bool | with_reducible exact one_int | with_reducible exact one_errno | with_reducible exact one_u32 | with_reducible exact one_u64 | with_reducible exact one_string) rfl (by apply_assumption; assumption) _ (by first | assumption | rfl) ?_) | refine OW_load1 (by first | with_reducible exact one_u8 | with_reducible exact one_bytes | with_reducible exact one_bool | with_reducible exact one_int | with_reducible exact one_errno | with_reducible exact one_u32 | with_reducible exact one_u64 | with_reducible exact one_string) rfl _ (by apply_assumption; assumption) ?_)
         refine OW_nil ?_
         exact stay_mk _ _ _ _)
    | refine OY_ppass rfl rfl ?_
    | refine OY_qpass rfl rfl ?_
    | (apply OY_ptake _ rfl rfl
       · intro wd
         (first | refine OW_addW rfl rfl ?_ | refine OW_andW rfl rfl ?_ | refine OW_orW rfl rfl ?_ | refine OW_xorW rfl rfl ?_ | refine OW_notW rfl ?_ | refine OW_shrW _ rfl rfl rfl (by omega) ?_ | refine OW_shlV _ rfl rfl (by omega) ?_ | refine OW_moveV (.int _ _) rfl ?_ | refine OW_moveV (.slice _ _ _) rfl ?_ | refine OW_moveV (.bool _) rfl ?_ | refine OW_moveV (.pointer _) rfl ?_ | refine OW_moveV (.string _) rfl ?_ | refine OW_moveV (.agg _) rfl ?_ | refine OW_moveV (.tuple _) rfl ?_ | refine OW_nil ?_ | refine thenE_normal ?_ | refine CW_seq ?_ | refine CW_region (by kernel_rfl) ?_ | refine OW_assignV (.int _ _) rfl ?_ | refine OW_assignV (.slice _ _ _) rfl ?_ | refine OW_assignV (.bool _) rfl ?_ | refine OW_assignV (.pointer _) rfl ?_ | refine OW_assignV (.string _) rfl ?_ | refine OW_assignV (.agg _) rfl ?_ | refine OW_assignV (.tuple _) rfl ?_ | refine OW_addI rfl rfl (by omega) ?_ | refine OW_subI rfl rfl (by omega) ?_ | refine OW_mulI rfl rfl (by omega) ?_ | refine OW_lss rfl rfl ?_ | refine OW_extract rfl rfl ?_ | refine OW_gtr rfl rfl ?_ | refine OW_leq rfl rfl ?_ | refine OW_geq rfl rfl ?_ | refine OW_eql rfl rfl ?_ | refine OW_neq rfl rfl ?_ | refine OW_not rfl ?_ | refine OW_pickT rfl _ rfl ?_ | refine OW_pickF rfl (.bool _) rfl ?_ | refine OW_pickB rfl rfl rfl ?_ | refine OW_move ?_ | refine OW_assign ?_ | refine OW_pass rfl ?_ | refine OW_take rfl ?_ | refine OW_lenS (by first | with_reducible exact und_bytes | with_reducible exact und_bytess) rfl ?_ | refine OW_convInt (by first | with_reducible exact und_u8 | with_reducible exact und_u64 | with_reducible exact und_int | with_reducible exact und_u32) (by first | with_reducible exact und_u8 | with_reducible exact und_u64 | with_reducible exact und_int | with_reducible exact und_u32) rfl ?_ | refine OW_add rfl rfl ?_ | refine OW_sub rfl rfl ?_ | refine OW_mul rfl rfl ?_ | refine OW_min2 rfl rfl ?_ | refine OW_max2 rfl rfl ?_ | refine OW_neg rfl ?_ | refine CW_block ?_ | refine CW_condT rfl ?_ | refine CW_condF rfl ?_ | refine CW_exit ?_ | refine CW_ret ?_ | refine CW_skip ?_ | refine LW_seq ?_ | refine LW_regC ?_ | refine LW_condC ?_ | refine LW_regF ?_ | refine LW_condF ?_ | refine FW_seq ?_ | refine FW_region (by kernel_rfl) ?_ | refine FW_block ?_ | refine FW_condT rfl ?_ | refine FW_condF rfl ?_ | refine FW_exit ?_ | refine FW_ret ?_ | refine FW_skip ?_ | refine LW_ret ?_ | refine LW_skip ?_ | refine thenE_exit ?_ | refine thenE_ret ?_ | refine inBlockE_normal ?_ | refine inBlockE_same ?_ | refine inBlockE_ret ?_ | refine inBlockE_ne (by rfl) ?_ | refine OW_eqlB (by with_reducible exact und_bool) rfl rfl ?_ | refine OW_neqB (by with_reducible exact und_bool) rfl rfl ?_ | refine OW_idxS (by with_reducible exact und_bytes) one_u8 rfl rfl _ rfl (by omega) ?_ | refine OW_idxS (by with_reducible exact und_bytess) one_bytes rfl rfl _ rfl (by omega) ?_ | refine OW_load1 (by first | with_reducible exact one_u8 | with_reducible exact one_bytes) rfl _ (by assumption) ?_)
         refine OW_nil ?_
         exact stay_mk _ _ _ _)
    | (apply OY_qtake _ rfl rfl
       · intro wd hwd
         (first | refine OW_addW rfl rfl ?_ | refine OW_andW rfl rfl ?_ | refine OW_orW rfl rfl ?_ | refine OW_xorW rfl rfl ?_ | refine OW_notW rfl ?_ | refine OW_shrW _ rfl rfl rfl (by omega) ?_ | refine OW_shlV _ rfl rfl (by omega) ?_ | refine OW_moveV (.int _ _) rfl ?_ | refine OW_moveV (.slice _ _ _) rfl ?_ | refine OW_moveV (.bool _) rfl ?_ | refine OW_moveV (.pointer _) rfl ?_ | refine OW_moveV (.string _) rfl ?_ | refine OW_moveV (.agg _) rfl ?_ | refine OW_moveV (.tuple _) rfl ?_ | refine OW_nil ?_ | refine thenE_normal ?_ | refine CW_seq ?_ | refine CW_region (by kernel_rfl) ?_ | refine OW_assignV (.int _ _) rfl ?_ | refine OW_assignV (.slice _ _ _) rfl ?_ | refine OW_assignV (.bool _) rfl ?_ | refine OW_assignV (.pointer _) rfl ?_ | refine OW_assignV (.string _) rfl ?_ | refine OW_assignV (.agg _) rfl ?_ | refine OW_assignV (.tuple _) rfl ?_ | refine OW_addI rfl rfl (by omega) ?_ | refine OW_subI rfl rfl (by omega) ?_ | refine OW_mulI rfl rfl (by omega) ?_ | refine OW_lss rfl rfl ?_ | refine OW_extract rfl rfl ?_ | refine OW_gtr rfl rfl ?_ | refine OW_leq rfl rfl ?_ | refine OW_geq rfl rfl ?_ | refine OW_eql rfl rfl ?_ | refine OW_neq rfl rfl ?_ | refine OW_not rfl ?_ | refine OW_pickT rfl _ rfl ?_ | refine OW_pickF rfl (.bool _) rfl ?_ | refine OW_pickB rfl rfl rfl ?_ | refine OW_move ?_ | refine OW_assign ?_ | refine OW_pass rfl ?_ | refine OW_take rfl ?_ | refine OW_lenS (by first | with_reducible exact und_bytes | with_reducible exact und_bytess) rfl ?_ | refine OW_convInt (by first | with_reducible exact und_u8 | with_reducible exact und_u64 | with_reducible exact und_int | with_reducible exact und_u32) (by first | with_reducible exact und_u8 | with_reducible exact und_u64 | with_reducible exact und_int | with_reducible exact und_u32) rfl ?_ | refine OW_add rfl rfl ?_ | refine OW_sub rfl rfl ?_ | refine OW_mul rfl rfl ?_ | refine OW_min2 rfl rfl ?_ | refine OW_max2 rfl rfl ?_ | refine OW_neg rfl ?_ | refine CW_block ?_ | refine CW_condT rfl ?_ | refine CW_condF rfl ?_ | refine CW_exit ?_ | refine CW_ret ?_ | refine CW_skip ?_ | refine LW_seq ?_ | refine LW_regC ?_ | refine LW_condC ?_ | refine LW_regF ?_ | refine LW_condF ?_ | refine FW_seq ?_ | refine FW_region (by kernel_rfl) ?_ | refine FW_block ?_ | refine FW_condT rfl ?_ | refine FW_condF rfl ?_ | refine FW_exit ?_ | refine FW_ret ?_ | refine FW_skip ?_ | refine LW_ret ?_ | refine LW_skip ?_ | refine thenE_exit ?_ | refine thenE_ret ?_ | refine inBlockE_normal ?_ | refine inBlockE_same ?_ | refine inBlockE_ret ?_ | refine inBlockE_ne (by rfl) ?_ | refine OW_eqlB (by with_reducible exact und_bool) rfl rfl ?_ | refine OW_neqB (by with_reducible exact und_bool) rfl rfl ?_ | refine OW_idxS (by with_reducible exact und_bytes) one_u8 rfl rfl _ rfl (by omega) ?_ | refine OW_idxS (by with_reducible exact und_bytess) one_bytes rfl rfl _ rfl (by omega) ?_ | refine OW_load1 (by first | with_reducible exact one_u8 | with_reducible exact one_bytes) rfl _ (by assumption) ?_ | (refine OW_isLoad ?_; refine OW_loadBk (by first | with_reducible exact one_u8 | with_reducible exact one_bytes | with_reducible exact one_bool | with_reducible exact one_int | with_reducible exact one_errno | with_reducible exact one_u32 | with_reducible exact one_u64 | with_reducible exact one_string) rfl (by apply_assumption; assumption) _ (by first | assumption | rfl) ?_) | refine OW_load1 (by first | with_reducible exact one_u8 | with_reducible exact one_bytes | with_reducible exact one_bool | with_reducible exact one_int | with_reducible exact one_errno | with_reducible exact one_u32 | with_reducible exact one_u64 | with_reducible exact one_string) rfl _ (by apply_assumption; assumption) ?_)
         refine OW_nil ?_
         exact stay_mk _ _ _ _)
    | refine OY_a (actY_of rfl ?_)
    | refine OY_d (actY_of rfl ?_)
    | refine OY_a (actY_pass rfl rfl ?_)
    | refine OY_d (actY_pass rfl rfl ?_)
    | refine OY_a (actY_take rfl rfl ?_)
    | refine OY_d (actY_take rfl rfl ?_))
  exact hEnd.out) (k : B) : A := h ⟨k⟩
theorem rotr_u (w : World) (x : UInt32) (k : Nat) (hk : k < 32) : Calls Try.prog 102 #[uv x, .int .i64 (k : Int)] w (RetV w (uv (rotU x k))) := by
  have := rotr_any w x.toNat k (u32_lt x) (by omega)
  rw [show rotK (k : Int) = k by unfold rotK; omega] at this
  rw [show (uv (rotU x k)) = .int .u32 ((rotS x.toNat k : Nat) : Int) by unfold uv; rw [rotU_nat x (by omega)]]
  exact this
theorem shr_u (w : World) (x : UInt32) (k : Nat) (hk : k < 32) : Calls Try.prog 103 #[uv x, .int .i64 (k : Int)] w (RetV w (uv (shU x k))) := by
  have := shr_any w x.toNat k (u32_lt x) (by omega)
  rw [show (uv (shU x k)) = .int .u32 ((shrS x.toNat k : Nat) : Int) by unfold uv shrS; rw [shU_nat, show min ((k : Int)).toNat 32 = k by omega]]
  exact this
set_option maxHeartbeats 8000000 in
theorem turned_any (w : World) (x : UInt32) (a b c : Nat) (ha : a < 32) (hb : b < 32) (hc : c < 32) : Calls Try.prog 101 #[uv x, .int .i64 (a : Int), .int .i64 (b : Int), .int .i64 (c : Int)] w (RetV w (uv (turnU x a b c))) := by
  refine calls_of_CW Try.func101 rfl (by simp [Try.ntmps101]) ?_
  rw [Try.ntmps101]
  refine go_Sha1 (k := ?_)
  refine OW_callV Try.func102 (by kernel_rfl) rfl (rotr_u _ x a ha) rfl ?_
  intro w1 hw1
  refine go_Sha1 (k := ?_)
  refine OW_callV Try.func102 (by kernel_rfl) rfl (rotr_u _ x b hb) rfl ?_
  intro w2 hw2
  refine go_Sha1 (k := ?_)
  refine OW_callV Try.func102 (by kernel_rfl) rfl (rotr_u _ x c hc) rfl ?_
  intro w3 hw3
  refine go_Sha1 (k := ?_)
  exact bodyE_ret1 rfl _ rfl ⟨rfl, (hw1.trans' hw2).trans' hw3⟩
set_option maxHeartbeats 8000000 in
theorem small_any (w : World) (x : UInt32) (a b c : Nat) (ha : a < 32) (hb : b < 32) (hc : c < 32) : Calls Try.prog 99 #[uv x, .int .i64 (a : Int), .int .i64 (b : Int), .int .i64 (c : Int)] w (RetV w (uv (smallU x a b c))) := by
  refine calls_of_CW Try.func99 rfl (by simp [Try.ntmps99]) ?_
  rw [Try.ntmps99]
  refine go_Sha1 (k := ?_)
  refine OW_callV Try.func102 (by kernel_rfl) rfl (rotr_u _ x a ha) rfl ?_
  intro w1 hw1
  refine go_Sha1 (k := ?_)
  refine OW_callV Try.func102 (by kernel_rfl) rfl (rotr_u _ x b hb) rfl ?_
  intro w2 hw2
  refine go_Sha1 (k := ?_)
  refine OW_callV Try.func103 (by kernel_rfl) rfl (shr_u _ x c hc) rfl ?_
  intro w3 hw3
  refine go_Sha1 (k := ?_)
  exact bodyE_ret1 rfl _ rfl ⟨rfl, (hw1.trans' hw2).trans' hw3⟩
set_option maxHeartbeats 8000000 in
theorem turns_any (w : World) (x : UInt32) (a b c : Nat) (ha : 0 < a ∧ a < 32) (hb : 0 < b ∧ b < 32) (hc : 0 < c ∧ c < 32) : Calls Try.prog 92 #[uv x, .int .i64 (a : Int), .int .i64 (b : Int), .int .i64 (c : Int)] w (RetV w (uv (turnU x a b c))) := by
  refine calls_of_CW Try.func92 rfl (by simp [Try.ntmps92]) ?_
  rw [Try.ntmps92]
  refine go_Sha1 (k := ?_)
  refine CW_tree2 [] (.p 0 (.p 1 (.p 2 (.p 3 (.p 4 (.p 5 (.p 6 (.p 7 (.p 8 (.p 9 (.p 10 (.p 11 (.p 12 (.p 13 (.p 14 (.p 15 (.p 16 (.p 17 (.p 18 (.p 19 (.p 20 (.p 21 (.p 22 (.p 23 (.p 24 (.p 25 (.p 26 .done))))))))))))))))))))))))))) (fun w' => Ext w w') (by kernel_rfl) (by kernel_rfl) (by kernel_rfl) ?_ ?_
  · exact fun _ h => h
  intro w1 hx1 hC1
  refine oy_Sha1 (k := ?_)
  rw [rot_shifts x ha.1 ha.2, rot_shifts x hb.1 hb.2, rot_shifts x hc.1 hc.2]
  refine go_Sha1 (k := ?_)
  exact bodyE_ret1 rfl _ rfl ⟨rfl, hx1⟩
set_option maxHeartbeats 8000000 in
theorem first_any (w : World) : Calls Try.prog 93 #[] w (RetV w (.agg iv8.cells.toArray)) := by
  refine calls_of_CW Try.func93 rfl (by simp [Try.ntmps93]) ?_
  rw [Try.ntmps93]
  refine go_Sha1 (k := ?_)
  refine OW_allocA agg_nums ?_
  intro w1 g1 hb1 hg1 hl1 hw1
  refine go_Sha1 (k := ?_)
  refine OW_buildA agg_nums und_nums one_u32 rfl iv8.cells (by kernel_rfl) rfl (uv_one _) ?_
  refine go_Sha1 (k := ?_)
  refine OW_storeA agg_nums rfl iv8.cells rfl rfl hb1 rfl (uv_one _) ?_
  intro w2 hb2 hgr
  refine go_Sha1 (k := ?_)
  exact bodyE_retc rfl agg_nums rfl iv8.cells rfl hb2.range ⟨rfl, Below.trans hw1 (only_below hgr hg1 hw1.size)⟩
set_option maxHeartbeats 8000000 in
theorem constants_any (w : World) : Calls Try.prog 100 #[] w (RetV w (.agg (kL.map uv).toArray)) := by
  refine calls_of_CW Try.func100 rfl (by simp [Try.ntmps100]) ?_
  rw [Try.ntmps100]
  refine go_Sha1 (k := ?_)
  refine OW_allocA agg_w64 ?_
  intro w1 g1 hb1 hg1 hl1 hw1
  refine go_Sha1 (k := ?_)
  refine OW_buildA agg_w64 und_w64 one_u32 rfl (kL.map uv) (by kernel_rfl) rfl (uv_one _) ?_
  refine go_Sha1 (k := ?_)
  refine OW_storeA agg_w64 rfl (kL.map uv) rfl rfl hb1 rfl (uv_one _) ?_
  intro w2 hb2 hgr
  refine go_Sha1 (k := ?_)
  exact bodyE_retc rfl agg_w64 rfl (kL.map uv) rfl hb2.range ⟨rfl, Below.trans hw1 (only_below hgr hg1 hw1.size)⟩
set_option maxHeartbeats 8000000 in
theorem refConstants_any (w : World) : Calls Try.prog 89 #[] w (fun en w' => ∃ g, en = .returned (.slice (some ⟨g, 0, none⟩) 64 64) ∧ Blk w' g 93 (kL.map uv).toArray ∧ w.heap.size ≤ g ∧ Ext w w') := by
  refine calls_of_CW Try.func89 rfl (by simp [Try.ntmps89]) ?_
  rw [Try.ntmps89]
  refine go_Sha1 (k := ?_)
  refine OW_lit (kL.map uv) und_u32s info_u32 (by kernel_rfl) rfl (uv_one _) (by decide) ?_
  intro w1 g1 hb1 hg1 hw1
  refine go_Sha1 (k := ?_)
  exact bodyE_ret1 rfl _ rfl ⟨g1, rfl, hb1, hg1, hw1⟩
end Go.Proofs.Ytnfeibbnjdegfaa
