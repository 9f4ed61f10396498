/- Several texts in one, as they stand in wip/src. -/
import Derived.StillTail
import Derived.RangeFuncNested
import Derived.RangeFuncCalls
import Derived.RangeFuncLeaves
import Derived.TacticsIn
import Derived.OrdersIn
import Derived.Shelf.Abstract
import Derived.Test.YtnfeibbnjdegfaaGw2
import Derived.Test.YtnfeibbnjdegfaaGw3
/- Regions whose order is drawn, where the operations that act (calls, stores, what makes memory) stand in an order that a tree tells, and all others are quiet: each quiet one yields one value in every world of a class. The walk takes each quiet operation as early as it may come. -/
namespace Go.Proofs.Ytnfeibbnjdegfaa
open Go Go.RowKit
set_option linter.unusedVariables false

inductive Tr
  | done
  | q (i : Nat) (t : Tr)
  | a (i : Nat) (t : Tr)
  | a2 (i : Nat) (t : Tr) (j : Nat) (u : Tr)
  | a3 (i : Nat) (t : Tr) (j : Nat) (u : Tr) (k : Nat) (v : Tr)
def nth : List Oper → Nat → Option Oper
  | [], _ => none
  | o :: _, 0 => some o
  | _ :: l, i + 1 => nth l i
theorem nth_eq : ∀ (l : List Oper) (i : Nat), nth l i = l[i]?
  | [], i => by simp [nth]
  | o :: l, 0 => by simp [nth]
  | o :: l, i + 1 => by simp [nth, nth_eq l i]

/-- Any order that is drawn, in a class of worlds. -/
def OT (P : Program) (l : List Oper) (C : World → Prop) (Q : Exit → (Nat → Value) → World → Prop) : Nat → Array Bool → (Nat → Value) → World → Prop
  | 0, listed, e, w => Region.ready .any l.toArray listed = [] ∧ Q .normal e w
  | f + 1, listed, e, w => (Region.ready .any l.toArray listed = [] → Q .normal e w) ∧ ∀ i ∈ Region.ready .any l.toArray listed, ∀ o, l[i]? = some o →
      if wantedE l.toArray e o then opW P o e w (fun v w' => C w' ∧ OT P l C Q f (listed.setIfInBounds i true) (put e o.dst v) w') else OT P l C Q f (listed.setIfInBounds i true) (put e o.dst undef) w

theorem wpAny_of_OT {P : Program} {l : List Oper} {C : World → Prop} {n : Nat} {Q : Exit → (Nat → Value) → World → Prop} (hd : dstsIn n l = true) : ∀ (f : Nat) (listed : Array Bool) (a : Act) (e : Nat → Value) (w : World),
    St n a e → OT P l C Q f listed e w → wpAny P .any l.toArray (QA n Q) f listed a w
  | 0, listed, a, e, w, hs, h => ⟨h.1, e, hs, h.2⟩
  | f + 1, listed, a, e, w, hs, h => by
    refine ⟨fun h0 => ⟨e, hs, h.1 h0⟩, fun i hi => ?_⟩
    obtain ⟨_, o, ho, _⟩ := mem_ready.1 hi
    have ho' : l[i]? = some o := by simpa using ho
    have hh := h.2 i hi o ho'
    have hdo : ∀ k, o.dst = some k → k < n := fun k hk => by
      unfold dstsIn at hd
      rw [List.all_eq_true] at hd
      have := hd o (List.mem_iff_getElem?.2 ⟨i, ho'⟩)
      rw [hk] at this
      simpa using this
    unfold wpOp
    simp only [ho]
    rw [wanted_eq hs]
    split
    · rename_i hw
      rw [if_pos hw] at hh
      exact .inl (Oper.wp_of_opW hs hh fun v w' hv => wpAny_of_OT hd f _ _ _ _ (hs.put hdo v) hv.2)
    · rename_i hw
      rw [if_neg hw] at hh
      exact wpAny_of_OT hd f _ _ _ _ (hs.put hdo undef) hh

theorem put_comm (e : Nat → Value) {x y : Option Tmp} (v u : Value) (h : ∀ d, x = some d → y ≠ some d) : put (put e x v) y u = put (put e y u) x v := by
  cases x with
  | none => rfl
  | some d =>
    cases y with
    | none => rfl
    | some c =>
      have hne : d ≠ c := fun he => h d rfl (he ▸ rfl)
      funext i
      show upd (upd e d v) c u i = upd (upd e c u) d v i
      by_cases h1 : i = c
      · subst h1
        rw [upd_same, upd_ne _ _ (Ne.symm hne), upd_same]
      · rw [upd_ne _ _ h1]
        by_cases h2 : i = d
        · subst h2; rw [upd_same, upd_same]
        · rw [upd_ne _ _ h2, upd_ne _ _ h2, upd_ne _ _ h1]
theorem upd_comm {a b : Nat} (e : Nat → Value) (v u : Value) (h : Nat.beq a b = false) : upd (upd e a v) b u = upd (upd e b u) a v :=
  put_comm e (x := some a) (y := some b) v u (fun d hd hb => by cases hd; cases hb; rw [Nat.beq_refl] at h; cases h)
theorem ev_put {e : Nat → Value} {dst : Option Tmp} {v : Value} {x : Operand} (h : ∀ d, dst = some d → x ≠ .tmp d) : ev (put e dst v) x = ev e x := by
  cases dst with
  | none => rfl
  | some d =>
    cases x with
    | tmp t =>
      have hne : t ≠ d := fun e => h d rfl (e ▸ rfl)
      exact upd_ne _ _ hne
    | _ => rfl
theorem execOp_putE {ops : Array Oper} (o : Oper) (hs : ∀ cs b, o.op ≠ .select cs b) (e : Nat → Value) (dst : Option Tmp) (v : Value) (h : ∀ d, dst = some d → d ∉ o.looksAt ops) :
    execOp (ev (put e dst v)) o = execOp (ev e) o :=
  execOp_congr o hs fun x hx => ev_put fun d hd hxd => h d hd (by
    subst hxd
    exact List.mem_append_left _ (List.mem_filterMap.2 ⟨.tmp d, by simpa using hx, rfl⟩))
theorem wantedE_put {ops : Array Oper} (o : Oper) (e : Nat → Value) (dst : Option Tmp) (v : Value) (h : ∀ d, dst = some d → d ∉ o.looksAt ops) :
    wantedE ops (put e dst v) o = wantedE ops e o := by
  cases dst with
  | none => rfl
  | some d =>
    unfold wantedE
    cases hg : o.guard with
    | none => rfl
    | some gw =>
      obtain ⟨g, want⟩ := gw
      have hy : yieldsE ops (put e (some d) v) g = yieldsE ops e g := by
        unfold yieldsE
        cases ht : (ops[g]?).bind (·.dst) with
        | none => rfl
        | some t =>
          have hne : t ≠ d := fun e => h d rfl (by subst e; simp [Oper.looksAt, hg, ht])
          show (match upd e d v t with | .bool b => some b | _ => none) = (match e t with | .bool b => some b | _ => none)
          rw [upd_ne _ _ hne]
      simp only [hy]

theorem opW_mono {P : Program} {o : Oper} {e : Nat → Value} {w : World} {K K' : Value → World → Prop} (h : opW P o e w K) (hk : ∀ v w, K v w → K' v w) : opW P o e w K' := by
  unfold opW at *
  generalize (execOp (ev e) o).run P w = r at *
  cases r with
  | ok x w' =>
    cases x <;> simp only [opUpon] at h ⊢
    case value v => exact hk _ _ h
    case skip => exact hk _ _ h
    case enter f args => exact ⟨h.1, h.2.mono fun en w'' ⟨v, he, hv⟩ => ⟨v, he, hk _ _ hv⟩⟩
  | halt x w' => simp only [opUpon] at h

/-- One value in every world of the class. -/
def Quiet (P : Program) (ops : Array Oper) (C : World → Prop) (o : Oper) (v : Value) (e : Nat → Value) : Prop :=
  (wantedE ops e o = true ∧ ∀ w, C w → opW P o e w (fun u w' => u = v ∧ w' = w)) ∨ (wantedE ops e o = false ∧ v = undef)
theorem Quiet.keep {P : Program} {ops : Array Oper} {C : World → Prop} {oi oj : Oper} {v : Value} {e : Nat → Value} (hsi : ∀ cs b, oi.op ≠ .select cs b) (h : Quiet P ops C oi v e) (h3 : ∀ d, oj.dst = some d → d ∉ oi.looksAt ops) (u : Value) : Quiet P ops C oi v (put e oj.dst u) := by
  unfold Quiet opW at *
  rw [execOp_putE oi hsi e oj.dst u h3, wantedE_put oi e oj.dst u h3]
  exact h
theorem OT_first {P : Program} {l : List Oper} {C : World → Prop} {Q : Exit → (Nat → Value) → World → Prop} {i : Nat} {oi : Oper} {v : Value} (hi : l[i]? = some oi)
    (hsel : ∀ (j : Nat) (o : Oper) cs b, l.toArray[j]? = some o → o.op ≠ .select cs b) :
    ∀ (f : Nat) (listed : Array Bool) (e : Nat → Value) (w : World),
      (∀ j oj, l.toArray[j]? = some oj → j ≠ i → listed.getD j true = false → (∀ e ∈ oj.after, Region.binds .any e = true → e.on ≠ i) → oi.apart l.toArray oj = true) →
      i ∈ Region.ready .any l.toArray listed → Quiet P l.toArray C oi v e → C w →
      OT P l C Q f (listed.setIfInBounds i true) (put e oi.dst v) w → OT P l C Q (f + 1) listed e w := by
  intro f
  have doI : ∀ (f : Nat) (listed : Array Bool) (e : Nat → Value) (w : World), Quiet P l.toArray C oi v e → C w → OT P l C Q f (listed.setIfInBounds i true) (put e oi.dst v) w →
      ∀ o, l[i]? = some o → if wantedE l.toArray e o then opW P o e w (fun v w' => C w' ∧ OT P l C Q f (listed.setIfInBounds i true) (put e o.dst v) w') else OT P l C Q f (listed.setIfInBounds i true) (put e o.dst undef) w := by
    intro f listed e w hq hC H o ho
    rw [hi] at ho
    cases ho
    rcases hq with ⟨hw, hr⟩ | ⟨hw, rfl⟩
    · rw [if_pos hw]
      exact opW_mono (hr w hC) fun u w' ⟨hu, hw'⟩ => by subst hu; subst hw'; exact ⟨hC, H⟩
    · rw [hw, if_neg (by simp)]
      exact H
  induction f with
  | zero =>
    intro listed e w hfree hr hq hC H
    refine ⟨fun h => (by rw [h] at hr; cases hr), fun j hj o ho => ?_⟩
    by_cases hji : j = i
    · subst hji; exact doI _ _ _ _ hq hC H o ho
    · have := ready_mono hj hji
      rw [H.1] at this
      cases this
  | succ f ih =>
    intro listed e w hfree hr hq hC H
    refine ⟨fun h => (by rw [h] at hr; cases hr), fun j hj oj hoj => ?_⟩
    by_cases hji : j = i
    · subst hji; exact doI _ _ _ _ hq hC H oj hoj
    · have hjr := ready_mono hj hji
      have h1 := H.2 j hjr oj hoj
      obtain ⟨hjun, oj', hoj', hall⟩ := mem_ready.1 hj
      have hojA : l.toArray[j]? = some oj := by simpa using hoj
      have : oj' = oj := Option.some.inj (hoj'.symm.trans hojA)
      subst this
      have hnot : ∀ e ∈ oj'.after, Region.binds .any e = true → e.on ≠ i := fun e he hb heq => by
        have h1 := hall e he hb
        have h0 := (mem_ready.1 hr).1
        rw [heq] at h1
        rcases Nat.lt_or_ge i listed.size with h' | h'
        · simp [h'] at h0 h1; rw [h0] at h1; cases h1
        · simp [Array.getElem?_eq_none h'] at h1
      have hap := hfree j oj' hoj' hji hjun hnot
      obtain ⟨p1, p2, p3⟩ := Oper.apart_spec hap
      have hsi : ∀ cs b, oi.op ≠ .select cs b := fun cs b => hsel i oi cs b (by simpa using hi)
      have hsj : ∀ cs b, oj'.op ≠ .select cs b := fun cs b => hsel j oj' cs b hoj'
      have hfree' : ∀ k ok, l.toArray[k]? = some ok → k ≠ i → (listed.setIfInBounds j true).getD k true = false →
          (∀ e ∈ ok.after, Region.binds .any e = true → e.on ≠ i) → oi.apart l.toArray ok = true := fun k ok hk hki hun hno => by
        refine hfree k ok hk hki ?_ hno
        by_cases hjk : j = k
        · subst hjk; exact hjun
        · rw [getD_set_ne true hjk] at hun; exact hun
      have step : ∀ (u : Value) (w' : World), C w' → OT P l C Q f ((listed.setIfInBounds i true).setIfInBounds j true) (put (put e oi.dst v) oj'.dst u) w' → OT P l C Q (f + 1) (listed.setIfInBounds j true) (put e oj'.dst u) w' := fun u w' hC' h => by
        refine ih (listed.setIfInBounds j true) _ _ hfree' (ready_mono hr (Ne.symm hji)) (hq.keep hsi p3 u) hC' ?_
        rw [Array.setIfInBounds_comm _ _ hji, ← put_comm e v u p2]
        exact h
      rw [wantedE_put oj' e oi.dst v p1] at h1
      split
      · rename_i hw
        rw [if_pos hw] at h1
        have h1' : opW P oj' e w (fun u w' => C w' ∧ OT P l C Q f ((listed.setIfInBounds i true).setIfInBounds j true) (put (put e oi.dst v) oj'.dst u) w') := by
          unfold opW at h1 ⊢
          rw [execOp_putE oj' hsj e oi.dst v p1] at h1
          exact h1
        exact opW_mono h1' fun u w' hh => ⟨hh.1, step u w' hh.1 hh.2⟩
      · rename_i hw
        rw [if_neg hw] at h1
        exact step undef w hC h1

theorem OT_sub {P : Program} {l : List Oper} {C C' : World → Prop} {Q : Exit → (Nat → Value) → World → Prop} (hs : ∀ u, C' u → C u) : ∀ (f : Nat) (listed : Array Bool) (e : Nat → Value) (w : World), OT P l C' Q f listed e w → OT P l C Q f listed e w
  | 0, _, _, _, h => h
  | f + 1, listed, e, w, h => by
    refine ⟨h.1, fun i hi o ho => ?_⟩
    have hh := h.2 i hi o ho
    split
    · rename_i hw; rw [if_pos hw] at hh; exact opW_mono hh fun v w' hv => ⟨hs _ hv.1, OT_sub hs f _ _ _ hv.2⟩
    · rename_i hw; rw [if_neg hw] at hh; exact OT_sub hs f _ _ _ hh
/-- A walk along a tree; behind what acts the class may be another, smaller one. -/
def OX (fx : Bool) (P : Program) (l : List Oper) : (World → Prop) → (Exit → (Nat → Value) → World → Prop) → Tr → (Nat → Value) → World → Prop
  | _, Q, .done, e, w => Q .normal e w
  | C, Q, .q i t, e, w => ∀ o, nth l i = some o → ∃ v, Quiet P l.toArray C o v e ∧ OX fx P l C Q t (put e o.dst v) w
  | C, Q, .a i t, e, w => ∀ o, nth l i = some o → if wantedE l.toArray e o then opW P o e w (fun v w' => C w' ∧ ∃ C' : World → Prop, (fx = true → C' = C) ∧ (∀ u, C' u → C u) ∧ C' w' ∧ OX fx P l C' Q t (put e o.dst v) w') else OX fx P l C Q t (put e o.dst undef) w
  | C, Q, .a2 i t j u, e, w => (∀ o, nth l i = some o → if wantedE l.toArray e o then opW P o e w (fun v w' => C w' ∧ ∃ C' : World → Prop, (fx = true → C' = C) ∧ (∀ u, C' u → C u) ∧ C' w' ∧ OX fx P l C' Q t (put e o.dst v) w') else OX fx P l C Q t (put e o.dst undef) w) ∧
      (∀ o, nth l j = some o → if wantedE l.toArray e o then opW P o e w (fun v w' => C w' ∧ ∃ C' : World → Prop, (fx = true → C' = C) ∧ (∀ u, C' u → C u) ∧ C' w' ∧ OX fx P l C' Q u (put e o.dst v) w') else OX fx P l C Q u (put e o.dst undef) w)
  | C, Q, .a3 i t j u k v, e, w => (∀ o, nth l i = some o → if wantedE l.toArray e o then opW P o e w (fun x w' => C w' ∧ ∃ C' : World → Prop, (fx = true → C' = C) ∧ (∀ u, C' u → C u) ∧ C' w' ∧ OX fx P l C' Q t (put e o.dst x) w') else OX fx P l C Q t (put e o.dst undef) w) ∧
      (∀ o, nth l j = some o → if wantedE l.toArray e o then opW P o e w (fun x w' => C w' ∧ ∃ C' : World → Prop, (fx = true → C' = C) ∧ (∀ u, C' u → C u) ∧ C' w' ∧ OX fx P l C' Q u (put e o.dst x) w') else OX fx P l C Q u (put e o.dst undef) w) ∧
      (∀ o, nth l k = some o → if wantedE l.toArray e o then opW P o e w (fun x w' => C w' ∧ ∃ C' : World → Prop, (fx = true → C' = C) ∧ (∀ u, C' u → C u) ∧ C' w' ∧ OX fx P l C' Q v (put e o.dst x) w') else OX fx P l C Q v (put e o.dst undef) w)
def Tr.graft : Tr → Tr → Tr
  | .done, s => s
  | .q i t, s => .q i (t.graft s)
  | .a i t, s => .a i (t.graft s)
  | .a2 i t j u, s => .a2 i (t.graft s) j (u.graft s)
  | .a3 i t j u k v, s => .a3 i (t.graft s) j (u.graft s) k (v.graft s)
/-- The tree tells all orders of what acts. -/
def Tr.ok (ops : Array Oper) : Tr → Nat → Array Bool → Bool
  | .done, f, listed => (f == 0) && (Region.ready .any ops listed).isEmpty
  | .q i t, f, listed => (f != 0) && (Region.ready .any ops listed).contains i && Region.free .any ops listed i && t.ok ops (f - 1) (listed.setIfInBounds i true)
  | .a i t, f, listed => (f != 0) && (Region.ready .any ops listed == [i]) && t.ok ops (f - 1) (listed.setIfInBounds i true)
  | .a2 i t j u, f, listed => (f != 0) && (Region.ready .any ops listed == [i, j]) && t.ok ops (f - 1) (listed.setIfInBounds i true) && u.ok ops (f - 1) (listed.setIfInBounds j true)
  | .a3 i t j u k v, f, listed => (f != 0) && (Region.ready .any ops listed == [i, j, k]) && t.ok ops (f - 1) (listed.setIfInBounds i true) && u.ok ops (f - 1) (listed.setIfInBounds j true) && v.ok ops (f - 1) (listed.setIfInBounds k true)
theorem OT_of_OX {fx : Bool} {P : Program} {l : List Oper} {Q : Exit → (Nat → Value) → World → Prop} (hs : Region.noSelect l.toArray = true) : ∀ (t : Tr) (C : World → Prop) (f : Nat) (listed : Array Bool) (e : Nat → Value) (w : World),
    t.ok l.toArray f listed = true → C w → OX fx P l C Q t e w → OT P l C Q f listed e w := by
  intro t
  induction t with
  | done =>
    intro C f listed e w hk hC h
    simp only [Tr.ok, Bool.and_eq_true, beq_iff_eq, List.isEmpty_iff] at hk
    obtain ⟨rfl, hr⟩ := hk
    exact ⟨hr, h⟩
  | q i t ih =>
    intro C f listed e w hk hC h
    simp only [Tr.ok, Bool.and_eq_true, bne_iff_ne] at hk
    obtain ⟨⟨⟨hf, hr⟩, hfree⟩, hk'⟩ := hk
    obtain ⟨f, rfl⟩ : ∃ g, f = g + 1 := ⟨f - 1, by omega⟩
    have hr : i ∈ Region.ready .any l.toArray listed := by simpa using hr
    obtain ⟨_, o, ho, _⟩ := mem_ready.1 hr
    have ho' : l[i]? = some o := by simpa using ho
    obtain ⟨v, hq, hrest⟩ := h o (by rw [nth_eq]; exact ho')
    exact OT_first ho' (Region.noSelect_spec hs) f listed e w (Region.free_spec ho hfree) hr hq hC (ih C f _ _ _ hk' hC hrest)
  | a i t ih =>
    intro C f listed e w hk hC h
    simp only [Tr.ok, Bool.and_eq_true, bne_iff_ne, beq_iff_eq] at hk
    obtain ⟨⟨hf, hr⟩, hk'⟩ := hk
    obtain ⟨f, rfl⟩ : ∃ g, f = g + 1 := ⟨f - 1, by omega⟩
    refine ⟨fun h0 => (by rw [h0] at hr; cases hr), fun j hj o ho => ?_⟩
    rw [hr, List.mem_singleton] at hj
    subst hj
    have hh := h o (by rw [nth_eq]; exact ho)
    split
    · rename_i hw
      rw [if_pos hw] at hh
      exact opW_mono hh fun v w' ⟨hv1, C', _, hs', hC', hv2⟩ => ⟨hv1, OT_sub hs' f _ _ _ (ih C' f _ _ _ hk' hC' hv2)⟩
    · rename_i hw
      rw [if_neg hw] at hh
      exact ih C f _ _ _ hk' hC hh
  | a2 i t j u iht ihu =>
    intro C f listed e w hk hC h
    simp only [Tr.ok, Bool.and_eq_true, bne_iff_ne, beq_iff_eq] at hk
    obtain ⟨⟨⟨hf, hr⟩, hk1⟩, hk2⟩ := hk
    obtain ⟨f, rfl⟩ : ∃ g, f = g + 1 := ⟨f - 1, by omega⟩
    refine ⟨fun h0 => (by rw [h0] at hr; cases hr), fun x hx o ho => ?_⟩
    rw [hr, List.mem_cons, List.mem_singleton] at hx
    rcases hx with rfl | rfl
    · have hh := h.1 o (by rw [nth_eq]; exact ho)
      split
      · rename_i hw
        rw [if_pos hw] at hh
        exact opW_mono hh fun v w' ⟨hv1, C', _, hs', hC', hv2⟩ => ⟨hv1, OT_sub hs' f _ _ _ (iht C' f _ _ _ hk1 hC' hv2)⟩
      · rename_i hw
        rw [if_neg hw] at hh
        exact iht C f _ _ _ hk1 hC hh
    · have hh := h.2 o (by rw [nth_eq]; exact ho)
      split
      · rename_i hw
        rw [if_pos hw] at hh
        exact opW_mono hh fun v w' ⟨hv1, C', _, hs', hC', hv2⟩ => ⟨hv1, OT_sub hs' f _ _ _ (ihu C' f _ _ _ hk2 hC' hv2)⟩
      · rename_i hw
        rw [if_neg hw] at hh
        exact ihu C f _ _ _ hk2 hC hh
  | a3 i t j u k v iht ihu ihv =>
    intro C f listed e w hk hC h
    simp only [Tr.ok, Bool.and_eq_true, bne_iff_ne, beq_iff_eq] at hk
    obtain ⟨⟨⟨⟨hf, hr⟩, hk1⟩, hk2⟩, hk3⟩ := hk
    obtain ⟨f, rfl⟩ : ∃ g, f = g + 1 := ⟨f - 1, by omega⟩
    refine ⟨fun h0 => (by rw [h0] at hr; cases hr), fun x hx o ho => ?_⟩
    rw [hr, List.mem_cons, List.mem_cons, List.mem_singleton] at hx
    rcases hx with rfl | rfl | rfl
    · have hh := h.1 o (by rw [nth_eq]; exact ho)
      split
      · rename_i hw
        rw [if_pos hw] at hh
        exact opW_mono hh fun v w' ⟨hv1, C', _, hs', hC', hv2⟩ => ⟨hv1, OT_sub hs' f _ _ _ (iht C' f _ _ _ hk1 hC' hv2)⟩
      · rename_i hw
        rw [if_neg hw] at hh
        exact iht C f _ _ _ hk1 hC hh
    · have hh := h.2.1 o (by rw [nth_eq]; exact ho)
      split
      · rename_i hw
        rw [if_pos hw] at hh
        exact opW_mono hh fun v w' ⟨hv1, C', _, hs', hC', hv2⟩ => ⟨hv1, OT_sub hs' f _ _ _ (ihu C' f _ _ _ hk2 hC' hv2)⟩
      · rename_i hw
        rw [if_neg hw] at hh
        exact ihu C f _ _ _ hk2 hC hh
    · have hh := h.2.2 o (by rw [nth_eq]; exact ho)
      split
      · rename_i hw
        rw [if_pos hw] at hh
        exact opW_mono hh fun v w' ⟨hv1, C', _, hs', hC', hv2⟩ => ⟨hv1, OT_sub hs' f _ _ _ (ihv C' f _ _ _ hk3 hC' hv2)⟩
      · rename_i hw
        rw [if_neg hw] at hh
        exact ihv C f _ _ _ hk3 hC hh

section
variable {P : Program} {n : Nat} {Q : Exit → (Nat → Value) → World → Prop} {e : Nat → Value} {w : World}
theorem CW_tree {id : Nat} {l : List Oper} (t : Tr) (C : World → Prop) (hm : P.follows .mixedOrders = true) (hd : dstsIn n l = true)
    (hk : (Region.noSelect l.toArray && t.ok l.toArray l.length (Array.replicate l.length false)) = true) (hC : ∀ w', Ext w w' → C w') (h : ∀ w', Ext w w' → C w' → OX false P l C Q t e w') : CW P n (.region id l.toArray true) Q e w := by
  unfold CW
  intro a hs
  refine wp_region_any hm ?_
  rw [Bool.and_eq_true] at hk
  have := wpAny_of_OT hd l.length (Array.replicate l.length false) a e w.drew hs (OT_of_OX hk.1 t C l.length (Array.replicate l.length false) e w.drew hk.2 (hC _ (Ext.drew' w)) (h _ (Ext.drew' w) (hC _ (Ext.drew' w))))
  simpa using this
end
section
variable {fx : Bool} {P : Program} {l : List Oper} {C : World → Prop} {Q : Exit → (Nat → Value) → World → Prop} {e : Nat → Value} {w : World} {d : Tmp} {op : Op} {ty : TypeId} {pos : String} {aft : Array Edge}
theorem OX_done (h : Q .normal e w) : OX fx P l C Q .done e w := h
/-- A quiet operation, by a walk of it alone. -/
theorem OX_q {i : Nat} {t : Tr} (v : Value) (ho : nth l i = some ⟨some d, op, ty, pos, aft, none⟩) (h1 : ∀ w, C w → OW P l.toArray (stay e d v w) [⟨some d, op, ty, pos, aft, none⟩] e w) (h : OX fx P l C Q t (upd e d v) w) : OX fx P l C Q (.q i t) e w := by
  unfold OX
  intro o ho'
  rw [ho] at ho'
  cases ho'
  refine ⟨v, .inl ⟨rfl, fun w hw => ?_⟩, h⟩
  have hh := h1 w hw
  unfold OW at hh
  rw [if_pos (by rfl)] at hh
  have hinj : ∀ u, upd e d u = upd e d v → u = v := fun u hu => by
    have := congrFun hu d
    rwa [upd_same, upd_same] at this
  exact opW_mono hh fun u w' hx => by unfold OW stay at hx; exact ⟨hinj _ hx.2.1, hx.2.2⟩
theorem OX_qpass {i : Nat} {t : Tr} {dst : Option Tmp} {g : Nat × Bool} (ho : nth l i = some ⟨dst, op, ty, pos, aft, some g⟩) (hw : wantedE l.toArray e ⟨dst, op, ty, pos, aft, some g⟩ = false) (h : OX fx P l C Q t (put e dst undef) w) : OX fx P l C Q (.q i t) e w := by
  unfold OX
  intro o ho'
  rw [ho] at ho'
  cases ho'
  exact ⟨undef, .inr ⟨hw, rfl⟩, h⟩
theorem OX_qtake {i : Nat} {t : Tr} {g : Nat × Bool} (v : Value) (ho : nth l i = some ⟨some d, op, ty, pos, aft, some g⟩) (hw : wantedE l.toArray e ⟨some d, op, ty, pos, aft, some g⟩ = true)
    (h1 : ∀ w, C w → OW P l.toArray (stay e d v w) [⟨some d, op, ty, pos, aft, none⟩] e w) (h : OX fx P l C Q t (upd e d v) w) : OX fx P l C Q (.q i t) e w := by
  unfold OX
  intro o ho'
  rw [ho] at ho'
  cases ho'
  refine ⟨v, .inl ⟨hw, fun w hw => ?_⟩, h⟩
  have hh := h1 w hw
  unfold OW at hh
  rw [if_pos (by rfl)] at hh
  have hinj : ∀ u, upd e d u = upd e d v → u = v := fun u hu => by
    have := congrFun hu d
    rwa [upd_same, upd_same] at this
  have hh2 : opW P ⟨some d, op, ty, pos, aft, some g⟩ e w (fun u w' => OW P l.toArray (stay e d v w) [] (upd e d u) w') := by unfold opW at hh ⊢; exact hh
  exact opW_mono hh2 fun u w' hx => by unfold OW stay at hx; exact ⟨hinj _ hx.2.1, hx.2.2⟩
/-- What an acting operation is to come to. -/
def goOn (fx : Bool) (P : Program) (l : List Oper) (C : World → Prop) (Q : Exit → (Nat → Value) → World → Prop) (t : Tr) : Exit → (Nat → Value) → World → Prop := fun x e w => x = .normal ∧ C w ∧ ∃ C' : World → Prop, (fx = true → C' = C) ∧ (∀ u, C' u → C u) ∧ C' w ∧ OX fx P l C' Q t e w
theorem goOn_mk {t : Tr} (hC : C w) (h : OX fx P l C Q t e w) : goOn fx P l C Q t .normal e w := ⟨rfl, hC, C, fun _ => rfl, fun _ h => h, hC, h⟩
/-- .. and from here on in a smaller class. -/
theorem goOn_sub {t : Tr} (C' : World → Prop) (hs : ∀ u, C' u → C u) (hC : C' w) (h : OX false P l C' Q t e w) : goOn false P l C Q t .normal e w := ⟨rfl, hs _ hC, C', (fun h => by cases h), hs, hC, h⟩
theorem act_of {i : Nat} {t : Tr} {dst : Option Tmp} (ho : nth l i = some ⟨dst, op, ty, pos, aft, none⟩) (h : OW P l.toArray (goOn fx P l C Q t) [⟨dst, op, ty, pos, aft, none⟩] e w) :
    ∀ o, nth l i = some o → if wantedE l.toArray e o then opW P o e w (fun v w' => C w' ∧ ∃ C' : World → Prop, (fx = true → C' = C) ∧ (∀ u, C' u → C u) ∧ C' w' ∧ OX fx P l C' Q t (put e o.dst v) w') else OX fx P l C Q t (put e o.dst undef) w := by
  intro o ho'
  rw [ho] at ho'
  cases ho'
  rw [if_pos (by rfl)]
  unfold OW at h
  rw [if_pos (by rfl)] at h
  exact opW_mono h fun v w' hx => by unfold OW goOn at hx; exact hx.2
theorem act_take {i : Nat} {t : Tr} {dst : Option Tmp} {g : Nat × Bool} (ho : nth l i = some ⟨dst, op, ty, pos, aft, some g⟩) (hw : wantedE l.toArray e ⟨dst, op, ty, pos, aft, some g⟩ = true) (h : OW P l.toArray (goOn fx P l C Q t) [⟨dst, op, ty, pos, aft, none⟩] e w) :
    ∀ o, nth l i = some o → if wantedE l.toArray e o then opW P o e w (fun v w' => C w' ∧ ∃ C' : World → Prop, (fx = true → C' = C) ∧ (∀ u, C' u → C u) ∧ C' w' ∧ OX fx P l C' Q t (put e o.dst v) w') else OX fx P l C Q t (put e o.dst undef) w := by
  intro o ho'
  rw [ho] at ho'
  cases ho'
  rw [if_pos hw]
  unfold OW at h
  rw [if_pos (by rfl)] at h
  have h2 : opW P ⟨dst, op, ty, pos, aft, some g⟩ e w (fun v w' => OW P l.toArray (goOn fx P l C Q t) [] (put e dst v) w') := by unfold opW at h ⊢; exact h
  exact opW_mono h2 fun v w' hx => by unfold OW goOn at hx; exact hx.2
theorem act_pass {i : Nat} {t : Tr} {dst : Option Tmp} {g : Nat × Bool} (ho : nth l i = some ⟨dst, op, ty, pos, aft, some g⟩) (hw : wantedE l.toArray e ⟨dst, op, ty, pos, aft, some g⟩ = false) (h : OX fx P l C Q t (put e dst undef) w) :
    ∀ o, nth l i = some o → if wantedE l.toArray e o then opW P o e w (fun v w' => C w' ∧ ∃ C' : World → Prop, (fx = true → C' = C) ∧ (∀ u, C' u → C u) ∧ C' w' ∧ OX fx P l C' Q t (put e o.dst v) w') else OX fx P l C Q t (put e o.dst undef) w := by
  intro o ho'
  rw [ho] at ho'
  cases ho'
  rw [if_neg (by rw [hw]; simp)]
  exact h
theorem OX_a {i : Nat} {t : Tr} (h : ∀ o, nth l i = some o → if wantedE l.toArray e o then opW P o e w (fun v w' => C w' ∧ ∃ C' : World → Prop, (fx = true → C' = C) ∧ (∀ u, C' u → C u) ∧ C' w' ∧ OX fx P l C' Q t (put e o.dst v) w') else OX fx P l C Q t (put e o.dst undef) w) : OX fx P l C Q (.a i t) e w := h
theorem OX_a2 {i j : Nat} {t u : Tr} (h : ∀ o, nth l i = some o → if wantedE l.toArray e o then opW P o e w (fun v w' => C w' ∧ ∃ C' : World → Prop, (fx = true → C' = C) ∧ (∀ u, C' u → C u) ∧ C' w' ∧ OX fx P l C' Q t (put e o.dst v) w') else OX fx P l C Q t (put e o.dst undef) w)
    (h2 : ∀ o, nth l j = some o → if wantedE l.toArray e o then opW P o e w (fun v w' => C w' ∧ ∃ C' : World → Prop, (fx = true → C' = C) ∧ (∀ u, C' u → C u) ∧ C' w' ∧ OX fx P l C' Q u (put e o.dst v) w') else OX fx P l C Q u (put e o.dst undef) w) : OX fx P l C Q (.a2 i t j u) e w := ⟨h, h2⟩
/-- A test of the region, in both ways. -/
theorem OX_split {t : Tr} (s : Nat) (b : Bool) (hs : e s = .bool b) (ht : b = true → OX fx P l C Q t (upd e s (.bool true)) w) (hf : b = false → OX fx P l C Q t (upd e s (.bool false)) w) : OX fx P l C Q t e w := by
  cases b with
  | true => rw [upd_self hs]; exact ht rfl
  | false => rw [upd_self hs]; exact hf rfl
end
section
variable {fx : Bool} {P : Program} {l : List Oper} {C : World → Prop} {Q : Exit → (Nat → Value) → World → Prop}
theorem OX_cutT (t : Tr) (s : Tr) (J : (Nat → Value) → World → Prop) (hJ : ∀ e w, C w → J e w → OX fx P l C Q s e w) : ∀ {e : Nat → Value} {w : World}, C w → OX true P l C (fun _ e w => J e w) t e w → OX fx P l C Q (t.graft s) e w := by
  have act : ∀ {o : Oper} {e : Nat → Value} {w : World} {t' : Tr}, (∀ {e : Nat → Value} {w : World}, C w → OX true P l C (fun _ e w => J e w) t' e w → OX fx P l C Q (t'.graft s) e w) → C w →
      (if wantedE l.toArray e o then opW P o e w (fun v w' => C w' ∧ ∃ C' : World → Prop, (true = true → C' = C) ∧ (∀ u, C' u → C u) ∧ C' w' ∧ OX true P l C' (fun _ e w => J e w) t' (put e o.dst v) w') else OX true P l C (fun _ e w => J e w) t' (put e o.dst undef) w) →
      (if wantedE l.toArray e o then opW P o e w (fun v w' => C w' ∧ ∃ C' : World → Prop, (fx = true → C' = C) ∧ (∀ u, C' u → C u) ∧ C' w' ∧ OX fx P l C' Q (t'.graft s) (put e o.dst v) w') else OX fx P l C Q (t'.graft s) (put e o.dst undef) w) := by
    intro o e w t' ih hC hh
    split
    · rename_i hw
      rw [if_pos hw] at hh
      exact opW_mono hh fun v w' ⟨hv1, C', he, _, _, hv2⟩ => by
        have := he rfl
        subst this
        exact ⟨hv1, C', fun _ => rfl, fun _ h => h, hv1, ih hv1 hv2⟩
    · rename_i hw
      rw [if_neg hw] at hh
      exact ih hC hh
  induction t with
  | done => intro e w hC h; exact hJ e w hC h
  | q i t ih =>
    intro e w hC h o ho
    obtain ⟨v, h1, h2⟩ := h o ho
    exact ⟨v, h1, ih hC h2⟩
  | a i t ih => intro e w hC h o ho; exact act (t' := t) ih hC (h o ho)
  | a2 i t j u ih1 ih2 => intro e w hC h; exact ⟨fun o ho => act (t' := t) ih1 hC (h.1 o ho), fun o ho => act (t' := u) ih2 hC (h.2 o ho)⟩
  | a3 i t j u k v ih1 ih2 ih3 => intro e w hC h; exact ⟨fun o ho => act (t' := t) ih1 hC (h.1 o ho), fun o ho => act (t' := u) ih2 hC (h.2.1 o ho), fun o ho => act (t' := v) ih3 hC (h.2.2 o ho)⟩
theorem OX_cutE {t s : Tr} (J : (Nat → Value) → (Nat → Value) → World → Prop) {e : Nat → Value} {w : World} (hC : C w) (h : OX true P l C (fun _ e' w => J e e' w) t e w) (hJ : ∀ e' w', C w' → J e e' w' → OX fx P l C Q s e' w') : OX fx P l C Q (t.graft s) e w :=
  OX_cutT t s (J e) hJ hC h
end
attribute [irreducible] OX goOn
end Go.Proofs.Ytnfeibbnjdegfaa

/- Where ways meet again, whatever stands behind. No program in sight. -/
namespace Go.Proofs.Ytnfeibbnjdegfaa
open Go Go.RowKit
/-- It ends in its normal way, and so. -/
def nrm (J : (Nat → Value) → World → Prop) : Exit → (Nat → Value) → World → Prop := fun x e w => x = .normal ∧ J e w
theorem CW_meet {P : Program} {n : Nat} {c : Code} {Q : Exit → (Nat → Value) → World → Prop} {e : Nat → Value} {w : World} (J : (Nat → Value) → World → Prop) (h : CW P n c (nrm J) e w) (hk : ∀ e w, J e w → Q .normal e w) : CW P n c Q e w :=
  h.mono fun x e w ⟨hx, hJ⟩ => by subst hx; exact hk _ _ hJ
/-- The same around a block's inside. -/
theorem CW_meetB {P : Program} {n id : Nat} {c : Code} {Q : Exit → (Nat → Value) → World → Prop} {e : Nat → Value} {w : World} (J : (Nat → Value) → World → Prop) (h : CW P n c (inBlockE id (nrm J)) e w) (hk : ∀ e w, J e w → Q .normal e w) : CW P n c (inBlockE id Q) e w :=
  h.mono fun x e w hx => by
    cases x with
    | normal => unfold inBlockE at hx ⊢; exact hk _ _ hx.2
    | exit id' =>
      unfold inBlockE at hx ⊢
      simp only at hx ⊢
      split
      · rename_i hh; rw [if_pos hh] at hx; exact hk _ _ hx.2
      · rename_i hh; rw [if_neg hh] at hx; cases hx.1
    | ret => unfold inBlockE at hx; cases hx.1
    | goto t => unfold inBlockE at hx; cases hx.1
    | panic ch => unfold inBlockE at hx; cases hx.1
    | outgrown => unfold inBlockE at hx; cases hx.1
theorem OW.mono {P : Program} {ops : Array Oper} {Q Q' : Exit → (Nat → Value) → World → Prop} : ∀ (l : List Oper) {e : Nat → Value} {w : World}, OW P ops Q l e w → (∀ e w, Q .normal e w → Q' .normal e w) → OW P ops Q' l e w
  | [], e, w, h, hq => by unfold OW at h ⊢; exact hq _ _ h
  | o :: l, e, w, h, hq => by
    unfold OW at h ⊢
    split
    · rename_i hw
      rw [if_pos hw] at h
      exact opW_mono h fun v w' hv => OW.mono l hv hq
    · rename_i hw
      rw [if_neg hw] at h
      exact OW.mono l h hq
/-- Where the ways of one region meet again. -/
theorem OW_meet {P : Program} {ops : Array Oper} {Q : Exit → (Nat → Value) → World → Prop} {l : List Oper} {e : Nat → Value} {w : World} (J : (Nat → Value) → World → Prop) (h : OW P ops (nrm J) l e w) (hk : ∀ e w, J e w → Q .normal e w) : OW P ops Q l e w :=
  OW.mono l h fun e w ⟨_, hJ⟩ => hk e w hJ
end Go.Proofs.Ytnfeibbnjdegfaa

/- Walks of code that ranges over a function: the same calculus within a round, and behind such a loop; calls of yield; the loop itself, for iterators that turn cells of their own. No program in sight. -/
namespace Go.Proofs.Ytnfeibbnjdegfaa
open Go Go.RowKit
set_option linter.unusedVariables false

def fen : Option Nat → Fence
  | none => Fence.wide
  | some l => Fence.wide.inRound l
theorem fen_fn (rd : Option Nat) (f : FuncId) : (fen rd).fn f := by cases rd <;> trivial
theorem fen_depth (rd : Option Nat) : (fen rd).depth = none := by cases rd <;> rfl
theorem fen_round (rd : Option Nat) : (fen rd).round = rd := by cases rd <;> rfl
structure StD (n : Nat) (ds : List Deferred) (a : Act) (e : Nat → Value) : Prop where
  size : a.tmps.size = n
  def_ : a.defers = ds
  at_ : ∀ i, a.tmps.getD i undef = e i
theorem StD.st {n : Nat} {ds : List Deferred} {a : Act} {e : Nat → Value} (h : StD n ds a e) : St n { a with defers := [] } e := ⟨h.size, rfl, h.at_⟩
theorem StD.ev {n : Nat} {ds : List Deferred} {a : Act} {e : Nat → Value} (h : StD n ds a e) : a.eval = ev e := h.st.ev
theorem StD.put {n : Nat} {ds : List Deferred} {a : Act} {e : Nat → Value} (h : StD n ds a e) {d : Option Tmp} (hd : ∀ k, d = some k → k < n) (v : Value) : StD n ds (a.put d v) (put e d v) := by
  have h2 := h.st.put hd v
  cases d with
  | none => exact h
  | some d => exact ⟨h2.size, h.def_, h2.at_⟩
theorem wanted_eqD {n : Nat} {ds : List Deferred} {a : Act} {e : Nat → Value} (h : StD n ds a e) {ops : Array Oper} (o : Oper) : Region.wanted o (yielded ops a.tmps) = wantedE ops e o := wanted_eq h.st o

/-- A round that yield asks for. -/
def RoundW (P : Program) (l : Nat) (f : FuncId) (tmps : Array Value) (assign body : Code) (w : World) (R : Ending → World → Prop) : Prop := ∀ m, RoundIn Fence.wide m P l f tmps assign body w R
def opUponF (P : Program) (w0 : World) (K : Value → World → Prop) : Result Next → Prop
  | .ok (.value v) w => K v w
  | .ok .skip w => K undef w
  | .ok (.enter f args) w => w = w0 ∧ Calls P f args w fun en w' => ∃ v, en = .returned v ∧ K v w'
  | .ok (.round l f tmps assign body) w => RoundW P l f tmps assign body w fun en w' => ∃ v, en = .returned v ∧ K v w'
  | _ => False
def opWF (P : Program) (o : Oper) (e : Nat → Value) (w : World) (K : Value → World → Prop) : Prop := opUponF P w K ((execOp (ev e) o).run P w)
theorem opWF_of {P : Program} {o : Oper} {e : Nat → Value} {w : World} {K : Value → World → Prop} (h : opW P o e w K) : opWF P o e w K := by
  unfold opW at h
  unfold opWF
  generalize (execOp (ev e) o).run P w = r at *
  cases r with
  | ok x w' => cases x <;> simp only [opUpon] at h <;> simp only [opUponF] <;> exact h
  | halt x w' => simp only [opUpon] at h
theorem calls_fen {P : Program} {f : FuncId} {args : Array Value} {w : World} {R : Ending → World → Prop} (rd : Option Nat) (m : Nat) (h : Calls P f args w R) : CallsIn (fen rd) m P f args w R := by
  cases rd with
  | none => exact callsIn_wide.2 h
  | some l => exact CallsIn.inRound l (callsIn_wide.2 h)
theorem round_fen {P : Program} {l : Nat} {f : FuncId} {tmps : Array Value} {assign body : Code} {w : World} {R : Ending → World → Prop} (rd : Option Nat) (m : Nat) (h : RoundW P l f tmps assign body w R) : RoundIn (fen rd) m P l f tmps assign body w R := by
  cases rd with
  | none => exact h m
  | some k => exact h m
theorem Oper.wpIn_of_opWF {P : Program} {o : Oper} {a : Act} {n m : Nat} {rd : Option Nat} {ds : List Deferred} {e : Nat → Value} {w : World} (hs : StD n ds a e) {K : Value → World → Prop} {next : Act → World → Prop} {Q : Exit → Act → World → Prop}
    (h : opWF P o e w K) (hk : ∀ v w', K v w' → next (a.put o.dst v) w') : o.wpIn (fen rd) m P a w next Q := by
  unfold Oper.wpIn
  refine ⟨fun f _ => fen_fn rd f, ?_⟩
  unfold opWF at h
  have hnd : ∀ c, o.op ≠ .defer c := by
    intro c hc
    unfold execOp at h
    rw [hc] at h
    simp only [Sem.run_bind] at h
    generalize (resolve (ev e) c o.type).run P w = r at h
    cases r with
    | ok x w' => simp [Result.andThen, opUponF] at h
    | halt x w' => simp [Result.andThen, opUponF] at h
  rw [Oper.semAt_eq _ _ _ hnd, hs.ev]
  generalize (execOp (ev e) o).run P w = r at *
  cases r with
  | ok x w' =>
    cases x <;> simp only [opUponF] at h <;> simp only [Oper.uponIn]
    case value v => exact hk _ _ h
    case skip => exact hk _ _ h
    case enter f args =>
      refine ⟨fun hd => (by rw [fen_depth] at hd; cases hd), (calls_fen rd _ h.2).mono fun en w'' hh => ?_⟩
      obtain ⟨v, rfl, hv⟩ := hh
      exact hk _ _ hv
    case round l f tmps assign body =>
      refine ⟨fun hd => (by rw [fen_depth] at hd; cases hd), (round_fen rd _ h).mono fun en w'' hh => ?_⟩
      obtain ⟨v, rfl, hv⟩ := hh
      exact hk _ _ hv
  | halt x w' => simp only [opUponF] at h
/-- A list of operations, calls of yield among them. -/
def OWF (P : Program) (ops : Array Oper) (Q : Exit → (Nat → Value) → World → Prop) : List Oper → (Nat → Value) → World → Prop
  | [], e, w => Q .normal e w
  | o :: rest, e, w => if wantedE ops e o then opWF P o e w (fun v w' => OWF P ops Q rest (put e o.dst v) w') else OWF P ops Q rest (put e o.dst undef) w
def QD (n : Nat) (ds : List Deferred) (Q : Exit → (Nat → Value) → World → Prop) : Exit → Act → World → Prop := fun x a w => ∃ e, StD n ds a e ∧ Q x e w
theorem wpListIn_of_OWF {P : Program} {ops : Array Oper} {n m : Nat} {rd : Option Nat} {ds : List Deferred} {Q : Exit → (Nat → Value) → World → Prop} : ∀ (l : List Oper) {a : Act} {e : Nat → Value} {w : World},
    dstsIn n l = true → StD n ds a e → OWF P ops Q l e w → wpListIn (fen rd) m P ops (QD n ds Q) l a w
  | [], _, e, _, _, hs, h => ⟨e, hs, h⟩
  | o :: l, a, e, w, hd, hs, h => by
    obtain ⟨hd0, hd1⟩ := dstsIn_cons hd
    unfold wpListIn
    rw [wanted_eqD hs]
    unfold OWF at h
    split
    · rename_i hw
      rw [if_pos hw] at h
      exact Oper.wpIn_of_opWF hs h fun v w' hv => wpListIn_of_OWF l hd1 (hs.put hd0 v) hv
    · rename_i hw
      rw [if_neg hw] at h
      exact ⟨fun f _ => fen_fn rd f, wpListIn_of_OWF l hd1 (hs.put hd0 undef) h⟩
theorem OWF_of {P : Program} {ops : Array Oper} {Q : Exit → (Nat → Value) → World → Prop} : ∀ (l : List Oper) {e : Nat → Value} {w : World}, OW P ops Q l e w → OWF P ops Q l e w
  | [], e, w, h => by unfold OW at h; exact h
  | o :: l, e, w, h => by
    unfold OW at h
    unfold OWF
    split
    · rename_i hw
      rw [if_pos hw] at h
      exact opWF_of (opW_mono h fun v w' hv => OWF_of l hv)
    · rename_i hw
      rw [if_neg hw] at h
      exact OWF_of l h
theorem OWF_one {P : Program} {ops : Array Oper} {Q : Exit → (Nat → Value) → World → Prop} {o : Oper} {rest : List Oper} {e : Nat → Value} {w : World} (h : OW P ops (fun _ e' w' => OWF P ops Q rest e' w') [o] e w) : OWF P ops Q (o :: rest) e w := by
  unfold OW at h
  unfold OWF
  split
  · rename_i hw
    rw [if_pos hw] at h
    exact opWF_of (opW_mono h fun v w' hv => by unfold OW at hv; exact hv)
  · rename_i hw
    rw [if_neg hw] at h
    unfold OW at h
    exact h
theorem OWF_nil {P : Program} {ops : Array Oper} {Q : Exit → (Nat → Value) → World → Prop} {e : Nat → Value} {w : World} (h : Q .normal e w) : OWF P ops Q [] e w := h
/-- A call of yield. -/
def YieldW (P : Program) (l : Nat) (args : Array Value) (W : World) (R : Ending → World → Prop) : Prop :=
  ∃ fn tmps assign body, (Instr.yield l args).run P W = .ok (.round l fn tmps assign body) W ∧ RoundW P l fn tmps assign body W R
theorem YieldW.mono {P : Program} {l : Nat} {args : Array Value} {W : World} {R R' : Ending → World → Prop} (h : YieldW P l args W R) (hr : ∀ e w, R e w → R' e w) : YieldW P l args W R' := by
  obtain ⟨fn, tmps, assign, body, h1, h2⟩ := h
  exact ⟨fn, tmps, assign, body, h1, fun m => (h2 m).mono hr⟩
theorem OWF_yield {P : Program} {ops : Array Oper} {Q : Exit → (Nat → Value) → World → Prop} {rest : List Oper} {e : Nat → Value} {w : World} {dst : Option Tmp} {ty : TypeId} {pos : String} {aft : Array Edge} {x : Operand} {args : List Operand} {args' : List Value} {tys : Array TypeId} {l : Nat} {g : Option (Nat × Bool)}
    (hw : wantedE ops e ⟨dst, .call { callee := .value x, args := args.toArray, argTypes := tys }, ty, pos, aft, g⟩ = true) (hx : ev e x = .func (.yield l) #[] #[]) (ha : args.map (ev e) = args')
    (h : YieldW P l args'.toArray w fun en w' => ∃ v, en = .returned v ∧ OWF P ops Q rest (put e dst v) w') : OWF P ops Q (⟨dst, .call { callee := .value x, args := args.toArray, argTypes := tys }, ty, pos, aft, g⟩ :: rest) e w := by
  obtain ⟨fn, tmps, assign, body, h1, h2⟩ := h
  unfold OWF
  rw [if_pos hw]
  unfold opWF
  have : (execOp (ev e) ⟨dst, .call { callee := .value x, args := args.toArray, argTypes := tys }, ty, pos, aft, g⟩).run P w = .ok (.round l fn tmps assign body) w := by
    subst ha
    simp only [execOp, resolve, hx, Deferred.ofValue]
    simpa [invoke] using h1
  rw [this]
  exact h2

/-- Code, in a round or not, with marks among what is deferred. -/
def FW (rd : Option Nat) (ds : List Deferred) (P : Program) (n : Nat) (c : Code) (Q : Exit → (Nat → Value) → World → Prop) (e : Nat → Value) (w : World) : Prop := ∀ m a, StD n ds a e → c.wpIn (fen rd) m P (QD n ds Q) a w
section
variable {rd : Option Nat} {ds : List Deferred} {P : Program} {n : Nat} {Q : Exit → (Nat → Value) → World → Prop} {e : Nat → Value} {w : World}
theorem FW.mono {c : Code} {Q' : Exit → (Nat → Value) → World → Prop} (h : FW rd ds P n c Q e w) (hq : ∀ x e w, Q x e w → Q' x e w) : FW rd ds P n c Q' e w :=
  fun m a hs => wpIn_mono (h m a hs) fun x a w ⟨e, hs, hx⟩ => ⟨e, hs, hq _ _ _ hx⟩
theorem FW_of_CW {c : Code} (h : CW P n c Q e w) : FW none [] P n c Q e w := by
  unfold CW at h
  intro m a hs
  refine wpIn_wide.2 (wp_mono (h a ⟨hs.size, hs.def_, hs.at_⟩) ?_)
  rintro x a w ⟨e, hs, hx⟩
  exact ⟨e, ⟨hs.size, hs.def_, hs.at_⟩, hx⟩
theorem CW_of_FW {c : Code} (h : FW none [] P n c Q e w) : CW P n c Q e w := by
  unfold CW
  intro a hs
  refine wp_mono (wpIn_wide.1 (h 0 a ⟨hs.size, hs.def_, hs.at_⟩)) ?_
  rintro x a w ⟨e, hs, hx⟩
  exact ⟨e, ⟨hs.size, hs.def_, hs.at_⟩, hx⟩
theorem FW_seq {x y : Code} (h : FW rd ds P n x (thenE (FW rd ds P n y Q) Q) e w) : FW rd ds P n (.seq x y) Q e w := by
  intro m a hs
  refine wpIn_seq (wpIn_mono (h m a hs) fun x a w hx => ?_)
  obtain ⟨e, hs, hx⟩ := hx
  unfold thenE at hx
  cases x <;> first | exact hx m a hs | exact ⟨e, hs, hx⟩
theorem FW_skip (h : Q .normal e w) : FW rd ds P n .skip Q e w := fun _ _ hs => wpIn_skip ⟨e, hs, h⟩
theorem FW_exit {id : Nat} (h : Q (.exit id) e w) : FW rd ds P n (.exit id) Q e w := fun _ _ hs => wpIn_exit ⟨e, hs, h⟩
theorem FW_ret (h : Q .ret e w) : FW rd ds P n .ret Q e w := fun _ _ hs => wpIn_ret ⟨e, hs, h⟩
theorem FW_block {id : Nat} {c : Code} (h : FW rd ds P n c (inBlockE id Q) e w) : FW rd ds P n (.block id c) Q e w := by
  intro m a hs
  refine wpIn_block (wpIn_mono (h m a hs) fun x a w hx => ?_)
  obtain ⟨e, hs, hx⟩ := hx
  unfold inBlockE at hx
  cases x with
  | exit id' =>
    simp only at hx
    simp only [Exit.inBlock]
    split
    · rename_i h; rw [if_pos h] at hx; exact ⟨e, hs, hx⟩
    · rename_i h; rw [if_neg h] at hx; exact ⟨e, hs, hx⟩
  | _ => exact ⟨e, hs, hx⟩
theorem FW_cond {c : Operand} {x y : Code} (b : Bool) (hc : ev e c = .bool b) (ht : b = true → FW rd ds P n x Q e w) (hf : b = false → FW rd ds P n y Q e w) : FW rd ds P n (.cond c x y) Q e w := by
  intro m a hs
  cases b with
  | true => exact wpIn_cond_true (by rw [hs.ev]; exact hc) (ht rfl m a hs)
  | false => exact wpIn_cond_false (by rw [hs.ev]; exact hc) (hf rfl m a hs)
theorem FW_condT {c : Operand} {x y : Code} (hc : ev e c = .bool true) (h : FW rd ds P n x Q e w) : FW rd ds P n (.cond c x y) Q e w := FW_cond true hc (fun _ => h) (fun h => by cases h)
theorem FW_condF {c : Operand} {x y : Code} (hc : ev e c = .bool false) (h : FW rd ds P n y Q e w) : FW rd ds P n (.cond c x y) Q e w := FW_cond false hc (fun h => by cases h) (fun _ => h)
theorem FW_region {id : Nat} {l : List Oper} (hd : dstsIn n l = true) (h : OW P l.toArray Q l e w) : FW rd ds P n (.region id l.toArray false) Q e w :=
  fun m a hs => wpIn_region_lit (wpListIn_of_OWF l hd hs (OWF_of l h))
theorem FW_regionF {id : Nat} {l : List Oper} (hd : dstsIn n l = true) (h : OWF P l.toArray Q l e w) : FW rd ds P n (.region id l.toArray false) Q e w :=
  fun m a hs => wpIn_region_lit (wpListIn_of_OWF l hd hs h)
theorem FW_loop {c : Code} (I : (Nat → Value) → World → Prop) (μ : (Nat → Value) → World → Nat) (h0 : I e w)
    (round : ∀ e w, I e w → FW rd ds P n c (thenE (fun e' w' => I e' w' ∧ μ e' w' < μ e w) Q) e w) : FW rd ds P n (.loop c) Q e w := by
  intro m a hs
  refine wpIn_loop (fun a w => ∃ e, StD n ds a e ∧ I e w) (fun a w => μ (fun i => a.tmps.getD i undef) w) ⟨e, hs, h0⟩ fun a w ⟨e, hs, hI⟩ => wpIn_mono (round e w hI m a hs) fun x a' w' hx => ?_
  obtain ⟨e', hs', hx⟩ := hx
  have hfun : ∀ {a : Act} {e : Nat → Value}, StD n ds a e → (fun i => a.tmps.getD i undef) = e := fun h => funext h.at_
  unfold thenE at hx
  cases x with
  | normal =>
    refine ⟨⟨e', hs', hx.1⟩, ?_⟩
    simp only [hfun hs', hfun hs]
    exact hx.2
  | _ => exact ⟨e', hs', hx⟩
theorem wpAnyIn_of_OT {l : List Oper} {C : World → Prop} (hd : dstsIn n l = true) {m : Nat} : ∀ (f : Nat) (listed : Array Bool) (a : Act) (e : Nat → Value) (w : World),
    StD n ds a e → OT P l C Q f listed e w → wpAnyIn (fen rd) m P .any l.toArray (QD n ds Q) f listed a w
  | 0, listed, a, e, w, hs, h => ⟨h.1, e, hs, h.2⟩
  | f + 1, listed, a, e, w, hs, h => by
    refine ⟨fun h0 => ⟨e, hs, h.1 h0⟩, fun i hi => ?_⟩
    obtain ⟨_, o, ho, _⟩ := mem_ready.1 hi
    have ho' : l[i]? = some o := by simpa using ho
    have hh := h.2 i hi o ho'
    have hdo : ∀ k, o.dst = some k → k < n := fun k hk => by
      unfold dstsIn at hd
      rw [List.all_eq_true] at hd
      have := hd o (List.mem_iff_getElem?.2 ⟨i, ho'⟩)
      rw [hk] at this
      simpa using this
    unfold wpOpIn
    simp only [ho]
    rw [wanted_eqD hs]
    split
    · rename_i hw
      rw [if_pos hw] at hh
      exact Oper.wpIn_of_opWF hs (opWF_of hh) fun v w' hv => wpAnyIn_of_OT hd f _ _ _ _ (hs.put hdo v) hv.2
    · rename_i hw
      rw [if_neg hw] at hh
      exact ⟨fun f _ => fen_fn rd f, wpAnyIn_of_OT hd f _ _ _ _ (hs.put hdo undef) hh⟩
theorem FW_tree {id : Nat} {l : List Oper} (t : Tr) (C : World → Prop) (hm : P.follows .mixedOrders = true) (hd : dstsIn n l = true)
    (hk : (Region.noSelect l.toArray && t.ok l.toArray l.length (Array.replicate l.length false)) = true) (hC : ∀ w', Ext w w' → C w') (h : ∀ w', Ext w w' → C w' → OX false P l C Q t e w') : FW rd ds P n (.region id l.toArray true) Q e w := by
  intro m a hs
  refine wpIn_region_any hm ?_
  rw [Bool.and_eq_true] at hk
  have := wpAnyIn_of_OT (rd := rd) hd (m := m) l.length (Array.replicate l.length false) a e w.drew hs (OT_of_OX hk.1 t C l.length (Array.replicate l.length false) e w.drew hk.2 (hC _ (Ext.drew' w)) (h _ (Ext.drew' w) (hC _ (Ext.drew' w))))
  simpa using this
theorem FW_meet {c : Code} (J : (Nat → Value) → World → Prop) (h : FW rd ds P n c (nrm J) e w) (hk : ∀ e w, J e w → Q .normal e w) : FW rd ds P n c Q e w :=
  h.mono fun x e w ⟨hx, hJ⟩ => by subst hx; exact hk _ _ hJ
theorem CW_seqF {x y : Code} (h : CW P n x (thenE (FW none [] P n y Q) Q) e w) : FW none [] P n (.seq x y) Q e w := FW_seq (FW_of_CW h)
theorem FW_mk {c : Code} (h : ∀ m a, StD n ds a e → c.wpIn (fen rd) m P (QD n ds Q) a w) : FW rd ds P n c Q e w := h
theorem FW.out {c : Code} (h : FW rd ds P n c Q e w) : ∀ m a, StD n ds a e → c.wpIn (fen rd) m P (QD n ds Q) a w := h
end
attribute [irreducible] FW OWF
end Go.Proofs.Ytnfeibbnjdegfaa

/- A range over a function: the iterator's contract, the loop, and how a function leaves behind it. No program in sight. -/
namespace Go.Proofs.Ytnfeibbnjdegfaa
open Go Go.RowKit
set_option linter.unusedVariables false

/-- What an iterator promises: T: the blocks of its own that it turns; N: those that it leans on; Ok: what it knows of what it hands on. -/
structure Iter {α : Type} (P : Program) (gf : FuncId) (lb : List Value) (encs : α → List Value) (Ok : List α → α → World → Prop) (T N : Nat → Prop) (Pre : World → Prop) (S Sp : List α → Prop) : Prop where
  ok : ∀ pre x A B, Ok pre x A → Keeps A B (fun k => ¬ N k) → Ok pre x B
  run : ∀ (l : Nat) (J Jx : List α → World → Prop) (W : World), Pre W → (∀ s A B, J s A → Keeps A B T → J s B) → (∀ s A B, Jx s A → Keeps A B T → Jx s B) →
    (∀ pre x W1, J pre W1 → Ok pre x W1 → YieldW P l (encs x).toArray W1 fun en W' => (en = .returned (.bool true) ∧ J (pre ++ [x]) W' ∧ Keeps W1 W' (fun k => ¬ N k)) ∨ (en = .returned (.bool false) ∧ Jx (pre ++ [x]) W')) →
    J [] W → Calls P gf ((.func (.yield l) #[] #[] :: lb).toArray) W fun en W' => ∃ v, en = .returned v ∧ ((∃ xs, S xs ∧ J xs W') ∨ (∃ pre, Sp pre ∧ Jx pre W'))

def markD (D : Nat) : Deferred := { target := .collected D, args := #[] }
/-- How a function leaves: with nothing deferred, or with one loop's mark. -/
def leaveE (P : Program) (fn : Func) (R : Ending → World → Prop) : List Deferred → Exit → (Nat → Value) → World → Prop
  | [], x, e, w => (x = .normal ∨ x = .ret) ∧ ∃ v, (∀ tmps : Array Value, (∀ i, tmps.getD i undef = e i) → (results fn tmps).run P w = .ok v w) ∧ R (.returned v) w
  | [d], x, e, w => (x = .normal ∨ x = .ret) ∧ ∃ D, d = markD D ∧ w.heap[D]? = some (.deferred (some [])) ∧ ∃ v, (∀ tmps : Array Value, (∀ i, tmps.getD i undef = e i) → (results fn tmps).run P (w.putObj D (.deferred none)) = .ok v (w.putObj D (.deferred none))) ∧ R (.returned v) (w.putObj D (.deferred none))
  | _, _, _, _ => False
/-- The rest of a function: a list of code. -/
def PostL (m : Nat) (P : Program) (fn : Func) (R : Ending → World → Prop) : List Code → Exit → Act → World → Prop
  | [] => bodyPostM (fen none) m P fn R
  | c :: cs => Exit.then (c.wpIn (fen none) m P (PostL m P fn R cs)) (PostL m P fn R cs)
def LW (P : Program) (fn : Func) (R : Ending → World → Prop) (ds : List Deferred) (cs : List Code) (e : Nat → Value) (w : World) : Prop := ∀ m a, StD fn.ntmps ds a e → PostL m P fn R cs .normal a w
section
variable {P : Program} {fn : Func} {R : Ending → World → Prop} {ds : List Deferred} {e : Nat → Value} {w : World}
theorem leaves_of {m : Nat} {x : Exit} {a : Act} (hs : StD fn.ntmps ds a e) (h : leaveE P fn R ds x e w) : bodyPostM (fen none) m P fn R x a w := by
  match ds, h, hs with
  | [], h, hs =>
    obtain ⟨hx, v, hv, hR⟩ := h
    have : LeavesInM (fen none) m P fn a.tmps R a.defers .returning w := by
      rw [hs.def_]
      exact ⟨v, hv _ hs.at_, hR⟩
    rcases hx with rfl | rfl <;> exact this
  | [d], h, hs =>
    obtain ⟨hx, D, rfl, hD, v, hv, hR⟩ := h
    have : LeavesInM (fen none) m P fn a.tmps R a.defers .returning w := by
      rw [hs.def_]
      exact ⟨by simp, .inl ⟨D, _, rfl, run_takeDeferred hD, ⟨v, hv _ hs.at_, hR⟩⟩⟩
    rcases hx with rfl | rfl <;> exact this
  | d :: d2 :: r, h, _ => exact h.elim
theorem PostL_other {m : Nat} {x : Exit} (hx : x ≠ .normal) : ∀ (cs : List Code) {a : Act}, PostL m P fn R cs x a w = bodyPostM (fen none) m P fn R x a w
  | [], a => rfl
  | c :: cs, a => by
    rw [← PostL_other hx cs]
    cases x <;> first | rfl | exact absurd rfl hx
theorem PostL_nil {m : Nat} {x : Exit} {a : Act} : PostL m P fn R [] x a w = bodyPostM (fen none) m P fn R x a w := rfl
theorem LW_end (h : leaveE P fn R ds .normal e w) : LW P fn R ds [] e w := fun m a hs => leaves_of hs h
theorem LW_seq {x y : Code} {cs : List Code} (h : LW P fn R ds (x :: y :: cs) e w) : LW P fn R ds (.seq x y :: cs) e w := fun m a hs => wpIn_seq (h m a hs)
theorem LW_codeF {x : Code} {cs : List Code} (h : FW none ds P fn.ntmps x (thenE (fun e w => LW P fn R ds cs e w) (leaveE P fn R ds)) e w) : LW P fn R ds (x :: cs) e w := by
  intro m a hs
  refine wpIn_mono (h.out m a hs) fun x a w ⟨e, hs, hx⟩ => ?_
  unfold thenE at hx
  cases x with
  | normal => exact hx m a hs
  | ret => rw [PostL_other (by intro h; cases h)]; exact leaves_of hs hx
  | exit id => match ds, hx with
    | [], hx => rcases hx.1 with h | h <;> cases h
    | [d], hx => rcases hx.1 with h | h <;> cases h
    | d :: d2 :: r, hx => exact hx.elim
  | goto t => match ds, hx with
    | [], hx => rcases hx.1 with h | h <;> cases h
    | [d], hx => rcases hx.1 with h | h <;> cases h
    | d :: d2 :: r, hx => exact hx.elim
  | panic ch => match ds, hx with
    | [], hx => rcases hx.1 with h | h <;> cases h
    | [d], hx => rcases hx.1 with h | h <;> cases h
    | d :: d2 :: r, hx => exact hx.elim
  | outgrown => match ds, hx with
    | [], hx => rcases hx.1 with h | h <;> cases h
    | [d], hx => rcases hx.1 with h | h <;> cases h
    | d :: d2 :: r, hx => exact hx.elim
theorem LW_codeC {x : Code} {cs : List Code} (h : CW P fn.ntmps x (thenE (fun e w => LW P fn R [] cs e w) (leaveE P fn R [])) e w) : LW P fn R [] (x :: cs) e w := LW_codeF (FW_of_CW h)
theorem calls_of_LW {f : FuncId} {c : Code} {args : List Value} (hf : P.funcs[f]? = some fn) (hb : fn.body = some c) (hn : args.length ≤ fn.ntmps) (h : LW P fn R [] [c] (env0 args 0) w) : Calls P f args.toArray w R := by
  refine callsIn_wide.1 (callsIn_of_wp_marks (F := Fence.wide) (n := 0) hf hb trivial (wpIn_mono (h 0 _ ⟨by simp; omega, rfl, fun i => ?_⟩) fun x a w hx => ?_) rfl)
  · rw [env0_at, if_neg (by omega), Array.getD_eq_getD_getElem?, Array.getElem?_append]
    simp only [List.size_toArray, List.getElem?_toArray, Nat.sub_zero, List.getD_eq_getElem?_getD]
    split
    · rfl
    · rename_i hi
      rw [Array.getElem?_replicate, List.getElem?_eq_none (by omega)]
      split <;> simp
  · cases x <;> exact hx
theorem LW_regC {id : Nat} {l : Array Oper} {b : Bool} {cs : List Code} (h : CW P fn.ntmps (.region id l b) (thenE (fun e w => LW P fn R [] cs e w) (leaveE P fn R [])) e w) : LW P fn R [] (.region id l b :: cs) e w := LW_codeC h
theorem LW_condC {c : Operand} {x x' : Code} {cs : List Code} (h : CW P fn.ntmps (.cond c x x') (thenE (fun e w => LW P fn R [] cs e w) (leaveE P fn R [])) e w) : LW P fn R [] (.cond c x x' :: cs) e w := LW_codeC h
theorem LW_regF {id : Nat} {l : Array Oper} {b : Bool} {cs : List Code} (h : FW none ds P fn.ntmps (.region id l b) (thenE (fun e w => LW P fn R ds cs e w) (leaveE P fn R ds)) e w) : LW P fn R ds (.region id l b :: cs) e w := LW_codeF h
theorem LW_condF {c : Operand} {x x' : Code} {cs : List Code} (h : FW none ds P fn.ntmps (.cond c x x') (thenE (fun e w => LW P fn R ds cs e w) (leaveE P fn R ds)) e w) : LW P fn R ds (.cond c x x' :: cs) e w := LW_codeF h
theorem LW_ret {cs : List Code} (h : leaveE P fn R ds .ret e w) : LW P fn R ds (.ret :: cs) e w := LW_codeF (FW_ret (by unfold thenE; exact h))
theorem LW_skip {cs : List Code} (h : LW P fn R ds cs e w) : LW P fn R ds (.skip :: cs) e w := LW_codeF (FW_skip (by unfold thenE; exact h))

theorem leave_ret1 {t : Tmp} (hr : fn.results = #[.tmp t]) (v : Value) (hv : e t = v) (hR : R (.returned v) w) : leaveE P fn R [] .ret e w :=
  ⟨.inr rfl, v, fun tmps ht => by rw [results_tmp hr, ht, hv], hR⟩
theorem leaveM_ret1 {t : Tmp} {D : Nat} (hr : fn.results = #[.tmp t]) (v : Value) (hv : e t = v) (hD : w.heap[D]? = some (.deferred (some []))) (hR : R (.returned v) (w.putObj D (.deferred none))) : leaveE P fn R [markD D] .ret e w :=
  ⟨.inr rfl, D, rfl, hD, v, fun tmps ht => by rw [results_tmp hr, ht, hv], hR⟩
theorem leave_of {x : Exit} (h : bodyE P fn R x e w) : leaveE P fn R [] x e w := by
  unfold bodyE at h
  cases x with
  | normal => exact ⟨.inl rfl, h⟩
  | ret => exact ⟨.inr rfl, h⟩
  | _ => exact h.elim
theorem leaveM_of {D : Nat} (hD : w.heap[D]? = some (.deferred (some []))) (h : bodyE P fn R .ret e (w.putObj D (.deferred none))) : leaveE P fn R [markD D] .ret e w := by
  unfold bodyE at h
  obtain ⟨v, hv, hR⟩ := h
  exact ⟨.inr rfl, D, rfl, hD, v, hv, hR⟩
theorem Keeps.put (W : World) (l : Nat) (o : Obj) : Keeps W (W.putObj l o) (· = l) := Keeps.of_only (grownBy_putObj' W l o) rfl

/-- The loop's parameters, bound. -/
def binds (e : Nat → Value) : List Tmp → List Value → Nat → Value
  | p :: ps, v :: vs => binds (upd e p v) ps vs
  | _, _ => e
theorem StD.binds {n : Nat} : ∀ (ps : List Tmp) (vs : List Value) (t : Array Value) (e : Nat → Value), (∀ p ∈ ps, p < n) → StD n [] { tmps := t, defers := [] } e → StD n [] { tmps := (ps.zip vs).foldl (fun t (p, v) => t.setIfInBounds p v) t, defers := [] } (binds e ps vs)
  | [], vs, t, e, _, h => by simpa [Proofs.Ytnfeibbnjdegfaa.binds] using h
  | p :: ps, [], t, e, _, h => by simpa [Proofs.Ytnfeibbnjdegfaa.binds] using h
  | p :: ps, v :: vs, t, e, hp, h => by
    have h1 : StD n [] { tmps := t.setIfInBounds p v, defers := [] } (upd e p v) := h.put (d := some p) (fun k hk => by cases hk; exact hp p List.mem_cons_self) v
    simpa [Proofs.Ytnfeibbnjdegfaa.binds] using StD.binds ps vs (t.setIfInBounds p v) (upd e p v) (fun q hq => hp q (List.mem_cons_of_mem _ hq)) h1
/-- How a round may end. -/
def roundQ {α : Type} (D : Nat) (N : Nat → Prop) (I : List α → World → Prop) (Ix : Code → List α → World → Prop) (xs : List α) (W : World) : Exit → (Nat → Value) → World → Prop
  | .normal, _, W' => Keeps W W' (fun k => ¬ N k ∧ k ≠ D ∧ k ≠ D + 1) ∧ I xs W'
  | .ret, _, W' => Keeps W W' (fun k => k ≠ D ∧ k ≠ D + 1) ∧ Ix .ret xs W'
  | .exit id, _, W' => Keeps W W' (fun k => k ≠ D ∧ k ≠ D + 1) ∧ Ix (.exit id) xs W'
  | _, _, _ => False
theorem LW_range {α : Type} {id : Nat} {g : Operand} {ps : List Tmp} {assign body : Code} {rest : List Code} {gf : FuncId} {fnI : Func} {cI : Code} {lb : List Value} {encs : α → List Value} {Ok : List α → α → World → Prop} {T N : Nat → Prop} {Pre : World → Prop} {S Sp : List α → Prop}
    (hit : Iter P gf lb encs Ok T N Pre S Sp) (hf : P.funcs[gf]? = some fnI) (hn : (fnI.name == "runtime.NumGoroutine") = false) (hb : fnI.body = some cI) (hg : ev e g = .func (.func gf) #[] lb.toArray)
    (hps : ∀ x, (encs x).length = ps.length) (hpn : ∀ p ∈ ps, p < fn.ntmps) (hT : ∀ k, T k → k < w.heap.size) (hN : ∀ k, N k → k < w.heap.size) (hPre : ∀ W, Ext w W → Pre W)
    (I : List α → World → Prop) (Ix : Code → List α → World → Prop) (hI : ∀ s A B, I s A → Keeps A B (fun k => T k ∨ k = w.heap.size ∨ k = w.heap.size + 1) → I s B) (hIx : ∀ c s A B, Ix c s A → Keeps A B (fun k => T k ∨ k = w.heap.size ∨ k = w.heap.size + 1) → Ix c s B)
    (h0 : I [] w) (e₁ : α → Nat → Value)
    (hassign : ∀ x l W, FW (some l) [] P fn.ntmps assign (fun x' e' w' => x' = .normal ∧ e' = e₁ x ∧ w' = W) (binds e ps (encs x)) W)
    (hbody : ∀ l pre x W, I pre W → Ok pre x W → FW (some l) [] P fn.ntmps body (roundQ w.heap.size N I Ix (pre ++ [x]) W) (e₁ x) W)
    (hdone : ∀ xs W, S xs → I xs W → W.heap[w.heap.size]? = some (.deferred (some [])) → LW P fn R [markD w.heap.size] rest e W)
    (hstop : ∀ c pre W, Sp pre → Ix c pre W → W.heap[w.heap.size]? = some (.deferred (some [])) → c = .exit id ∧ LW P fn R [markD w.heap.size] rest e W) :
    LW P fn R [] (.block id (.rangeFunc g ps.toArray assign body) :: rest) e w := by
  intro m a hs
  refine wpIn_block (wpIn_rangeFunc ?_)
  intro fnn hfn
  rw [fen_round]
  obtain ⟨D, hD⟩ : ∃ D, w.heap.size = D := ⟨_, rfl⟩
  rw [hD] at hT hN hI hIx hbody hdone hstop
  obtain ⟨rec, hrec⟩ : ∃ rec : LoopState → Option Code → Loop, rec = fun st pe => { state := st, pending := pe, fn := fnn, tmps := a.tmps, params := ps.toArray, assign, body, defers := D } := ⟨_, rfl⟩
  obtain ⟨W1, hW1⟩ : ∃ W1, (w.alloc (.deferred (some []))).alloc (.loop (rec .ready none)) = W1 := ⟨_, rfl⟩
  have hx1 : Ext w W1 := by rw [← hW1]; exact (Ext.alloc' w _).trans' (Ext.alloc' _ _)
  have hK1 : W1.heap[D]? = some (.deferred (some [])) := by
    rw [← hW1, (Ext.alloc' (w.alloc (.deferred (some []))) (.loop (rec .ready none))).block D (by simp; omega)]
    have := heap_alloc_new w (.deferred (some []))
    rwa [hD] at this
  have hL1 : W1.heap[D + 1]? = some (.loop (rec .ready none)) := by
    rw [← hW1]
    have := heap_alloc_new (w.alloc (.deferred (some []))) (.loop (rec .ready none))
    rw [World.size_alloc, hD] at this
    exact this
  have heg : ∀ args w, (callFunc gf args).run P w = .ok (.enter gf args) w := enters_of hf hn hb
  refine ⟨D + 1, [markD D], W1, { target := .fn (.func gf) lb.toArray, args := #[.func (.yield (D + 1)) #[] #[]] }, W1, gf, #[.func (.yield (D + 1)) #[] #[]] ++ lb.toArray, W1, ?_, ?_, fun f _ => fen_fn none f, ?_, fun h => (by rw [fen_depth] at h; cases h), ?_⟩
  · have := run_enterLoop_outer (P := P) (w := w) fnn a.tmps ps.toArray assign body
    rw [hD] at this
    rw [← hW1, hrec]
    exact this
  · rw [hs.ev]
    simp only [resolve, hg]
    simp [go_sem]
    rfl
  · simp [invoke, go_sem, heg]
  refine calls_fen none _ ?_
  have hJk : ∀ {A B : World} {k : Nat} {o : Obj}, Keeps A B T → D ≤ k → A.heap[k]? = some o → B.heap[k]? = some o := fun hk hle ho => by
    rw [hk.block _ (Array.getElem?_eq_some_iff.1 ho).1 (fun ht => by have := hT _ ht; omega)]; exact ho
  have hcall := hit.run (D + 1) (fun pre W => I pre W ∧ W.heap[D + 1]? = some (.loop (rec .ready none)) ∧ W.heap[D]? = some (.deferred (some [])))
    (fun pre W => ∃ c, Ix c pre W ∧ W.heap[D + 1]? = some (.loop (rec .done (some c))) ∧ W.heap[D]? = some (.deferred (some []))) W1 (hPre W1 hx1)
    (fun s A B ⟨h1, h2, h3⟩ hk => ⟨hI s A B h1 (hk.mono fun k _ h => .inl h), hJk hk (by omega) h2, hJk hk (Nat.le_refl _) h3⟩)
    (fun s A B ⟨c, h1, h2, h3⟩ hk => ⟨c, hIx c s A B h1 (hk.mono fun k _ h => .inl h), hJk hk (by omega) h2, hJk hk (Nat.le_refl _) h3⟩) ?_ ⟨hI [] w W1 h0 (Keeps.of_ext hx1 _), hL1, hK1⟩
  · rw [show (.func (.yield (D + 1)) #[] #[] :: lb).toArray = #[.func (.yield (D + 1)) #[] #[]] ++ lb.toArray by simp] at hcall
    refine hcall.mono ?_
    rintro en W2 ⟨v, rfl, ⟨xs, hS, hi, hl, hk⟩ | ⟨pre, hSp, c, hi, hl, hk⟩⟩
    · have hr := run_endLoop (P := P) hl (by rw [hrec]; simp)
      refine ⟨none, _, by rw [hrec] at hr; exact hr, ?_⟩
      refine hdone xs _ hS (hI xs W2 _ hi ((Keeps.put W2 (D + 1) _).mono fun k _ h => .inr (.inr h))) ?_ m _ ⟨hs.size, by show [markD D] ++ a.defers = _; rw [hs.def_]; rfl, hs.at_⟩
      rw [World.putObj_heap_other (by omega)]; exact hk
    · have hr := run_endLoop (P := P) hl (by rw [hrec]; simp)
      refine ⟨some c, _, by rw [hrec] at hr; exact hr, ?_⟩
      obtain ⟨rfl, hw⟩ := hstop c pre (W2.putObj (D + 1) (.loop { rec .done (some c) with state := .exhausted })) hSp (hIx c pre W2 _ hi ((Keeps.put W2 (D + 1) _).mono fun k _ h => .inr (.inr h))) (by rw [World.putObj_heap_other (by omega)]; exact hk)
      rw [hrec] at hw
      refine wpIn_exit ?_
      simp only [Exit.inBlock, if_true]
      refine hw m _ ⟨?_, ?_, ?_⟩
      · exact hs.size
      · show [markD D] ++ a.defers = _; rw [hs.def_]; rfl
      · exact hs.at_
  · rintro pre x W ⟨hi, hl, hk⟩ hok
    have hlt := (Array.getElem?_eq_some_iff.1 hl).1
    have hy := run_yield (P := P) (args := (encs x).toArray) hl (by rw [hrec]; simpa using hps x)
    rw [hrec] at hy
    refine ⟨fnn, _, assign, body, hy, fun m2 => roundIn_of_wpIn trivial ?_⟩
    have hst : StD fn.ntmps [] { tmps := (ps.toArray.zip (encs x).toArray).foldl (fun t (p, v) => t.setIfInBounds p v) a.tmps, defers := [] } (Proofs.Ytnfeibbnjdegfaa.binds e ps (encs x)) := by
      have := StD.binds ps (encs x) a.tmps e hpn ⟨hs.size, rfl, hs.at_⟩
      simpa using this
    refine wpIn_mono ((hassign x (D + 1) W).out m2 _ hst) ?_
    rintro x1 a1 w1 ⟨e1, hs1, rfl, rfl, rfl⟩
    refine ⟨_, run_beginRound hl (by rw [hrec]), ?_⟩
    have hk2 : Keeps w1 (w1.putObj (D + 1) (.loop { rec .ready none with state := .busy })) (· = D + 1) := Keeps.put _ _ _
    have hl2 : (w1.putObj (D + 1) (.loop { rec .ready none with state := .busy })).heap[D + 1]? = some (.loop { rec .ready none with state := .busy }) := World.putObj_heap_same hlt
    have hd2 : (w1.putObj (D + 1) (.loop { rec .ready none with state := .busy })).heap[D]? = some (.deferred (some [])) := by rw [World.putObj_heap_other (by omega)]; exact hk
    have hi2 := hI pre w1 _ hi (hk2.mono fun k _ h => .inr (.inr h))
    have hok2 := hit.ok pre x w1 _ hok (hk2.mono fun k _ h hn => by have := hN k hn; omega)
    generalize w1.putObj (D + 1) (.loop { rec .ready none with state := .busy }) = W2 at *
    refine wpIn_mono ((hbody (D + 1) pre x W2 hi2 hok2).out m2 a1 hs1) ?_
    have fin : ∀ (jump : Option Code) (W3 : World), Keeps W2 W3 (fun k => k ≠ D ∧ k ≠ D + 1) →
        (Instr.endRound (D + 1) jump).run P W3 = .ok (.bool jump.isNone) (W3.putObj (D + 1) (.loop (rec (if jump.isNone then .ready else .done) jump))) ∧
        (W3.putObj (D + 1) (.loop (rec (if jump.isNone then .ready else .done) jump))).heap[D + 1]? = some (.loop (rec (if jump.isNone then .ready else .done) jump)) ∧
        (W3.putObj (D + 1) (.loop (rec (if jump.isNone then .ready else .done) jump))).heap[D]? = some (.deferred (some [])) := fun jump W3 hk3 => by
      have hl3 : W3.heap[D + 1]? = some (.loop { rec .ready none with state := .busy }) := by rw [hk3.block _ (Array.getElem?_eq_some_iff.1 hl2).1 (fun h => h.2 rfl)]; exact hl2
      have hd3 : W3.heap[D]? = some (.deferred (some [])) := by rw [hk3.block _ (Array.getElem?_eq_some_iff.1 hd2).1 (fun h => h.1 rfl)]; exact hd2
      have := run_endRound (P := P) jump hl3
      rw [hrec] at this ⊢
      exact ⟨this, World.putObj_heap_same (Array.getElem?_eq_some_iff.1 hl3).1, by rw [World.putObj_heap_other (by omega)]; exact hd3⟩
    rintro x3 a3 W3 ⟨e3, hs3, hq⟩
    cases x3 with
    | normal =>
      obtain ⟨hk3, hi3⟩ := hq
      obtain ⟨hr, hl4, hd4⟩ := fin none W3 (hk3.mono fun k _ h => h.2)
      have hk4 : Keeps W3 _ (· = D + 1) := Keeps.put W3 (D + 1) (.loop (rec .ready none))
      refine ⟨_, _, hr, .inl ⟨rfl, ⟨hI _ W3 _ hi3 (hk4.mono fun k _ h => .inr (.inr h)), hl4, hd4⟩, ?_⟩⟩
      exact (hk2.mono fun k _ h hn => by have := hN k hn; omega).trans' ((hk3.mono fun k _ h => h.1).trans' (hk4.mono fun k _ h hn => by have := hN k hn; omega))
    | ret =>
      obtain ⟨hk3, hi3⟩ := hq
      obtain ⟨hr, hl4, hd4⟩ := fin (some .ret) W3 hk3
      exact ⟨_, _, hr, .inr ⟨rfl, .ret, hIx _ _ W3 _ hi3 ((Keeps.put W3 (D + 1) _).mono fun k _ h => .inr (.inr h)), hl4, hd4⟩⟩
    | exit id2 =>
      obtain ⟨hk3, hi3⟩ := hq
      obtain ⟨hr, hl4, hd4⟩ := fin (some (.exit id2)) W3 hk3
      exact ⟨_, _, hr, .inr ⟨rfl, .exit id2, hIx _ _ W3 _ hi3 ((Keeps.put W3 (D + 1) _).mono fun k _ h => .inr (.inr h)), hl4, hd4⟩⟩
    | goto t => exact hq.elim
    | panic ch => exact hq.elim
    | outgrown => exact hq.elim
end
attribute [irreducible] LW leaveE
end Go.Proofs.Ytnfeibbnjdegfaa
