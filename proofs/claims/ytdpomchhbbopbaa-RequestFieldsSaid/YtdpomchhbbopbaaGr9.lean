/- Several texts in one, as they stand in wip/src. -/
import Derived.StillTail
import Derived.Test.YtdpomchhbbopbaaGr2
import Derived.Test.YtdpomchhbbopbaaGr8
/- Regions whose order is drawn, where the operations that act (calls, stores, what makes memory) stand in an order that a tree tells, and all others are quiet: each quiet one yields one value in every world of a class. The walk takes each quiet operation as early as it may come. -/
namespace Go.Proofs.Ytdpomchhbbopbaa
open Go Go.RowKit
set_option linter.unusedVariables false

inductive Tr
  | done
  | q (i : Nat) (t : Tr)
  | a (i : Nat) (t : Tr)
  | a2 (i : Nat) (t : Tr) (j : Nat) (u : Tr)
  | a3 (i : Nat) (t : Tr) (j : Nat) (u : Tr) (k : Nat) (v : Tr)
def nth : List Oper → Nat → Option Oper
  | [], _ => none
  | o :: _, 0 => some o
  | _ :: l, i + 1 => nth l i
theorem nth_eq : ∀ (l : List Oper) (i : Nat), nth l i = l[i]?
  | [], i => by simp [nth]
  | o :: l, 0 => by simp [nth]
  | o :: l, i + 1 => by simp [nth, nth_eq l i]

/-- Any order that is drawn, in a class of worlds. -/
def OT (P : Program) (l : List Oper) (C : World → Prop) (Q : Exit → (Nat → Value) → World → Prop) : Nat → Array Bool → (Nat → Value) → World → Prop
  | 0, listed, e, w => Region.ready .any l.toArray listed = [] ∧ Q .normal e w
  | f + 1, listed, e, w => (Region.ready .any l.toArray listed = [] → Q .normal e w) ∧ ∀ i ∈ Region.ready .any l.toArray listed, ∀ o, l[i]? = some o →
      if wantedE l.toArray e o then opW P o e w (fun v w' => C w' ∧ OT P l C Q f (listed.setIfInBounds i true) (put e o.dst v) w') else OT P l C Q f (listed.setIfInBounds i true) (put e o.dst undef) w

theorem wpAny_of_OT {P : Program} {l : List Oper} {C : World → Prop} {n : Nat} {Q : Exit → (Nat → Value) → World → Prop} (hd : dstsIn n l = true) : ∀ (f : Nat) (listed : Array Bool) (a : Act) (e : Nat → Value) (w : World),
    St n a e → OT P l C Q f listed e w → wpAny P .any l.toArray (QA n Q) f listed a w
  | 0, listed, a, e, w, hs, h => ⟨h.1, e, hs, h.2⟩
  | f + 1, listed, a, e, w, hs, h => by
    refine ⟨fun h0 => ⟨e, hs, h.1 h0⟩, fun i hi => ?_⟩
    obtain ⟨_, o, ho, _⟩ := mem_ready.1 hi
    have ho' : l[i]? = some o := by simpa using ho
    have hh := h.2 i hi o ho'
    have hdo : ∀ k, o.dst = some k → k < n := fun k hk => by
      unfold dstsIn at hd
      rw [List.all_eq_true] at hd
      have := hd o (List.mem_iff_getElem?.2 ⟨i, ho'⟩)
      rw [hk] at this
      simpa using this
    unfold wpOp
    simp only [ho]
    rw [wanted_eq hs]
    split
    · rename_i hw
      rw [if_pos hw] at hh
      exact .inl (Oper.wp_of_opW hs hh fun v w' hv => wpAny_of_OT hd f _ _ _ _ (hs.put hdo v) hv.2)
    · rename_i hw
      rw [if_neg hw] at hh
      exact wpAny_of_OT hd f _ _ _ _ (hs.put hdo undef) hh

theorem put_comm (e : Nat → Value) {x y : Option Tmp} (v u : Value) (h : ∀ d, x = some d → y ≠ some d) : put (put e x v) y u = put (put e y u) x v := by
  cases x with
  | none => rfl
  | some d =>
    cases y with
    | none => rfl
    | some c =>
      have hne : d ≠ c := fun he => h d rfl (he ▸ rfl)
      funext i
      show upd (upd e d v) c u i = upd (upd e c u) d v i
      by_cases h1 : i = c
      · subst h1
        rw [upd_same, upd_ne _ _ (Ne.symm hne), upd_same]
      · rw [upd_ne _ _ h1]
        by_cases h2 : i = d
        · subst h2; rw [upd_same, upd_same]
        · rw [upd_ne _ _ h2, upd_ne _ _ h2, upd_ne _ _ h1]
theorem upd_comm {a b : Nat} (e : Nat → Value) (v u : Value) (h : Nat.beq a b = false) : upd (upd e a v) b u = upd (upd e b u) a v :=
  put_comm e (x := some a) (y := some b) v u (fun d hd hb => by cases hd; cases hb; rw [Nat.beq_refl] at h; cases h)
theorem ev_put {e : Nat → Value} {dst : Option Tmp} {v : Value} {x : Operand} (h : ∀ d, dst = some d → x ≠ .tmp d) : ev (put e dst v) x = ev e x := by
  cases dst with
  | none => rfl
  | some d =>
    cases x with
    | tmp t =>
      have hne : t ≠ d := fun e => h d rfl (e ▸ rfl)
      exact upd_ne _ _ hne
    | _ => rfl
theorem execOp_putE {ops : Array Oper} (o : Oper) (hs : ∀ cs b, o.op ≠ .select cs b) (e : Nat → Value) (dst : Option Tmp) (v : Value) (h : ∀ d, dst = some d → d ∉ o.looksAt ops) :
    execOp (ev (put e dst v)) o = execOp (ev e) o :=
  execOp_congr o hs fun x hx => ev_put fun d hd hxd => h d hd (by
    subst hxd
    exact List.mem_append_left _ (List.mem_filterMap.2 ⟨.tmp d, by simpa using hx, rfl⟩))
theorem wantedE_put {ops : Array Oper} (o : Oper) (e : Nat → Value) (dst : Option Tmp) (v : Value) (h : ∀ d, dst = some d → d ∉ o.looksAt ops) :
    wantedE ops (put e dst v) o = wantedE ops e o := by
  cases dst with
  | none => rfl
  | some d =>
    unfold wantedE
    cases hg : o.guard with
    | none => rfl
    | some gw =>
      obtain ⟨g, want⟩ := gw
      have hy : yieldsE ops (put e (some d) v) g = yieldsE ops e g := by
        unfold yieldsE
        cases ht : (ops[g]?).bind (·.dst) with
        | none => rfl
        | some t =>
          have hne : t ≠ d := fun e => h d rfl (by subst e; simp [Oper.looksAt, hg, ht])
          show (match upd e d v t with | .bool b => some b | _ => none) = (match e t with | .bool b => some b | _ => none)
          rw [upd_ne _ _ hne]
      simp only [hy]

theorem opW_mono {P : Program} {o : Oper} {e : Nat → Value} {w : World} {K K' : Value → World → Prop} (h : opW P o e w K) (hk : ∀ v w, K v w → K' v w) : opW P o e w K' := by
  unfold opW at *
  generalize (execOp (ev e) o).run P w = r at *
  cases r with
  | ok x w' =>
    cases x <;> simp only [opUpon] at h ⊢
    case value v => exact hk _ _ h
    case skip => exact hk _ _ h
    case enter f args => exact ⟨h.1, h.2.mono fun en w'' ⟨v, he, hv⟩ => ⟨v, he, hk _ _ hv⟩⟩
  | halt x w' => simp only [opUpon] at h

/-- One value in every world of the class. -/
def Quiet (P : Program) (ops : Array Oper) (C : World → Prop) (o : Oper) (v : Value) (e : Nat → Value) : Prop :=
  (wantedE ops e o = true ∧ ∀ w, C w → opW P o e w (fun u w' => u = v ∧ w' = w)) ∨ (wantedE ops e o = false ∧ v = undef)
theorem Quiet.keep {P : Program} {ops : Array Oper} {C : World → Prop} {oi oj : Oper} {v : Value} {e : Nat → Value} (hsi : ∀ cs b, oi.op ≠ .select cs b) (h : Quiet P ops C oi v e) (h3 : ∀ d, oj.dst = some d → d ∉ oi.looksAt ops) (u : Value) : Quiet P ops C oi v (put e oj.dst u) := by
  unfold Quiet opW at *
  rw [execOp_putE oi hsi e oj.dst u h3, wantedE_put oi e oj.dst u h3]
  exact h
theorem OT_first {P : Program} {l : List Oper} {C : World → Prop} {Q : Exit → (Nat → Value) → World → Prop} {i : Nat} {oi : Oper} {v : Value} (hi : l[i]? = some oi)
    (hsel : ∀ (j : Nat) (o : Oper) cs b, l.toArray[j]? = some o → o.op ≠ .select cs b) :
    ∀ (f : Nat) (listed : Array Bool) (e : Nat → Value) (w : World),
      (∀ j oj, l.toArray[j]? = some oj → j ≠ i → listed.getD j true = false → (∀ e ∈ oj.after, Region.binds .any e = true → e.on ≠ i) → oi.apart l.toArray oj = true) →
      i ∈ Region.ready .any l.toArray listed → Quiet P l.toArray C oi v e → C w →
      OT P l C Q f (listed.setIfInBounds i true) (put e oi.dst v) w → OT P l C Q (f + 1) listed e w := by
  intro f
  have doI : ∀ (f : Nat) (listed : Array Bool) (e : Nat → Value) (w : World), Quiet P l.toArray C oi v e → C w → OT P l C Q f (listed.setIfInBounds i true) (put e oi.dst v) w →
      ∀ o, l[i]? = some o → if wantedE l.toArray e o then opW P o e w (fun v w' => C w' ∧ OT P l C Q f (listed.setIfInBounds i true) (put e o.dst v) w') else OT P l C Q f (listed.setIfInBounds i true) (put e o.dst undef) w := by
    intro f listed e w hq hC H o ho
    rw [hi] at ho
    cases ho
    rcases hq with ⟨hw, hr⟩ | ⟨hw, rfl⟩
    · rw [if_pos hw]
      exact opW_mono (hr w hC) fun u w' ⟨hu, hw'⟩ => by subst hu; subst hw'; exact ⟨hC, H⟩
    · rw [hw, if_neg (by simp)]
      exact H
  induction f with
  | zero =>
    intro listed e w hfree hr hq hC H
    refine ⟨fun h => (by rw [h] at hr; cases hr), fun j hj o ho => ?_⟩
    by_cases hji : j = i
    · subst hji; exact doI _ _ _ _ hq hC H o ho
    · have := ready_mono hj hji
      rw [H.1] at this
      cases this
  | succ f ih =>
    intro listed e w hfree hr hq hC H
    refine ⟨fun h => (by rw [h] at hr; cases hr), fun j hj oj hoj => ?_⟩
    by_cases hji : j = i
    · subst hji; exact doI _ _ _ _ hq hC H oj hoj
    · have hjr := ready_mono hj hji
      have h1 := H.2 j hjr oj hoj
      obtain ⟨hjun, oj', hoj', hall⟩ := mem_ready.1 hj
      have hojA : l.toArray[j]? = some oj := by simpa using hoj
      have : oj' = oj := Option.some.inj (hoj'.symm.trans hojA)
      subst this
      have hnot : ∀ e ∈ oj'.after, Region.binds .any e = true → e.on ≠ i := fun e he hb heq => by
        have h1 := hall e he hb
        have h0 := (mem_ready.1 hr).1
        rw [heq] at h1
        rcases Nat.lt_or_ge i listed.size with h' | h'
        · simp [h'] at h0 h1; rw [h0] at h1; cases h1
        · simp [Array.getElem?_eq_none h'] at h1
      have hap := hfree j oj' hoj' hji hjun hnot
      obtain ⟨p1, p2, p3⟩ := Oper.apart_spec hap
      have hsi : ∀ cs b, oi.op ≠ .select cs b := fun cs b => hsel i oi cs b (by simpa using hi)
      have hsj : ∀ cs b, oj'.op ≠ .select cs b := fun cs b => hsel j oj' cs b hoj'
      have hfree' : ∀ k ok, l.toArray[k]? = some ok → k ≠ i → (listed.setIfInBounds j true).getD k true = false →
          (∀ e ∈ ok.after, Region.binds .any e = true → e.on ≠ i) → oi.apart l.toArray ok = true := fun k ok hk hki hun hno => by
        refine hfree k ok hk hki ?_ hno
        by_cases hjk : j = k
        · subst hjk; exact hjun
        · rw [getD_set_ne true hjk] at hun; exact hun
      have step : ∀ (u : Value) (w' : World), C w' → OT P l C Q f ((listed.setIfInBounds i true).setIfInBounds j true) (put (put e oi.dst v) oj'.dst u) w' → OT P l C Q (f + 1) (listed.setIfInBounds j true) (put e oj'.dst u) w' := fun u w' hC' h => by
        refine ih (listed.setIfInBounds j true) _ _ hfree' (ready_mono hr (Ne.symm hji)) (hq.keep hsi p3 u) hC' ?_
        rw [Array.setIfInBounds_comm _ _ hji, ← put_comm e v u p2]
        exact h
      rw [wantedE_put oj' e oi.dst v p1] at h1
      split
      · rename_i hw
        rw [if_pos hw] at h1
        have h1' : opW P oj' e w (fun u w' => C w' ∧ OT P l C Q f ((listed.setIfInBounds i true).setIfInBounds j true) (put (put e oi.dst v) oj'.dst u) w') := by
          unfold opW at h1 ⊢
          rw [execOp_putE oj' hsj e oi.dst v p1] at h1
          exact h1
        exact opW_mono h1' fun u w' hh => ⟨hh.1, step u w' hh.1 hh.2⟩
      · rename_i hw
        rw [if_neg hw] at h1
        exact step undef w hC h1

theorem OT_sub {P : Program} {l : List Oper} {C C' : World → Prop} {Q : Exit → (Nat → Value) → World → Prop} (hs : ∀ u, C' u → C u) : ∀ (f : Nat) (listed : Array Bool) (e : Nat → Value) (w : World), OT P l C' Q f listed e w → OT P l C Q f listed e w
  | 0, _, _, _, h => h
  | f + 1, listed, e, w, h => by
    refine ⟨h.1, fun i hi o ho => ?_⟩
    have hh := h.2 i hi o ho
    split
    · rename_i hw; rw [if_pos hw] at hh; exact opW_mono hh fun v w' hv => ⟨hs _ hv.1, OT_sub hs f _ _ _ hv.2⟩
    · rename_i hw; rw [if_neg hw] at hh; exact OT_sub hs f _ _ _ hh
/-- A walk along a tree; behind what acts the class may be another, smaller one. -/
def OX (fx : Bool) (P : Program) (l : List Oper) : (World → Prop) → (Exit → (Nat → Value) → World → Prop) → Tr → (Nat → Value) → World → Prop
  | _, Q, .done, e, w => Q .normal e w
  | C, Q, .q i t, e, w => ∀ o, nth l i = some o → ∃ v, Quiet P l.toArray C o v e ∧ OX fx P l C Q t (put e o.dst v) w
  | C, Q, .a i t, e, w => ∀ o, nth l i = some o → if wantedE l.toArray e o then opW P o e w (fun v w' => C w' ∧ ∃ C' : World → Prop, (fx = true → C' = C) ∧ (∀ u, C' u → C u) ∧ C' w' ∧ OX fx P l C' Q t (put e o.dst v) w') else OX fx P l C Q t (put e o.dst undef) w
  | C, Q, .a2 i t j u, e, w => (∀ o, nth l i = some o → if wantedE l.toArray e o then opW P o e w (fun v w' => C w' ∧ ∃ C' : World → Prop, (fx = true → C' = C) ∧ (∀ u, C' u → C u) ∧ C' w' ∧ OX fx P l C' Q t (put e o.dst v) w') else OX fx P l C Q t (put e o.dst undef) w) ∧
      (∀ o, nth l j = some o → if wantedE l.toArray e o then opW P o e w (fun v w' => C w' ∧ ∃ C' : World → Prop, (fx = true → C' = C) ∧ (∀ u, C' u → C u) ∧ C' w' ∧ OX fx P l C' Q u (put e o.dst v) w') else OX fx P l C Q u (put e o.dst undef) w)
  | C, Q, .a3 i t j u k v, e, w => (∀ o, nth l i = some o → if wantedE l.toArray e o then opW P o e w (fun x w' => C w' ∧ ∃ C' : World → Prop, (fx = true → C' = C) ∧ (∀ u, C' u → C u) ∧ C' w' ∧ OX fx P l C' Q t (put e o.dst x) w') else OX fx P l C Q t (put e o.dst undef) w) ∧
      (∀ o, nth l j = some o → if wantedE l.toArray e o then opW P o e w (fun x w' => C w' ∧ ∃ C' : World → Prop, (fx = true → C' = C) ∧ (∀ u, C' u → C u) ∧ C' w' ∧ OX fx P l C' Q u (put e o.dst x) w') else OX fx P l C Q u (put e o.dst undef) w) ∧
      (∀ o, nth l k = some o → if wantedE l.toArray e o then opW P o e w (fun x w' => C w' ∧ ∃ C' : World → Prop, (fx = true → C' = C) ∧ (∀ u, C' u → C u) ∧ C' w' ∧ OX fx P l C' Q v (put e o.dst x) w') else OX fx P l C Q v (put e o.dst undef) w)
def Tr.graft : Tr → Tr → Tr
  | .done, s => s
  | .q i t, s => .q i (t.graft s)
  | .a i t, s => .a i (t.graft s)
  | .a2 i t j u, s => .a2 i (t.graft s) j (u.graft s)
  | .a3 i t j u k v, s => .a3 i (t.graft s) j (u.graft s) k (v.graft s)
/-- The tree tells all orders of what acts. -/
def Tr.ok (ops : Array Oper) : Tr → Nat → Array Bool → Bool
  | .done, f, listed => (f == 0) && (Region.ready .any ops listed).isEmpty
  | .q i t, f, listed => (f != 0) && (Region.ready .any ops listed).contains i && Region.free .any ops listed i && t.ok ops (f - 1) (listed.setIfInBounds i true)
  | .a i t, f, listed => (f != 0) && (Region.ready .any ops listed == [i]) && t.ok ops (f - 1) (listed.setIfInBounds i true)
  | .a2 i t j u, f, listed => (f != 0) && (Region.ready .any ops listed == [i, j]) && t.ok ops (f - 1) (listed.setIfInBounds i true) && u.ok ops (f - 1) (listed.setIfInBounds j true)
  | .a3 i t j u k v, f, listed => (f != 0) && (Region.ready .any ops listed == [i, j, k]) && t.ok ops (f - 1) (listed.setIfInBounds i true) && u.ok ops (f - 1) (listed.setIfInBounds j true) && v.ok ops (f - 1) (listed.setIfInBounds k true)
theorem OT_of_OX {fx : Bool} {P : Program} {l : List Oper} {Q : Exit → (Nat → Value) → World → Prop} (hs : Region.noSelect l.toArray = true) : ∀ (t : Tr) (C : World → Prop) (f : Nat) (listed : Array Bool) (e : Nat → Value) (w : World),
    t.ok l.toArray f listed = true → C w → OX fx P l C Q t e w → OT P l C Q f listed e w := by
  intro t
  induction t with
  | done =>
    intro C f listed e w hk hC h
    simp only [Tr.ok, Bool.and_eq_true, beq_iff_eq, List.isEmpty_iff] at hk
    obtain ⟨rfl, hr⟩ := hk
    exact ⟨hr, h⟩
  | q i t ih =>
    intro C f listed e w hk hC h
    simp only [Tr.ok, Bool.and_eq_true, bne_iff_ne] at hk
    obtain ⟨⟨⟨hf, hr⟩, hfree⟩, hk'⟩ := hk
    obtain ⟨f, rfl⟩ : ∃ g, f = g + 1 := ⟨f - 1, by omega⟩
    have hr : i ∈ Region.ready .any l.toArray listed := by simpa using hr
    obtain ⟨_, o, ho, _⟩ := mem_ready.1 hr
    have ho' : l[i]? = some o := by simpa using ho
    obtain ⟨v, hq, hrest⟩ := h o (by rw [nth_eq]; exact ho')
    exact OT_first ho' (Region.noSelect_spec hs) f listed e w (Region.free_spec ho hfree) hr hq hC (ih C f _ _ _ hk' hC hrest)
  | a i t ih =>
    intro C f listed e w hk hC h
    simp only [Tr.ok, Bool.and_eq_true, bne_iff_ne, beq_iff_eq] at hk
    obtain ⟨⟨hf, hr⟩, hk'⟩ := hk
    obtain ⟨f, rfl⟩ : ∃ g, f = g + 1 := ⟨f - 1, by omega⟩
    refine ⟨fun h0 => (by rw [h0] at hr; cases hr), fun j hj o ho => ?_⟩
    rw [hr, List.mem_singleton] at hj
    subst hj
    have hh := h o (by rw [nth_eq]; exact ho)
    split
    · rename_i hw
      rw [if_pos hw] at hh
      exact opW_mono hh fun v w' ⟨hv1, C', _, hs', hC', hv2⟩ => ⟨hv1, OT_sub hs' f _ _ _ (ih C' f _ _ _ hk' hC' hv2)⟩
    · rename_i hw
      rw [if_neg hw] at hh
      exact ih C f _ _ _ hk' hC hh
  | a2 i t j u iht ihu =>
    intro C f listed e w hk hC h
    simp only [Tr.ok, Bool.and_eq_true, bne_iff_ne, beq_iff_eq] at hk
    obtain ⟨⟨⟨hf, hr⟩, hk1⟩, hk2⟩ := hk
    obtain ⟨f, rfl⟩ : ∃ g, f = g + 1 := ⟨f - 1, by omega⟩
    refine ⟨fun h0 => (by rw [h0] at hr; cases hr), fun x hx o ho => ?_⟩
    rw [hr, List.mem_cons, List.mem_singleton] at hx
    rcases hx with rfl | rfl
    · have hh := h.1 o (by rw [nth_eq]; exact ho)
      split
      · rename_i hw
        rw [if_pos hw] at hh
        exact opW_mono hh fun v w' ⟨hv1, C', _, hs', hC', hv2⟩ => ⟨hv1, OT_sub hs' f _ _ _ (iht C' f _ _ _ hk1 hC' hv2)⟩
      · rename_i hw
        rw [if_neg hw] at hh
        exact iht C f _ _ _ hk1 hC hh
    · have hh := h.2 o (by rw [nth_eq]; exact ho)
      split
      · rename_i hw
        rw [if_pos hw] at hh
        exact opW_mono hh fun v w' ⟨hv1, C', _, hs', hC', hv2⟩ => ⟨hv1, OT_sub hs' f _ _ _ (ihu C' f _ _ _ hk2 hC' hv2)⟩
      · rename_i hw
        rw [if_neg hw] at hh
        exact ihu C f _ _ _ hk2 hC hh
  | a3 i t j u k v iht ihu ihv =>
    intro C f listed e w hk hC h
    simp only [Tr.ok, Bool.and_eq_true, bne_iff_ne, beq_iff_eq] at hk
    obtain ⟨⟨⟨⟨hf, hr⟩, hk1⟩, hk2⟩, hk3⟩ := hk
    obtain ⟨f, rfl⟩ : ∃ g, f = g + 1 := ⟨f - 1, by omega⟩
    refine ⟨fun h0 => (by rw [h0] at hr; cases hr), fun x hx o ho => ?_⟩
    rw [hr, List.mem_cons, List.mem_cons, List.mem_singleton] at hx
    rcases hx with rfl | rfl | rfl
    · have hh := h.1 o (by rw [nth_eq]; exact ho)
      split
      · rename_i hw
        rw [if_pos hw] at hh
        exact opW_mono hh fun v w' ⟨hv1, C', _, hs', hC', hv2⟩ => ⟨hv1, OT_sub hs' f _ _ _ (iht C' f _ _ _ hk1 hC' hv2)⟩
      · rename_i hw
        rw [if_neg hw] at hh
        exact iht C f _ _ _ hk1 hC hh
    · have hh := h.2.1 o (by rw [nth_eq]; exact ho)
      split
      · rename_i hw
        rw [if_pos hw] at hh
        exact opW_mono hh fun v w' ⟨hv1, C', _, hs', hC', hv2⟩ => ⟨hv1, OT_sub hs' f _ _ _ (ihu C' f _ _ _ hk2 hC' hv2)⟩
      · rename_i hw
        rw [if_neg hw] at hh
        exact ihu C f _ _ _ hk2 hC hh
    · have hh := h.2.2 o (by rw [nth_eq]; exact ho)
      split
      · rename_i hw
        rw [if_pos hw] at hh
        exact opW_mono hh fun v w' ⟨hv1, C', _, hs', hC', hv2⟩ => ⟨hv1, OT_sub hs' f _ _ _ (ihv C' f _ _ _ hk3 hC' hv2)⟩
      · rename_i hw
        rw [if_neg hw] at hh
        exact ihv C f _ _ _ hk3 hC hh

section
variable {P : Program} {n : Nat} {Q : Exit → (Nat → Value) → World → Prop} {e : Nat → Value} {w : World}
theorem CW_tree {id : Nat} {l : List Oper} (t : Tr) (C : World → Prop) (hm : P.follows .mixedOrders = true) (hd : dstsIn n l = true)
    (hk : (Region.noSelect l.toArray && t.ok l.toArray l.length (Array.replicate l.length false)) = true) (hC : ∀ w', Ext w w' → C w') (h : ∀ w', Ext w w' → C w' → OX false P l C Q t e w') : CW P n (.region id l.toArray true) Q e w := by
  unfold CW
  intro a hs
  refine wp_region_any hm ?_
  rw [Bool.and_eq_true] at hk
  have := wpAny_of_OT hd l.length (Array.replicate l.length false) a e w.drew hs (OT_of_OX hk.1 t C l.length (Array.replicate l.length false) e w.drew hk.2 (hC _ (Ext.drew' w)) (h _ (Ext.drew' w) (hC _ (Ext.drew' w))))
  simpa using this
end
section
variable {fx : Bool} {P : Program} {l : List Oper} {C : World → Prop} {Q : Exit → (Nat → Value) → World → Prop} {e : Nat → Value} {w : World} {d : Tmp} {op : Op} {ty : TypeId} {pos : String} {aft : Array Edge}
theorem OX_done (h : Q .normal e w) : OX fx P l C Q .done e w := h
/-- A quiet operation, by a walk of it alone. -/
theorem OX_q {i : Nat} {t : Tr} (v : Value) (ho : nth l i = some ⟨some d, op, ty, pos, aft, none⟩) (h1 : ∀ w, C w → OW P l.toArray (stay e d v w) [⟨some d, op, ty, pos, aft, none⟩] e w) (h : OX fx P l C Q t (upd e d v) w) : OX fx P l C Q (.q i t) e w := by
  unfold OX
  intro o ho'
  rw [ho] at ho'
  cases ho'
  refine ⟨v, .inl ⟨rfl, fun w hw => ?_⟩, h⟩
  have hh := h1 w hw
  unfold OW at hh
  rw [if_pos (by rfl)] at hh
  have hinj : ∀ u, upd e d u = upd e d v → u = v := fun u hu => by
    have := congrFun hu d
    rwa [upd_same, upd_same] at this
  exact opW_mono hh fun u w' hx => by unfold OW stay at hx; exact ⟨hinj _ hx.2.1, hx.2.2⟩
theorem OX_qpass {i : Nat} {t : Tr} {dst : Option Tmp} {g : Nat × Bool} (ho : nth l i = some ⟨dst, op, ty, pos, aft, some g⟩) (hw : wantedE l.toArray e ⟨dst, op, ty, pos, aft, some g⟩ = false) (h : OX fx P l C Q t (put e dst undef) w) : OX fx P l C Q (.q i t) e w := by
  unfold OX
  intro o ho'
  rw [ho] at ho'
  cases ho'
  exact ⟨undef, .inr ⟨hw, rfl⟩, h⟩
theorem OX_qtake {i : Nat} {t : Tr} {g : Nat × Bool} (v : Value) (ho : nth l i = some ⟨some d, op, ty, pos, aft, some g⟩) (hw : wantedE l.toArray e ⟨some d, op, ty, pos, aft, some g⟩ = true)
    (h1 : ∀ w, C w → OW P l.toArray (stay e d v w) [⟨some d, op, ty, pos, aft, none⟩] e w) (h : OX fx P l C Q t (upd e d v) w) : OX fx P l C Q (.q i t) e w := by
  unfold OX
  intro o ho'
  rw [ho] at ho'
  cases ho'
  refine ⟨v, .inl ⟨hw, fun w hw => ?_⟩, h⟩
  have hh := h1 w hw
  unfold OW at hh
  rw [if_pos (by rfl)] at hh
  have hinj : ∀ u, upd e d u = upd e d v → u = v := fun u hu => by
    have := congrFun hu d
    rwa [upd_same, upd_same] at this
  have hh2 : opW P ⟨some d, op, ty, pos, aft, some g⟩ e w (fun u w' => OW P l.toArray (stay e d v w) [] (upd e d u) w') := by unfold opW at hh ⊢; exact hh
  exact opW_mono hh2 fun u w' hx => by unfold OW stay at hx; exact ⟨hinj _ hx.2.1, hx.2.2⟩
/-- What an acting operation is to come to. -/
def goOn (fx : Bool) (P : Program) (l : List Oper) (C : World → Prop) (Q : Exit → (Nat → Value) → World → Prop) (t : Tr) : Exit → (Nat → Value) → World → Prop := fun x e w => x = .normal ∧ C w ∧ ∃ C' : World → Prop, (fx = true → C' = C) ∧ (∀ u, C' u → C u) ∧ C' w ∧ OX fx P l C' Q t e w
theorem goOn_mk {t : Tr} (hC : C w) (h : OX fx P l C Q t e w) : goOn fx P l C Q t .normal e w := ⟨rfl, hC, C, fun _ => rfl, fun _ h => h, hC, h⟩
/-- .. and from here on in a smaller class. -/
theorem goOn_sub {t : Tr} (C' : World → Prop) (hs : ∀ u, C' u → C u) (hC : C' w) (h : OX false P l C' Q t e w) : goOn false P l C Q t .normal e w := ⟨rfl, hs _ hC, C', (fun h => by cases h), hs, hC, h⟩
theorem act_of {i : Nat} {t : Tr} {dst : Option Tmp} (ho : nth l i = some ⟨dst, op, ty, pos, aft, none⟩) (h : OW P l.toArray (goOn fx P l C Q t) [⟨dst, op, ty, pos, aft, none⟩] e w) :
    ∀ o, nth l i = some o → if wantedE l.toArray e o then opW P o e w (fun v w' => C w' ∧ ∃ C' : World → Prop, (fx = true → C' = C) ∧ (∀ u, C' u → C u) ∧ C' w' ∧ OX fx P l C' Q t (put e o.dst v) w') else OX fx P l C Q t (put e o.dst undef) w := by
  intro o ho'
  rw [ho] at ho'
  cases ho'
  rw [if_pos (by rfl)]
  unfold OW at h
  rw [if_pos (by rfl)] at h
  exact opW_mono h fun v w' hx => by unfold OW goOn at hx; exact hx.2
theorem act_take {i : Nat} {t : Tr} {dst : Option Tmp} {g : Nat × Bool} (ho : nth l i = some ⟨dst, op, ty, pos, aft, some g⟩) (hw : wantedE l.toArray e ⟨dst, op, ty, pos, aft, some g⟩ = true) (h : OW P l.toArray (goOn fx P l C Q t) [⟨dst, op, ty, pos, aft, none⟩] e w) :
    ∀ o, nth l i = some o → if wantedE l.toArray e o then opW P o e w (fun v w' => C w' ∧ ∃ C' : World → Prop, (fx = true → C' = C) ∧ (∀ u, C' u → C u) ∧ C' w' ∧ OX fx P l C' Q t (put e o.dst v) w') else OX fx P l C Q t (put e o.dst undef) w := by
  intro o ho'
  rw [ho] at ho'
  cases ho'
  rw [if_pos hw]
  unfold OW at h
  rw [if_pos (by rfl)] at h
  have h2 : opW P ⟨dst, op, ty, pos, aft, some g⟩ e w (fun v w' => OW P l.toArray (goOn fx P l C Q t) [] (put e dst v) w') := by unfold opW at h ⊢; exact h
  exact opW_mono h2 fun v w' hx => by unfold OW goOn at hx; exact hx.2
theorem act_pass {i : Nat} {t : Tr} {dst : Option Tmp} {g : Nat × Bool} (ho : nth l i = some ⟨dst, op, ty, pos, aft, some g⟩) (hw : wantedE l.toArray e ⟨dst, op, ty, pos, aft, some g⟩ = false) (h : OX fx P l C Q t (put e dst undef) w) :
    ∀ o, nth l i = some o → if wantedE l.toArray e o then opW P o e w (fun v w' => C w' ∧ ∃ C' : World → Prop, (fx = true → C' = C) ∧ (∀ u, C' u → C u) ∧ C' w' ∧ OX fx P l C' Q t (put e o.dst v) w') else OX fx P l C Q t (put e o.dst undef) w := by
  intro o ho'
  rw [ho] at ho'
  cases ho'
  rw [if_neg (by rw [hw]; simp)]
  exact h
theorem OX_a {i : Nat} {t : Tr} (h : ∀ o, nth l i = some o → if wantedE l.toArray e o then opW P o e w (fun v w' => C w' ∧ ∃ C' : World → Prop, (fx = true → C' = C) ∧ (∀ u, C' u → C u) ∧ C' w' ∧ OX fx P l C' Q t (put e o.dst v) w') else OX fx P l C Q t (put e o.dst undef) w) : OX fx P l C Q (.a i t) e w := h
theorem OX_a2 {i j : Nat} {t u : Tr} (h : ∀ o, nth l i = some o → if wantedE l.toArray e o then opW P o e w (fun v w' => C w' ∧ ∃ C' : World → Prop, (fx = true → C' = C) ∧ (∀ u, C' u → C u) ∧ C' w' ∧ OX fx P l C' Q t (put e o.dst v) w') else OX fx P l C Q t (put e o.dst undef) w)
    (h2 : ∀ o, nth l j = some o → if wantedE l.toArray e o then opW P o e w (fun v w' => C w' ∧ ∃ C' : World → Prop, (fx = true → C' = C) ∧ (∀ u, C' u → C u) ∧ C' w' ∧ OX fx P l C' Q u (put e o.dst v) w') else OX fx P l C Q u (put e o.dst undef) w) : OX fx P l C Q (.a2 i t j u) e w := ⟨h, h2⟩
/-- A test of the region, in both ways. -/
theorem OX_split {t : Tr} (s : Nat) (b : Bool) (hs : e s = .bool b) (ht : b = true → OX fx P l C Q t (upd e s (.bool true)) w) (hf : b = false → OX fx P l C Q t (upd e s (.bool false)) w) : OX fx P l C Q t e w := by
  cases b with
  | true => rw [upd_self hs]; exact ht rfl
  | false => rw [upd_self hs]; exact hf rfl
end
section
variable {fx : Bool} {P : Program} {l : List Oper} {C : World → Prop} {Q : Exit → (Nat → Value) → World → Prop}
theorem OX_cutT (t : Tr) (s : Tr) (J : (Nat → Value) → World → Prop) (hJ : ∀ e w, C w → J e w → OX fx P l C Q s e w) : ∀ {e : Nat → Value} {w : World}, C w → OX true P l C (fun _ e w => J e w) t e w → OX fx P l C Q (t.graft s) e w := by
  have act : ∀ {o : Oper} {e : Nat → Value} {w : World} {t' : Tr}, (∀ {e : Nat → Value} {w : World}, C w → OX true P l C (fun _ e w => J e w) t' e w → OX fx P l C Q (t'.graft s) e w) → C w →
      (if wantedE l.toArray e o then opW P o e w (fun v w' => C w' ∧ ∃ C' : World → Prop, (true = true → C' = C) ∧ (∀ u, C' u → C u) ∧ C' w' ∧ OX true P l C' (fun _ e w => J e w) t' (put e o.dst v) w') else OX true P l C (fun _ e w => J e w) t' (put e o.dst undef) w) →
      (if wantedE l.toArray e o then opW P o e w (fun v w' => C w' ∧ ∃ C' : World → Prop, (fx = true → C' = C) ∧ (∀ u, C' u → C u) ∧ C' w' ∧ OX fx P l C' Q (t'.graft s) (put e o.dst v) w') else OX fx P l C Q (t'.graft s) (put e o.dst undef) w) := by
    intro o e w t' ih hC hh
    split
    · rename_i hw
      rw [if_pos hw] at hh
      exact opW_mono hh fun v w' ⟨hv1, C', he, _, _, hv2⟩ => by
        have := he rfl
        subst this
        exact ⟨hv1, C', fun _ => rfl, fun _ h => h, hv1, ih hv1 hv2⟩
    · rename_i hw
      rw [if_neg hw] at hh
      exact ih hC hh
  induction t with
  | done => intro e w hC h; exact hJ e w hC h
  | q i t ih =>
    intro e w hC h o ho
    obtain ⟨v, h1, h2⟩ := h o ho
    exact ⟨v, h1, ih hC h2⟩
  | a i t ih => intro e w hC h o ho; exact act (t' := t) ih hC (h o ho)
  | a2 i t j u ih1 ih2 => intro e w hC h; exact ⟨fun o ho => act (t' := t) ih1 hC (h.1 o ho), fun o ho => act (t' := u) ih2 hC (h.2 o ho)⟩
  | a3 i t j u k v ih1 ih2 ih3 => intro e w hC h; exact ⟨fun o ho => act (t' := t) ih1 hC (h.1 o ho), fun o ho => act (t' := u) ih2 hC (h.2.1 o ho), fun o ho => act (t' := v) ih3 hC (h.2.2 o ho)⟩
theorem OX_cutE {t s : Tr} (J : (Nat → Value) → (Nat → Value) → World → Prop) {e : Nat → Value} {w : World} (hC : C w) (h : OX true P l C (fun _ e' w => J e e' w) t e w) (hJ : ∀ e' w', C w' → J e e' w' → OX fx P l C Q s e' w') : OX fx P l C Q (t.graft s) e w :=
  OX_cutT t s (J e) hJ hC h
end
attribute [irreducible] OX goOn
end Go.Proofs.Ytdpomchhbbopbaa

/- Walks: the reference's reader, by the same states as wire's. -/
namespace Go.Proofs.Ytdpomchhbbopbaa
open Go Go.RowKit
set_option linter.unusedVariables false
set_option maxRecDepth 4000
theorem go_RefR {A B : Prop} (h : Held B → A := by
  intro hEnd
  repeat (first | refine OW_moveV (.int _ _) rfl ?_ | refine OW_moveV (.slice _ _ _) rfl ?_ | refine OW_moveV (.bool _) rfl ?_ | refine OW_moveV (.pointer _) rfl ?_ | refine OW_moveV (.string _) rfl ?_ | refine OW_moveV (.agg _) rfl ?_ | refine OW_moveV (.tuple _) rfl ?_ | refine OW_nil ?_ | refine thenE_normal ?_ | refine CW_seq ?_ | refine CW_region (by kernel_rfl) ?_ | refine OW_assignV (.int _ _) rfl ?_ | refine OW_assignV (.slice _ _ _) rfl ?_ | refine OW_assignV (.bool _) rfl ?_ | refine OW_assignV (.pointer _) rfl ?_ | refine OW_assignV (.string _) rfl ?_ | refine OW_assignV (.agg _) rfl ?_ | refine OW_assignV (.tuple _) rfl ?_ | refine OW_addI rfl rfl (by omega) ?_ | refine OW_subI rfl rfl (by omega) ?_ | refine OW_mulI rfl rfl (by omega) ?_ | refine OW_lss rfl rfl ?_ | refine OW_extract rfl rfl ?_ | refine OW_gtr rfl rfl ?_ | refine OW_leq rfl rfl ?_ | refine OW_geq rfl rfl ?_ | refine OW_eql rfl rfl ?_ | refine OW_neq rfl rfl ?_ | refine OW_not rfl ?_ | refine OW_pickT rfl _ rfl ?_ | refine OW_pickF rfl (.bool _) rfl ?_ | refine OW_pickB rfl rfl rfl ?_ | refine OW_move ?_ | refine OW_assign ?_ | refine OW_pass rfl ?_ | refine OW_take rfl ?_ | refine OW_lenS (by first | with_reducible exact und_bytes | with_reducible exact und_bytess) rfl ?_ | refine OW_convInt (by first | with_reducible exact und_u8 | with_reducible exact und_u64 | with_reducible exact und_int | with_reducible exact und_u32) (by first | with_reducible exact und_u8 | with_reducible exact und_u64 | with_reducible exact und_int | with_reducible exact und_u32) rfl ?_ | refine OW_add rfl rfl ?_ | refine OW_sub rfl rfl ?_ | refine OW_mul rfl rfl ?_ | refine OW_min2 rfl rfl ?_ | refine OW_max2 rfl rfl ?_ | refine OW_neg rfl ?_ | refine CW_block ?_ | refine CW_condT rfl ?_ | refine CW_condF rfl ?_ | refine CW_exit ?_ | refine CW_ret ?_ | refine CW_skip ?_ | refine LW_seq ?_ | refine LW_regC ?_ | refine LW_condC ?_ | refine LW_regF ?_ | refine LW_condF ?_ | refine FW_seq ?_ | refine FW_region (by kernel_rfl) ?_ | refine FW_block ?_ | refine FW_condT rfl ?_ | refine FW_condF rfl ?_ | refine FW_exit ?_ | refine FW_ret ?_ | refine FW_skip ?_ | refine LW_ret ?_ | refine LW_skip ?_ | refine thenE_exit ?_ | refine thenE_ret ?_ | refine inBlockE_normal ?_ | refine inBlockE_same ?_ | refine inBlockE_ret ?_ | refine inBlockE_ne (by rfl) ?_ | refine OW_eqlB (by with_reducible exact und_bool) rfl rfl ?_ | refine OW_neqB (by with_reducible exact und_bool) rfl rfl ?_ | refine OW_idxS (by with_reducible exact und_bytes) one_u8 rfl rfl _ rfl (by omega) ?_ | refine OW_idxS (by with_reducible exact und_bytess) one_bytes rfl rfl _ rfl (by omega) ?_ | refine OW_load1 (by first | with_reducible exact one_u8 | with_reducible exact one_bytes) rfl _ (by assumption) ?_ | refine OW_nilCheck rfl ?_ | refine OW_fieldF fld_V0 rfl ?_ | refine OW_fieldF fld_V1 rfl ?_ | refine OW_fieldF fld_V2 rfl ?_ | refine OW_load1 (by first | with_reducible exact one_bool | with_reducible exact one_int) rfl _ (by assumption) ?_)
  exact hEnd.out) (k : B) : A := h ⟨k⟩
theorem ox_RefR {A B : Prop} (h : Held B → A := by
  intro hEnd
  repeat (first
    | refine OX_done ?_
    | refine OX_a (act_of rfl ?_)
    | refine OX_a (act_pass rfl rfl ?_)
    | refine OX_a (act_take rfl rfl ?_)
    | (apply OX_q _ rfl
       · intro wd hwd
         (first | refine OW_moveV (.int _ _) rfl ?_ | refine OW_moveV (.slice _ _ _) rfl ?_ | refine OW_moveV (.bool _) rfl ?_ | refine OW_moveV (.pointer _) rfl ?_ | refine OW_moveV (.string _) rfl ?_ | refine OW_moveV (.agg _) rfl ?_ | refine OW_moveV (.tuple _) rfl ?_ | refine OW_nil ?_ | refine thenE_normal ?_ | refine CW_seq ?_ | refine CW_region (by kernel_rfl) ?_ | refine OW_assignV (.int _ _) rfl ?_ | refine OW_assignV (.slice _ _ _) rfl ?_ | refine OW_assignV (.bool _) rfl ?_ | refine OW_assignV (.pointer _) rfl ?_ | refine OW_assignV (.string _) rfl ?_ | refine OW_assignV (.agg _) rfl ?_ | refine OW_assignV (.tuple _) rfl ?_ | refine OW_addI rfl rfl (by omega) ?_ | refine OW_subI rfl rfl (by omega) ?_ | refine OW_mulI rfl rfl (by omega) ?_ | refine OW_lss rfl rfl ?_ | refine OW_extract rfl rfl ?_ | refine OW_gtr rfl rfl ?_ | refine OW_leq rfl rfl ?_ | refine OW_geq rfl rfl ?_ | refine OW_eql rfl rfl ?_ | refine OW_neq rfl rfl ?_ | refine OW_not rfl ?_ | refine OW_pickT rfl _ rfl ?_ | refine OW_pickF rfl (.bool _) rfl ?_ | refine OW_pickB rfl rfl rfl ?_ | refine OW_move ?_ | refine OW_assign ?_ | refine OW_pass rfl ?_ | refine OW_take rfl ?_ | refine OW_lenS (by first | with_reducible exact und_bytes | with_reducible exact und_bytess) rfl ?_ | refine OW_convInt (by first | with_reducible exact und_u8 | with_reducible exact und_u64 | with_reducible exact und_int | with_reducible exact und_u32) (by first | with_reducible exact und_u8 | with_reducible exact und_u64 | with_reducible exact und_int | with_reducible exact und_u32) rfl ?_ | refine OW_add rfl rfl ?_ | refine OW_sub rfl rfl ?_ | refine OW_mul rfl rfl ?_ | refine OW_min2 rfl rfl ?_ | refine OW_max2 rfl rfl ?_ | refine OW_neg rfl ?_ | refine CW_block ?_ | refine CW_condT rfl ?_ | refine CW_condF rfl ?_ | refine CW_exit ?_ | refine CW_ret ?_ | refine CW_skip ?_ | refine LW_seq ?_ | refine LW_regC ?_ | refine LW_condC ?_ | refine LW_regF ?_ | refine LW_condF ?_ | refine FW_seq ?_ | refine FW_region (by kernel_rfl) ?_ | refine FW_block ?_ | refine FW_condT rfl ?_ | refine FW_condF rfl ?_ | refine FW_exit ?_ | refine FW_ret ?_ | refine FW_skip ?_ | refine LW_ret ?_ | refine LW_skip ?_ | refine thenE_exit ?_ | refine thenE_ret ?_ | refine inBlockE_normal ?_ | refine inBlockE_same ?_ | refine inBlockE_ret ?_ | refine inBlockE_ne (by rfl) ?_ | refine OW_eqlB (by with_reducible exact und_bool) rfl rfl ?_ | refine OW_neqB (by with_reducible exact und_bool) rfl rfl ?_ | refine OW_idxS (by with_reducible exact und_bytes) one_u8 rfl rfl _ rfl (by omega) ?_ | refine OW_idxS (by with_reducible exact und_bytess) one_bytes rfl rfl _ rfl (by omega) ?_ | refine OW_load1 (by first | with_reducible exact one_u8 | with_reducible exact one_bytes) rfl _ (by assumption) ?_ | refine OW_nilCheck rfl ?_ | refine OW_fieldF fld_V0 rfl ?_ | refine OW_fieldF fld_V1 rfl ?_ | refine OW_fieldF fld_V2 rfl ?_ | refine OW_load1 (by first | with_reducible exact one_bool | with_reducible exact one_int) rfl _ (by assumption) ?_ | refine OW_load1 (by first | with_reducible exact one_u8 | with_reducible exact one_bytes | with_reducible exact one_bool | with_reducible exact one_int | with_reducible exact one_errno | with_reducible exact one_u32 | with_reducible exact one_u64 | with_reducible exact one_string) rfl _ (by apply_assumption; assumption) ?_)
         refine OW_nil ?_
         exact stay_mk _ _ _ _)
    | refine OX_qpass rfl rfl ?_
    | (apply OX_qtake _ rfl rfl
       · intro wd hwd
         (first | refine OW_moveV (.int _ _) rfl ?_ | refine OW_moveV (.slice _ _ _) rfl ?_ | refine OW_moveV (.bool _) rfl ?_ | refine OW_moveV (.pointer _) rfl ?_ | refine OW_moveV (.string _) rfl ?_ | refine OW_moveV (.agg _) rfl ?_ | refine OW_moveV (.tuple _) rfl ?_ | refine OW_nil ?_ | refine thenE_normal ?_ | refine CW_seq ?_ | refine CW_region (by kernel_rfl) ?_ | refine OW_assignV (.int _ _) rfl ?_ | refine OW_assignV (.slice _ _ _) rfl ?_ | refine OW_assignV (.bool _) rfl ?_ | refine OW_assignV (.pointer _) rfl ?_ | refine OW_assignV (.string _) rfl ?_ | refine OW_assignV (.agg _) rfl ?_ | refine OW_assignV (.tuple _) rfl ?_ | refine OW_addI rfl rfl (by omega) ?_ | refine OW_subI rfl rfl (by omega) ?_ | refine OW_mulI rfl rfl (by omega) ?_ | refine OW_lss rfl rfl ?_ | refine OW_extract rfl rfl ?_ | refine OW_gtr rfl rfl ?_ | refine OW_leq rfl rfl ?_ | refine OW_geq rfl rfl ?_ | refine OW_eql rfl rfl ?_ | refine OW_neq rfl rfl ?_ | refine OW_not rfl ?_ | refine OW_pickT rfl _ rfl ?_ | refine OW_pickF rfl (.bool _) rfl ?_ | refine OW_pickB rfl rfl rfl ?_ | refine OW_move ?_ | refine OW_assign ?_ | refine OW_pass rfl ?_ | refine OW_take rfl ?_ | refine OW_lenS (by first | with_reducible exact und_bytes | with_reducible exact und_bytess) rfl ?_ | refine OW_convInt (by first | with_reducible exact und_u8 | with_reducible exact und_u64 | with_reducible exact und_int | with_reducible exact und_u32) (by first | with_reducible exact und_u8 | with_reducible exact und_u64 | with_reducible exact und_int | with_reducible exact und_u32) rfl ?_ | refine OW_add rfl rfl ?_ | refine OW_sub rfl rfl ?_ | refine OW_mul rfl rfl ?_ | refine OW_min2 rfl rfl ?_ | refine OW_max2 rfl rfl ?_ | refine OW_neg rfl ?_ | refine CW_block ?_ | refine CW_condT rfl ?_ | refine CW_condF rfl ?_ | refine CW_exit ?_ | refine CW_ret ?_ | refine CW_skip ?_ | refine LW_seq ?_ | refine LW_regC ?_ | refine LW_condC ?_ | refine LW_regF ?_ | refine LW_condF ?_ | refine FW_seq ?_ | refine FW_region (by kernel_rfl) ?_ | refine FW_block ?_ | refine FW_condT rfl ?_ | refine FW_condF rfl ?_ | refine FW_exit ?_ | refine FW_ret ?_ | refine FW_skip ?_ | refine LW_ret ?_ | refine LW_skip ?_ | refine thenE_exit ?_ | refine thenE_ret ?_ | refine inBlockE_normal ?_ | refine inBlockE_same ?_ | refine inBlockE_ret ?_ | refine inBlockE_ne (by rfl) ?_ | refine OW_eqlB (by with_reducible exact und_bool) rfl rfl ?_ | refine OW_neqB (by with_reducible exact und_bool) rfl rfl ?_ | refine OW_idxS (by with_reducible exact und_bytes) one_u8 rfl rfl _ rfl (by omega) ?_ | refine OW_idxS (by with_reducible exact und_bytess) one_bytes rfl rfl _ rfl (by omega) ?_ | refine OW_load1 (by first | with_reducible exact one_u8 | with_reducible exact one_bytes) rfl _ (by assumption) ?_ | refine OW_nilCheck rfl ?_ | refine OW_fieldF fld_V0 rfl ?_ | refine OW_fieldF fld_V1 rfl ?_ | refine OW_fieldF fld_V2 rfl ?_ | refine OW_load1 (by first | with_reducible exact one_bool | with_reducible exact one_int) rfl _ (by assumption) ?_ | refine OW_load1 (by first | with_reducible exact one_u8 | with_reducible exact one_bytes | with_reducible exact one_bool | with_reducible exact one_int | with_reducible exact one_errno | with_reducible exact one_u32 | with_reducible exact one_u64 | with_reducible exact one_string) rfl _ (by apply_assumption; assumption) ?_)
         refine OW_nil ?_
         exact stay_mk _ _ _ _))
  exact hEnd.out) (k : B) : A := h ⟨k⟩
theorem fld_V0 : Fld Try.prog 133 0 := ⟨fun w g => by kernel_rfl⟩
theorem fld_V1 : Fld Try.prog 133 1 := ⟨fun w g => by kernel_rfl⟩
theorem fld_V2 : Fld Try.prog 133 2 := ⟨fun w g => by kernel_rfl⟩
theorem bld_V3 : ∀ w, (Instr.build 133 [(2, .int .i64 3)].toArray).run Try.prog w = .ok (.agg #[.slice none 0 0, .int .i64 0, .int .i64 3]) w := fun w => by kernel_rfl
theorem bld_V : ∀ w A n c, (Instr.build 133 [(0, .slice A n c)].toArray).run Try.prog w = .ok (.agg #[.slice A n c, .int .i64 0, .int .i64 0]) w := fun w A n c => by kernel_rfl

/-- The reference's reader, at block g; what is left, why it is bad. -/
structure VR (w : World) (g : Nat) (S : Nat → Prop) (s : List UInt8 × Int) : Prop where
  in_ : S g
  at_ : ∃ (A : Option Addr) (c : Nat) (B : List UInt8) (at_ : Nat), Blk w g 133 #[.slice A B.length c, .int .i64 at_, .int .i64 s.2] ∧ Bs w A B ∧ B.length ≤ c ∧ (∀ ad, A = some ad → B ≠ [] → S ad.block ∧ ad.block ≠ g) ∧ at_ ≤ B.length ∧ B.length ≤ 65536 ∧ s.1 = if s.2 = 0 then B.drop at_ else []
  bd : ∀ k, S k → k < w.heap.size
theorem VR.keeps {w w' : World} {g : Nat} {S X : Nat → Prop} {s : List UInt8 × Int} (h : VR w g S s) (hk : Keeps w w' X) (hn : ∀ k, S k → ¬ X k) : VR w' g S s := by
  obtain ⟨A, c, B, a, h1, h2, h3, h4, h5⟩ := h.at_
  exact ⟨h.in_, ⟨A, c, B, a, h1.keeps hk (hn g h.in_), h2.keepsN hk (fun ad ha hne => hn _ (h4 ad ha hne).1), h3, h4, h5⟩, fun k hk2 => Nat.lt_of_lt_of_le (h.bd k hk2) hk.size⟩
theorem VR.ext {w w' : World} {g : Nat} {S : Nat → Prop} {s : List UInt8 × Int} (h : VR w g S s) (hk : Ext w w') : VR w' g S s := by
  obtain ⟨A, c, B, a, h1, h2, h3, h4, h5⟩ := h.at_
  exact ⟨h.in_, ⟨A, c, B, a, h1.ext hk, h2.ext hk, h3, h4, h5⟩, fun k hk2 => Nat.lt_of_lt_of_le (h.bd k hk2) hk.size⟩
def VPost (w : World) (g : Nat) (S : Nat → Prop) (v : Value) (s : List UInt8 × Int) : Ending → World → Prop := fun en w' => en = .returned v ∧ VR w' g S s ∧ Keeps w w' (· = g)

set_option maxHeartbeats 8000000 in
theorem vNew_any (w : World) (A : Option Addr) (b : List UInt8) (c : Nat) (hb : Bs w A b) (hc : b.length ≤ c) (hl : b.length ≤ 1000000) : Calls Try.prog 67 #[.slice A b.length c] w (fun en w' => ∃ g, en = .returned (.pointer (some ⟨g, 0, none⟩)) ∧ w.heap.size ≤ g ∧ Ext w w' ∧ VR w' g (fun k => k = g ∨ ∃ ad, A = some ad ∧ b ≠ [] ∧ ad.block = k) (if 65536 < b.length then ([], 3) else (b, 0))) := by
  have hblt : ∀ ad, A = some ad → b ≠ [] → ad.block < w.heap.size := fun ad ha hne => Rd.lt hb (by simpa using hne) ad ha
  refine calls_of_CW Try.func67 rfl (by simp [Try.ntmps67]) ?_
  rw [Try.ntmps67]
  refine go_RefR (k := ?_)
  refine CW_cond _ rfl (fun hh => ?_) (fun hh => ?_)
  · have hl2 : 65536 < b.length := by have h2 := of_decide_eq_true hh; omega
    refine go_RefR (k := ?_)
    refine OW_build _ _ bld_V3 rfl ?_
    refine go_RefR (k := ?_)
    refine OW_box _ rfl ?_
    intro w1 g hb1 hg hlt hx
    refine go_RefR (k := ?_)
    refine bodyE_ret1 rfl (.pointer (some ⟨g, 0, none⟩)) rfl ⟨g, rfl, hg, hx, ?_⟩
    rw [if_pos hl2]
    refine ⟨.inl rfl, ⟨none, 0, [], 0, hb1, Bs.nil _ _, Nat.le_refl _, (fun ad h => by cases h), Nat.zero_le _, Nat.zero_le _, rfl⟩, fun k hk => ?_⟩
    rcases hk with rfl | ⟨ad, ha, hne, rfl⟩
    · exact hlt
    · have := hblt ad ha hne; have := hx.size; omega
  · have hl2 : ¬ 65536 < b.length := by have h2 := of_decide_eq_false hh; omega
    refine go_RefR (k := ?_)
    refine OW_build _ _ (fun w => bld_V w A b.length c) rfl ?_
    refine go_RefR (k := ?_)
    refine OW_box _ rfl ?_
    intro w1 g hb1 hg hlt hx
    refine go_RefR (k := ?_)
    refine bodyE_ret1 rfl (.pointer (some ⟨g, 0, none⟩)) rfl ⟨g, rfl, hg, hx, ?_⟩
    rw [if_neg hl2]
    refine ⟨.inl rfl, ⟨A, c, b, 0, hb1, hb.ext hx, hc, fun ad ha hne => ⟨.inr ⟨ad, ha, hne, rfl⟩, by have := hblt ad ha hne; omega⟩, Nat.zero_le _, by omega, rfl⟩, fun k hk => ?_⟩
    rcases hk with rfl | ⟨ad, ha, hne, rfl⟩
    · exact hlt
    · have := hblt ad ha hne; have := hx.size; omega

set_option maxHeartbeats 8000000 in
theorem vEnd_any (w : World) (g : Nat) (S : Nat → Prop) (s : List UInt8 × Int) (h : VR w g S s) : Calls Try.prog 73 #[.pointer (some ⟨g, 0, none⟩)] w (RetV w (.int .i64 (endE s))) := by
  obtain ⟨A, c, B, a, hB, hb, hc, hS, ha, hl, hs⟩ := h.at_
  have q0 : ∀ wd, Ext w wd → wd.cell? ⟨g, 0, none⟩ = some (.slice A B.length c) := fun wd h => h.cell' (hB.cell 0)
  have q1 : ∀ wd, Ext w wd → wd.cell? ⟨g, 1, none⟩ = some (.int .i64 a) := fun wd h => h.cell' (hB.cell 1)
  have q2 : ∀ wd, Ext w wd → wd.cell? ⟨g, 2, none⟩ = some (.int .i64 s.2) := fun wd h => h.cell' (hB.cell 2)
  refine calls_of_CW Try.func73 rfl (by simp [Try.ntmps73]) ?_
  rw [Try.ntmps73]
  refine go_RefR (k := ?_)
  refine CW_tree (.q 0 (.q 1 (.q 2 (.q 3 (.q 4 (.q 5 (.q 6 (.q 7 (.q 8 (.q 9 (.q 10 (.q 11 (.q 12 (.q 13 (.q 14 (.q 15 (.q 16 .done))))))))))))))))) (fun w' => Ext w w') (by kernel_rfl) (by kernel_rfl) (by kernel_rfl) ?_ ?_
  · exact fun _ h => h
  intro w1 hx1 _
  have m2 := q2 w1 hx1
  by_cases hz : s.2 = 0
  · rw [if_pos hz] at hs
    rw [hz] at q2 m2
    refine ox_RefR (k := ?_)
    refine go_RefR (k := ?_)
    refine CW_cond _ rfl (fun hh => ?_) (fun hh => ?_)
    · have h2 := of_decide_eq_true hh
      refine go_RefR (k := ?_)
      refine bodyE_ret1 rfl (.int .i64 (endE s)) ?_ ⟨rfl, hx1⟩
      unfold endE
      rw [if_neg (by simpa using hz), if_neg (by rw [hs, List.length_drop]; omega)]
      rfl
    · have h2 := of_decide_eq_false hh
      refine go_RefR (k := ?_)
      refine bodyE_ret1 rfl (.int .i64 (endE s)) ?_ ⟨rfl, hx1⟩
      unfold endE
      rw [if_neg (by simpa using hz), if_pos (by rw [hs, List.length_drop]; omega)]
      rfl
  · have hzb : (s.2 == 0) = false := by simpa using hz
    refine ox_RefR (k := ?_)
    rw [hzb]
    refine ox_RefR (k := ?_)
    refine go_RefR (k := ?_)
    refine bodyE_ret1 rfl (.int .i64 (endE s)) ?_ ⟨rfl, hx1⟩
    unfold endE
    rw [if_pos hz]
    rfl

def someV (s : List UInt8 × Int) (n : Int) : List UInt8 := if fits s n then s.1.take n.toNat else []
/-- What 'some' comes to. -/
def VSome (w : World) (g : Nat) (S : Nat → Prop) (s : List UInt8 × Int) (n : Int) : Ending → World → Prop := fun en w' => ∃ A c, en = .returned (.tuple #[.slice A (someV s n).length c, .bool (fits s n)]) ∧ w'.ownsRow w.heap.size 5 1 (.slice A (someV s n).length c) (someV s n).length ((someV s n).map bv) ∧ VR w' g S (stepS s n true) ∧ Keeps w w' (· = g)
set_option maxHeartbeats 8000000 in
theorem vSome_any (w : World) (g : Nat) (S : Nat → Prop) (s : List UInt8 × Int) (h : VR w g S s) (n : Nat) (hn : n ≤ 70000) : Calls Try.prog 116 #[.pointer (some ⟨g, 0, none⟩), .int .i64 n] w (VSome w g S s n) := by
  obtain ⟨A, c, B, a, hB, hb, hc, hS, ha, hl, hs⟩ := h.at_
  have hg : g < w.heap.size := h.bd _ h.in_
  have m2 : w.cell? ⟨g, 2, none⟩ = some (.int .i64 s.2) := hB.cell 2
  refine calls_of_CW Try.func116 rfl (by simp [Try.ntmps116]) ?_
  rw [Try.ntmps116]
  refine go_RefR (k := ?_)
  by_cases hz : s.2 = 0
  · rw [if_pos hz] at hs
    obtain ⟨l, z⟩ := s
    have hz : z = 0 := hz
    subst hz
    have hs : l = B.drop a := hs
    subst hs
    have q0 : ∀ wd, Ext w wd → wd.cell? ⟨g, 0, none⟩ = some (.slice A B.length c) := fun wd h => h.cell' (hB.cell 0)
    have q1 : ∀ wd, Ext w wd → wd.cell? ⟨g, 1, none⟩ = some (.int .i64 a) := fun wd h => h.cell' (hB.cell 1)
    refine go_RefR (k := ?_)
    refine CW_tree (.q 0 (.q 1 (.q 2 (.q 3 (.q 4 (.q 5 (.q 6 (.q 7 (.q 8 (.q 9 (.q 10 (.q 11 .done)))))))))))) (fun w' => Ext w w') (by kernel_rfl) (by kernel_rfl) (by kernel_rfl) ?_ ?_
    · exact fun _ h => h
    intro w1 hx1 _
    refine ox_RefR (k := ?_)
    refine go_RefR (k := ?_)
    refine CW_cond _ rfl (fun hh => ?_) (fun hh => ?_)
    · have h2 := of_decide_eq_true hh
      have hf : fits (B.drop a, 0) n = false := decide_eq_false (fun hx => by have h3 := hx.2.2; simp only [List.length_drop] at h3; omega)
      have hst : stepS (B.drop a, 0) n true = ([], 40) := by unfold stepS; rw [if_neg (by simp), if_pos (by right; simp only [List.length_drop]; omega)]
      clear hh h2
      have hB1 := hB.ext hx1
      refine go_RefR (k := ?_)
      refine OW_storeB one_int rfl (.int .i64 40) rfl rfl hB1 (by simp) ?_
      intro w2 hB2 hg2
      have hB2 : Blk w2 g 133 #[.slice A B.length c, .int .i64 a, .int .i64 40] := hB2
      have hK : Keeps w w2 (· = g) := (Keeps.of_ext hx1 _).trans' (Keeps.of_only hg2 rfl)
      refine go_RefR (k := ?_)
      refine bodyE_ret2 rfl (.slice none 0 0) (.bool false) rfl rfl ?_
      unfold VSome someV
      rw [hf, hst]
      refine ⟨none, 0, rfl, World.ownsRow_nil _ _ _ _, ⟨h.in_, ⟨A, c, B, a, hB2, hb.keepsN hK (fun ad ha hne => (hS ad ha hne).2), hc, hS, ha, hl, rfl⟩, fun k hk => Nat.lt_of_lt_of_le (h.bd k hk) hK.size⟩, hK⟩
    · have h2 := of_decide_eq_false hh
      have hfit : a + n ≤ B.length := by omega
      have hf : fits (B.drop a, 0) n = true := decide_eq_true ⟨rfl, by omega, by simp only [List.length_drop]; omega⟩
      have hst : stepS (B.drop a, 0) n true = (B.drop (a + n), 0) := by unfold stepS; rw [if_neg (by simp), if_neg (by simp only [List.length_drop]; omega), if_pos rfl]; simp
      clear hh h2
      have hB1 := hB.ext hx1
      have m1 := q1 w1 hx1
      refine go_RefR (k := ?_)
      refine OW_storeB one_int rfl (.int .i64 ((a : Int) + n)) rfl rfl hB1 (by simp) ?_
      intro w2 hB2 hg2
      have hB2 : Blk w2 g 133 #[.slice A B.length c, .int .i64 ((a : Int) + n), .int .i64 0] := hB2
      have hK : Keeps w w2 (· = g) := (Keeps.of_ext hx1 _).trans' (Keeps.of_only hg2 rfl)
      have hb2 : Bs w2 A B := hb.keepsN hK (fun ad ha hne => (hS ad ha hne).2)
      have p0 : ∀ wd, Ext w2 wd → wd.cell? ⟨g, 0, none⟩ = some (.slice A B.length c) := fun wd h => h.cell' (hB2.cell 0)
      have p1 : ∀ wd, Ext w2 wd → wd.cell? ⟨g, 1, none⟩ = some (.int .i64 ((a : Int) + n)) := fun wd h => h.cell' (hB2.cell 1)
      clear q0 q1 m1
      refine go_RefR (k := ?_)
      refine CW_tree (.q 0 (.q 1 (.q 2 (.q 3 (.q 4 (.q 5 (.q 6 (.q 7 (.q 8 (.q 9 (.q 10 (.q 11 (.q 12 (.q 13 (.q 14 (.a 15 (.q 16 (.q 17 .done)))))))))))))))))) (fun w' => Ext w2 w') (by kernel_rfl) (by kernel_rfl) (by kernel_rfl) ?_ ?_
      · exact fun _ h => h
      intro w3 hx3 _
      refine ox_RefR (k := ?_)
      apply OX_q _ rfl
      · intro wd hwd
        refine OW_slice (lv := (a : Int)) (hv := (a : Int) + n) (mv := c) (by with_reducible exact und_bytes) one_u8 rfl ⟨_, by show Value.int _ ((a : Int) + n - n) = _; rw [show (a : Int) + n - n = a by omega]⟩ ⟨_, rfl⟩ rfl (fun h => by cases h) (by omega) ?_
        refine OW_nil ?_
        exact stay_mk _ _ _ _
      rw [show ((a : Int) + n).toNat - (a : Int).toNat = n by omega]
      have hlen : ((B.drop a).take n).length = n := by rw [List.length_take, List.length_drop]; omega
      have hcut : Bs w3 (cutA A c a) ((B.drop a).take n) := (hb2.ext hx3).cut c a n (by omega)
      have hcp := refCopy_any w3 (cutA A c a) ((B.drop a).take n) (c - a) hcut (by omega)
      rw [hlen] at hcp
      refine ox_RefR (k := ?_)
      refine OW_callBs Try.func22 (by kernel_rfl) rfl hcp rfl ?_
      intro w4 A4 c4 hf4
      refine OW_nil (goOn_mk (hx3.trans' hf4.ext) ?_)
      refine ox_RefR (k := ?_)
      refine go_RefR (k := ?_)
      have hx24 := hx3.trans' hf4.ext
      refine bodyE_ret2 rfl (.slice A4 _ c4) (.bool true) rfl rfl ?_
      unfold VSome someV
      rw [hf, hst]
      have hsz : w.heap.size ≤ w3.heap.size := Nat.le_trans hK.size hx3.size
      refine ⟨A4, c4, rfl, own_mono hf4.own hsz, ⟨h.in_, ⟨A, c, B, a + n, hB2.ext hx24, hb2.ext hx24, hc, hS, hfit, hl, rfl⟩, fun k hk => Nat.lt_of_lt_of_le (h.bd k hk) (Nat.le_trans hK.size hx24.size)⟩, hK.trans' (Keeps.of_ext hx24 _)⟩
  · refine CW_condT (by show Value.bool (s.2 != 0) = _; rw [bne_iff_ne.2 hz]) ?_
    refine go_RefR (k := ?_)
    have hf : fits s n = false := decide_eq_false (fun hx => hz hx.1)
    have hst : stepS s n true = s := by unfold stepS; rw [if_pos hz]
    refine bodyE_ret2 rfl (.slice none 0 0) (.bool false) rfl rfl ?_
    unfold VSome someV
    rw [hf, hst]
    exact ⟨none, 0, rfl, World.ownsRow_nil _ _ _ _, h, Keeps.rfl' _ _⟩

theorem stepS_nf {s : List UInt8 × Int} {n : Int} (h : fits s n = false) (ok ok' : Bool) : stepS s n ok = stepS s n ok' := by
  unfold stepS
  by_cases h1 : s.2 ≠ 0
  · rw [if_pos h1, if_pos h1]
  · rw [if_neg h1, if_neg h1]
    have h2 : n < 0 ∨ (s.1.length : Int) < n := by
      have := of_decide_eq_false h
      simp only [ne_eq, Decidable.not_not] at h1
      omega
    rw [if_pos h2, if_pos h2]
theorem stepS_ok {s : List UInt8 × Int} {n : Int} (h : fits s n = true) (ok : Bool) : stepS s n ok = if ok then (s.1.drop n.toNat, 0) else ([], 40) := by
  obtain ⟨h1, h2, h3⟩ := of_decide_eq_true h
  unfold stepS
  rw [if_neg (by simpa using h1), if_neg (by omega)]
theorem stepS_bad {s : List UInt8 × Int} {n : Int} (h : fits s n = false) (ok : Bool) : (stepS s n ok).2 ≠ 0 := by
  unfold stepS
  by_cases h1 : s.2 ≠ 0
  · rw [if_pos h1]; exact h1
  · rw [if_neg h1]
    have h2 : n < 0 ∨ (s.1.length : Int) < n := by
      have := of_decide_eq_false h
      simp only [ne_eq, Decidable.not_not] at h1
      omega
    rw [if_pos h2]
    decide
theorem fits_len {s : List UInt8 × Int} {n : Nat} (h : fits s n = true) : (s.1.take n).length = n := by
  obtain ⟨h1, h2, h3⟩ := of_decide_eq_true h
  rw [List.length_take]; omega
set_option maxHeartbeats 8000000 in
theorem vByte_any (w : World) (g : Nat) (S : Nat → Prop) (s : List UInt8 × Int) (h : VR w g S s) : Calls Try.prog 71 #[.pointer (some ⟨g, 0, none⟩)] w (VPost w g S (bv (if fits s 1 then s.1.headD 0 else 0)) (stepS s 1 true)) := by
  refine calls_of_CW Try.func71 rfl (by simp [Try.ntmps71]) ?_
  rw [Try.ntmps71]
  refine go_RefR (k := ?_)
  refine OW_callC Try.func116 (by kernel_rfl) rfl (vSome_any w g S s h 1 (by omega)) rfl ?_
  rintro en w1 ⟨A, c, rfl, ho, hv, hk⟩
  refine ⟨_, rfl, ?_⟩
  by_cases hf : fits s 1 = true
  · have hlen := fits_len (n := 1) hf
    have hl : someV s (1 : Nat) = [s.1.headD 0] := by
      unfold someV
      rw [show fits s ((1 : Nat) : Int) = true from hf, if_pos rfl, show ((1 : Nat) : Int).toNat = 1 from rfl, one_of (l := s.1.take 1) hlen]
      cases s.1 <;> rfl
    rw [hl] at ho ⊢
    rw [show fits s ((1 : Nat) : Int) = true from hf]
    obtain ⟨ad, hA, hc⟩ := own_rd ho 0 (bv (s.1.headD 0)) rfl
    subst hA
    rw [hf]
    refine go_RefR (k := ?_)
    refine OW_idxL 0 (by with_reducible exact und_bytes) one_u8 rfl rfl (by simp) ?_
    refine go_RefR (k := ?_)
    exact bodyE_ret1 rfl (bv (s.1.headD 0)) rfl ⟨rfl, hv, hk⟩
  · have hf : fits s 1 = false := by simpa using hf
    rw [show fits s ((1 : Nat) : Int) = false from hf, hf]
    refine go_RefR (k := ?_)
    exact bodyE_ret1 rfl (bv 0) rfl ⟨rfl, hv, hk⟩

set_option maxHeartbeats 8000000 in
theorem vInt_any (w : World) (g : Nat) (S : Nat → Prop) (s : List UInt8 × Int) (h : VR w g S s) : Calls Try.prog 68 #[.pointer (some ⟨g, 0, none⟩)] w (VPost w g S (.int .i64 (if fits s 8 then i64L (s.1.take 8) else 0)) (stepS s 8 true)) := by
  have hg := h.bd _ h.in_
  refine calls_of_CW Try.func68 rfl (by simp [Try.ntmps68]) ?_
  rw [Try.ntmps68]
  refine go_RefR (k := ?_)
  refine OW_callC Try.func116 (by kernel_rfl) rfl (vSome_any w g S s h 8 (by omega)) rfl ?_
  rintro en w1 ⟨A, c, rfl, ho, hv, hk⟩
  refine ⟨_, rfl, ?_⟩
  by_cases hf : fits s 8 = true
  · have hlen := fits_len (n := 8) hf
    have hl : someV s (8 : Nat) = s.1.take 8 := by
      unfold someV
      rw [show fits s ((8 : Nat) : Int) = true from hf, if_pos rfl]; rfl
    rw [hl] at ho ⊢
    rw [show fits s ((8 : Nat) : Int) = true from hf]
    rw [hf]
    refine go_RefR (k := ?_)
    have T := refLoad_any w1 A (s.1.take 8) c 0 8 8 rfl (by decide) (own_rd ho) (by omega) (by omega)
    rw [ldV_all _ 8 hlen] at T
    refine OW_callV Try.func117 (by kernel_rfl) rfl T rfl ?_
    intro w2 hx2
    refine go_RefR (k := ?_)
    exact bodyE_ret1 rfl (.int .i64 (i64L (s.1.take 8))) rfl ⟨rfl, hv.ext hx2, hk.trans' (Keeps.of_ext hx2 _)⟩
  · have hf : fits s 8 = false := by simpa using hf
    rw [show fits s ((8 : Nat) : Int) = false from hf, hf]
    refine go_RefR (k := ?_)
    exact bodyE_ret1 rfl (.int .i64 0) rfl ⟨rfl, hv, hk⟩

/-- A reader is made bad. -/
theorem VR.toBad {w w2 : World} {g : Nat} {S : Nat → Prop} {s : List UInt8 × Int} {A : Option Addr} {c a : Nat} {B : List UInt8} (h : VR w g S s) (hb : Bs w A B) (hc : B.length ≤ c) (hS : ∀ ad, A = some ad → B ≠ [] → S ad.block ∧ ad.block ≠ g) (ha : a ≤ B.length) (hl : B.length ≤ 65536)
    (hB2 : Blk w2 g 133 #[.slice A B.length c, .int .i64 a, .int .i64 40]) (hK : Keeps w w2 (· = g)) : VR w2 g S ([], 40) :=
  ⟨h.in_, ⟨A, c, B, a, hB2, hb.keepsN hK (fun ad ha hne => (hS ad ha hne).2), hc, hS, ha, hl, rfl⟩, fun k hk => Nat.lt_of_lt_of_le (h.bd k hk) hK.size⟩

theorem bytesV_nf {s : List UInt8 × Int} (h : fits s 4 = false) : bytesV s = [] ∧ bytesS s = stepS s 4 true := by
  have hb := stepS_bad h (lenOk s)
  have hn : fits (stepS s 4 (lenOk s)) (lenN s) = false := decide_eq_false (fun hx => hb hx.1)
  refine ⟨by unfold bytesV; rw [hn]; rfl, ?_⟩
  unfold bytesS
  rw [stepS, if_pos hb, stepS_nf h _ true]
theorem bytesV_long {s : List UInt8 × Int} (h : fits s 4 = true) (hl : ¬ loadL (s.1.take 4) ≤ 65536) : bytesV s = [] ∧ bytesS s = ([], 40) := by
  have hk : lenOk s = false := decide_eq_false (by omega)
  have hs : stepS s 4 (lenOk s) = ([], 40) := by rw [hk, stepS_ok h]; rfl
  have hn : lenN s = 0 := by unfold lenN; rw [hk, Bool.and_false]; rfl
  unfold bytesV bytesS
  rw [hs, hn]
  exact ⟨by rw [show fits ([], 40) 0 = false from rfl]; rfl, rfl⟩
theorem bytesV_ok {s : List UInt8 × Int} (h : fits s 4 = true) (hl : loadL (s.1.take 4) ≤ 65536) : bytesV s = someV (s.1.drop 4, 0) (loadL (s.1.take 4)) ∧ bytesS s = stepS (s.1.drop 4, 0) (loadL (s.1.take 4)) true := by
  have hk : lenOk s = true := decide_eq_true (by omega)
  have hs : stepS s 4 (lenOk s) = (s.1.drop 4, 0) := by rw [hk, stepS_ok h]; rfl
  have hn : lenN s = loadL (s.1.take 4) := by unfold lenN; rw [hk, h]; rfl
  unfold bytesV bytesS someV
  rw [hs, hn]
  exact ⟨rfl, rfl⟩
def VBytes (w : World) (g : Nat) (S : Nat → Prop) (l : List UInt8) (s : List UInt8 × Int) : Ending → World → Prop := fun en w' => ∃ A c, en = .returned (.slice A l.length c) ∧ w'.ownsRow w.heap.size 5 1 (.slice A l.length c) l.length (l.map bv) ∧ VR w' g S s ∧ Keeps w w' (· = g)
set_option maxHeartbeats 8000000 in
theorem vBytes_any (w : World) (g : Nat) (S : Nat → Prop) (s : List UInt8 × Int) (h : VR w g S s) : Calls Try.prog 69 #[.pointer (some ⟨g, 0, none⟩)] w (VBytes w g S (bytesV s) (bytesS s)) := by
  have hg := h.bd _ h.in_
  refine calls_of_CW Try.func69 rfl (by simp [Try.ntmps69]) ?_
  rw [Try.ntmps69]
  refine go_RefR (k := ?_)
  refine OW_callC Try.func116 (by kernel_rfl) rfl (vSome_any w g S s h 4 (by omega)) rfl ?_
  rintro en w1 ⟨A, c, rfl, ho, hv, hk⟩
  refine ⟨_, rfl, ?_⟩
  by_cases hf : fits s 4 = true
  · have hlen := fits_len (n := 4) hf
    have hl : someV s (4 : Nat) = s.1.take 4 := by
      unfold someV
      rw [show fits s ((4 : Nat) : Int) = true from hf, if_pos rfl]; rfl
    rw [hl] at ho ⊢
    rw [show fits s ((4 : Nat) : Int) = true from hf]
    have hst := stepS_ok hf true
    rw [if_pos rfl] at hst
    rw [show stepS s ((4 : Nat) : Int) true = (s.1.drop 4, 0) from hst] at hv
    have hlt : loadL (s.1.take 4) < 256 ^ 4 := by have := loadL_lt (s.1.take 4); rwa [hlen] at this
    refine go_RefR (k := ?_)
    have T := refLoad_any w1 A (s.1.take 4) c 0 4 4 rfl (by decide) (own_rd ho) (by omega) (by omega)
    rw [ldV_all _ 4 hlen] at T
    refine OW_callV Try.func117 (by kernel_rfl) rfl T rfl ?_
    intro w2 hx2
    have hv2 := hv.ext hx2
    have hk2 := hk.trans' (Keeps.of_ext hx2 _)
    refine go_RefR (k := ?_)
    refine CW_cond _ rfl (fun hh => ?_) (fun hh => ?_)
    · have h2 := of_decide_eq_true hh
      clear hh
      obtain ⟨e1, e2⟩ := bytesV_long hf (by omega)
      rw [e1, e2]
      obtain ⟨A3, c3, B, a, hB, hb, hc, hS, ha, hl3, hs⟩ := hv2.at_
      refine go_RefR (k := ?_)
      refine OW_storeB one_int rfl (.int .i64 40) rfl rfl hB (by simp) ?_
      intro w3 hB3 hg3
      refine go_RefR (k := ?_)
      exact bodyE_ret1 rfl (.slice none 0 0) rfl ⟨none, 0, rfl, World.ownsRow_nil _ _ _ _, hv2.toBad hb hc hS ha hl3 hB3 (Keeps.of_only hg3 rfl), hk2.trans' (Keeps.of_only hg3 rfl)⟩
    · have h2 := of_decide_eq_false hh
      clear hh
      have hle : loadL (s.1.take 4) ≤ 65536 := by omega
      obtain ⟨e1, e2⟩ := bytesV_ok hf hle
      rw [e1, e2]
      refine go_RefR (k := ?_)
      rw [wrap_i64_of _ (by omega)]
      refine OW_callC Try.func116 (by kernel_rfl) rfl (vSome_any w2 g S _ hv2 (loadL (s.1.take 4)) (by omega)) rfl ?_
      rintro en w3 ⟨A3, c3, rfl, ho3, hv3, hk3⟩
      refine ⟨_, rfl, ?_⟩
      refine go_RefR (k := ?_)
      exact bodyE_ret1 rfl (.slice A3 _ c3) rfl ⟨A3, c3, rfl, own_mono ho3 hk2.size, hv3, hk2.trans' hk3⟩
  · have hf : fits s 4 = false := by simpa using hf
    obtain ⟨e1, e2⟩ := bytesV_nf hf
    rw [show fits s ((4 : Nat) : Int) = false from hf, e1, e2]
    refine go_RefR (k := ?_)
    exact bodyE_ret1 rfl (.slice none 0 0) rfl ⟨none, 0, rfl, World.ownsRow_nil _ _ _ _, hv, hk⟩

theorem countS_nf {s : List UInt8 × Int} (h : fits s 8 = false) (most : Int) : countV s most = 0 ∧ countS s most = stepS s 8 true := by
  unfold countV countS
  rw [h]
  exact ⟨rfl, stepS_nf h _ _⟩
set_option maxHeartbeats 8000000 in
theorem vCount_any (w : World) (g : Nat) (S : Nat → Prop) (s : List UInt8 × Int) (h : VR w g S s) (most : Int) : Calls Try.prog 70 #[.pointer (some ⟨g, 0, none⟩), .int .i64 most] w (VPost w g S (.int .i64 (countV s most)) (countS s most)) := by
  refine calls_of_CW Try.func70 rfl (by simp [Try.ntmps70]) ?_
  rw [Try.ntmps70]
  refine go_RefR (k := ?_)
  refine OW_callC Try.func68 (by kernel_rfl) rfl (vInt_any w g S s h) rfl ?_
  rintro en w1 ⟨rfl, hv, hk⟩
  refine ⟨_, rfl, ?_⟩
  obtain ⟨A, c, B, a, hB, hb, hc, hS, ha, hl, hs⟩ := hv.at_
  have q0 : ∀ wd, Ext w1 wd → wd.cell? ⟨g, 0, none⟩ = some (.slice A B.length c) := fun wd h => h.cell' (hB.cell 0)
  have q1 : ∀ wd, Ext w1 wd → wd.cell? ⟨g, 1, none⟩ = some (.int .i64 a) := fun wd h => h.cell' (hB.cell 1)
  have q2 : ∀ wd, Ext w1 wd → wd.cell? ⟨g, 2, none⟩ = some (.int .i64 (stepS s 8 true).2) := fun wd h => h.cell' (hB.cell 2)
  by_cases hf : fits s 8 = true
  · have hst := stepS_ok hf true
    rw [if_pos rfl] at hst
    rw [hst] at q2 hB hv hs
    rw [if_pos (show (s.1.drop (8 : Int).toNat, (0 : Int)).2 = 0 from rfl)] at hs
    have hs : s.1.drop 8 = B.drop a := hs
    have hleft : (s.1.length : Int) - 8 = (B.length : Int) - a := by
      have h3 := congrArg List.length hs
      obtain ⟨_, _, h8⟩ := of_decide_eq_true hf
      rw [List.length_drop, List.length_drop] at h3
      omega
    rw [hf, if_pos rfl]
    generalize hx : i64L (s.1.take 8) = x at *
    have hcv : countV s most = if countOk x most ((B.length : Int) - a) then x else 0 := by unfold countV; rw [hf, hx, hleft, Bool.true_and]
    have hcs : countS s most = if countOk x most ((B.length : Int) - a) then (s.1.drop 8, 0) else ([], 40) := by unfold countS; rw [hx, hleft, stepS_ok hf]; rfl
    refine go_RefR (k := ?_)
    refine CW_tree (.q 0 (.q 1 (.q 2 (.q 3 (.q 4 (.q 5 (.q 6 (.q 7 (.q 8 (.q 9 (.q 10 (.q 11 (.q 12 (.q 13 (.q 14 (.q 15 (.q 16 (.q 17 (.q 18 (.q 19 (.q 20 (.q 21 (.q 22 (.q 23 (.q 24 (.q 25 (.q 26 (.q 27 .done)))))))))))))))))))))))))))) (fun w' => Ext w1 w') (by kernel_rfl) (by kernel_rfl) (by kernel_rfl) ?_ ?_
    · exact fun _ h => h
    intro w2 hx2 _
    have hB2 := hB.ext hx2
    have hv2 := hv.ext hx2
    have hk2 := hk.trans' (Keeps.of_ext hx2 _)
    have m2 := q2 w2 hx2
    by_cases c1 : x < 0
    · have hok : countOk x most ((B.length : Int) - a) = false := by unfold countOk; rw [decide_eq_false (by omega)]; rfl
      rw [hok] at hcv hcs
      rw [hcv, hcs]
      refine ox_RefR (k := ?_)
      rw [decide_eq_true c1]
      refine ox_RefR (k := ?_)
      refine go_RefR (k := ?_)
      refine OW_storeB one_int rfl (.int .i64 40) rfl rfl hB2 (by simp) ?_
      intro w3 hB3 hg3
      have m3 : w3.cell? ⟨g, 2, none⟩ = some (.int .i64 40) := hB3.cell 2
      clear m2
      refine go_RefR (k := ?_)
      exact bodyE_ret1 rfl (.int .i64 0) rfl ⟨rfl, hv2.toBad (hb.ext hx2) hc hS ha hl hB3 (Keeps.of_only hg3 rfl), hk2.trans' (Keeps.of_only hg3 rfl)⟩
    by_cases c2 : most < x
    · have hok : countOk x most ((B.length : Int) - a) = false := by unfold countOk; rw [decide_eq_false (show ¬ x ≤ most by omega), Bool.and_false]; rfl
      rw [hok] at hcv hcs
      rw [hcv, hcs]
      refine ox_RefR (k := ?_)
      rw [decide_eq_false c1]
      refine ox_RefR (k := ?_)
      rw [decide_eq_true c2]
      refine ox_RefR (k := ?_)
      refine go_RefR (k := ?_)
      refine OW_storeB one_int rfl (.int .i64 40) rfl rfl hB2 (by simp) ?_
      intro w3 hB3 hg3
      have m3 : w3.cell? ⟨g, 2, none⟩ = some (.int .i64 40) := hB3.cell 2
      clear m2
      refine go_RefR (k := ?_)
      exact bodyE_ret1 rfl (.int .i64 0) rfl ⟨rfl, hv2.toBad (hb.ext hx2) hc hS ha hl hB3 (Keeps.of_only hg3 rfl), hk2.trans' (Keeps.of_only hg3 rfl)⟩
    by_cases c3 : (B.length : Int) - a < x
    · have hok : countOk x most ((B.length : Int) - a) = false := by unfold countOk; rw [decide_eq_false (show ¬ x ≤ (B.length : Int) - a by omega), Bool.and_false]
      rw [hok] at hcv hcs
      rw [hcv, hcs]
      refine ox_RefR (k := ?_)
      rw [decide_eq_false c1]
      refine ox_RefR (k := ?_)
      rw [decide_eq_false c2]
      refine ox_RefR (k := ?_)
      rw [decide_eq_true c3]
      refine go_RefR (k := ?_)
      refine OW_storeB one_int rfl (.int .i64 40) rfl rfl hB2 (by simp) ?_
      intro w3 hB3 hg3
      have m3 : w3.cell? ⟨g, 2, none⟩ = some (.int .i64 40) := hB3.cell 2
      clear m2
      refine go_RefR (k := ?_)
      exact bodyE_ret1 rfl (.int .i64 0) rfl ⟨rfl, hv2.toBad (hb.ext hx2) hc hS ha hl hB3 (Keeps.of_only hg3 rfl), hk2.trans' (Keeps.of_only hg3 rfl)⟩
    · have hok : countOk x most ((B.length : Int) - a) = true := by unfold countOk; rw [decide_eq_true (show 0 ≤ x by omega), decide_eq_true (show x ≤ most by omega), decide_eq_true (show x ≤ (B.length : Int) - a by omega)]; rfl
      rw [hok] at hcv hcs
      rw [hcv, hcs]
      refine ox_RefR (k := ?_)
      rw [decide_eq_false c1]
      refine ox_RefR (k := ?_)
      rw [decide_eq_false c2]
      refine ox_RefR (k := ?_)
      rw [decide_eq_false c3]
      refine go_RefR (k := ?_)
      exact bodyE_ret1 rfl (.int .i64 x) rfl ⟨rfl, hv2, hk2⟩
  · have hf : fits s 8 = false := by simpa using hf
    obtain ⟨e1, e2⟩ := countS_nf hf most
    have hz := stepS_bad hf true
    have hzb : ((stepS s 8 true).2 == 0) = false := by simpa using hz
    rw [hf, e1, e2]
    refine go_RefR (k := ?_)
    refine CW_tree (.q 0 (.q 1 (.q 2 (.q 3 (.q 4 (.q 5 (.q 6 (.q 7 (.q 8 (.q 9 (.q 10 (.q 11 (.q 12 (.q 13 (.q 14 (.q 15 (.q 16 (.q 17 (.q 18 (.q 19 (.q 20 (.q 21 (.q 22 (.q 23 (.q 24 (.q 25 (.q 26 (.q 27 .done)))))))))))))))))))))))))))) (fun w' => Ext w1 w') (by kernel_rfl) (by kernel_rfl) (by kernel_rfl) ?_ ?_
    · exact fun _ h => h
    intro w2 hx2 _
    have m2 := q2 w2 hx2
    refine ox_RefR (k := ?_)
    rw [hzb]
    refine ox_RefR (k := ?_)
    refine go_RefR (k := ?_)
    refine CW_condT (by show Value.bool ((stepS s 8 true).2 != 0) = _; rw [bne_iff_ne.2 hz]) ?_
    refine go_RefR (k := ?_)
    exact bodyE_ret1 rfl (.int .i64 0) rfl ⟨rfl, hv.ext hx2, hk.trans' (Keeps.of_ext hx2 _)⟩
end Go.Proofs.Ytdpomchhbbopbaa
