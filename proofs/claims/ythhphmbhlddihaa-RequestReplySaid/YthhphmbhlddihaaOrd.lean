/- Regions whose order is drawn, where the operations that act (calls, stores, what makes memory) stand in an order that a tree tells, and all others are quiet: each quiet one yields one value in every world of a class. The walk takes each quiet operation as early as it may come. -/
import Derived.Test.YthhphmbhlddihaaDraw
import Derived.StillTail
namespace Go.Proofs.Ythhphmbhlddihaa
open Go Go.RowKit
set_option linter.unusedVariables false

inductive Tr
  | done
  | q (i : Nat) (t : Tr)
  | a (i : Nat) (t : Tr)
  | a2 (i : Nat) (t : Tr) (j : Nat) (u : Tr)
  | a3 (i : Nat) (t : Tr) (j : Nat) (u : Tr) (k : Nat) (v : Tr)
def nth : List Oper → Nat → Option Oper
  | [], _ => none
  | o :: _, 0 => some o
  | _ :: l, i + 1 => nth l i
theorem nth_eq : ∀ (l : List Oper) (i : Nat), nth l i = l[i]?
  | [], i => by simp [nth]
  | o :: l, 0 => by simp [nth]
  | o :: l, i + 1 => by simp [nth, nth_eq l i]

/-- Any order that is drawn, in a class of worlds. -/
def OT (P : Program) (l : List Oper) (C : World → Prop) (Q : Exit → (Nat → Value) → World → Prop) : Nat → Array Bool → (Nat → Value) → World → Prop
  | 0, listed, e, w => Region.ready .any l.toArray listed = [] ∧ Q .normal e w
  | f + 1, listed, e, w => (Region.ready .any l.toArray listed = [] → Q .normal e w) ∧ ∀ i ∈ Region.ready .any l.toArray listed, ∀ o, l[i]? = some o →
      if wantedE l.toArray e o then opW P o e w (fun v w' => C w' ∧ OT P l C Q f (listed.setIfInBounds i true) (put e o.dst v) w') else OT P l C Q f (listed.setIfInBounds i true) (put e o.dst undef) w

theorem wpAny_of_OT {P : Program} {l : List Oper} {C : World → Prop} {n : Nat} {Q : Exit → (Nat → Value) → World → Prop} (hd : dstsIn n l = true) : ∀ (f : Nat) (listed : Array Bool) (a : Act) (e : Nat → Value) (w : World),
    St n a e → OT P l C Q f listed e w → wpAny P .any l.toArray (QA n Q) f listed a w
  | 0, listed, a, e, w, hs, h => ⟨h.1, e, hs, h.2⟩
  | f + 1, listed, a, e, w, hs, h => by
    refine ⟨fun h0 => ⟨e, hs, h.1 h0⟩, fun i hi => ?_⟩
    obtain ⟨_, o, ho, _⟩ := mem_ready.1 hi
    have ho' : l[i]? = some o := by simpa using ho
    have hh := h.2 i hi o ho'
    have hdo : ∀ k, o.dst = some k → k < n := fun k hk => by
      unfold dstsIn at hd
      rw [List.all_eq_true] at hd
      have := hd o (List.mem_iff_getElem?.2 ⟨i, ho'⟩)
      rw [hk] at this
      simpa using this
    unfold wpOp
    simp only [ho]
    rw [wanted_eq hs]
    split
    · rename_i hw
      rw [if_pos hw] at hh
      exact .inl (Oper.wp_of_opW hs hh fun v w' hv => wpAny_of_OT hd f _ _ _ _ (hs.put hdo v) hv.2)
    · rename_i hw
      rw [if_neg hw] at hh
      exact wpAny_of_OT hd f _ _ _ _ (hs.put hdo undef) hh

theorem put_comm (e : Nat → Value) {x y : Option Tmp} (v u : Value) (h : ∀ d, x = some d → y ≠ some d) : put (put e x v) y u = put (put e y u) x v := by
  cases x with
  | none => rfl
  | some d =>
    cases y with
    | none => rfl
    | some c =>
      have hne : d ≠ c := fun he => h d rfl (he ▸ rfl)
      funext i
      show upd (upd e d v) c u i = upd (upd e c u) d v i
      by_cases h1 : i = c
      · subst h1
        rw [upd_same, upd_ne _ _ (Ne.symm hne), upd_same]
      · rw [upd_ne _ _ h1]
        by_cases h2 : i = d
        · subst h2; rw [upd_same, upd_same]
        · rw [upd_ne _ _ h2, upd_ne _ _ h2, upd_ne _ _ h1]
theorem upd_comm {a b : Nat} (e : Nat → Value) (v u : Value) (h : Nat.beq a b = false) : upd (upd e a v) b u = upd (upd e b u) a v :=
  put_comm e (x := some a) (y := some b) v u (fun d hd hb => by cases hd; cases hb; rw [Nat.beq_refl] at h; cases h)
theorem ev_put {e : Nat → Value} {dst : Option Tmp} {v : Value} {x : Operand} (h : ∀ d, dst = some d → x ≠ .tmp d) : ev (put e dst v) x = ev e x := by
  cases dst with
  | none => rfl
  | some d =>
    cases x with
    | tmp t =>
      have hne : t ≠ d := fun e => h d rfl (e ▸ rfl)
      exact upd_ne _ _ hne
    | _ => rfl
theorem execOp_putE {ops : Array Oper} (o : Oper) (hs : ∀ cs b, o.op ≠ .select cs b) (e : Nat → Value) (dst : Option Tmp) (v : Value) (h : ∀ d, dst = some d → d ∉ o.looksAt ops) :
    execOp (ev (put e dst v)) o = execOp (ev e) o :=
  execOp_congr o hs fun x hx => ev_put fun d hd hxd => h d hd (by
    subst hxd
    exact List.mem_append_left _ (List.mem_filterMap.2 ⟨.tmp d, by simpa using hx, rfl⟩))
theorem wantedE_put {ops : Array Oper} (o : Oper) (e : Nat → Value) (dst : Option Tmp) (v : Value) (h : ∀ d, dst = some d → d ∉ o.looksAt ops) :
    wantedE ops (put e dst v) o = wantedE ops e o := by
  cases dst with
  | none => rfl
  | some d =>
    unfold wantedE
    cases hg : o.guard with
    | none => rfl
    | some gw =>
      obtain ⟨g, want⟩ := gw
      have hy : yieldsE ops (put e (some d) v) g = yieldsE ops e g := by
        unfold yieldsE
        cases ht : (ops[g]?).bind (·.dst) with
        | none => rfl
        | some t =>
          have hne : t ≠ d := fun e => h d rfl (by subst e; simp [Oper.looksAt, hg, ht])
          show (match upd e d v t with | .bool b => some b | _ => none) = (match e t with | .bool b => some b | _ => none)
          rw [upd_ne _ _ hne]
      simp only [hy]

theorem opW_mono {P : Program} {o : Oper} {e : Nat → Value} {w : World} {K K' : Value → World → Prop} (h : opW P o e w K) (hk : ∀ v w, K v w → K' v w) : opW P o e w K' := by
  unfold opW at *
  generalize (execOp (ev e) o).run P w = r at *
  cases r with
  | ok x w' =>
    cases x <;> simp only [opUpon] at h ⊢
    case value v => exact hk _ _ h
    case skip => exact hk _ _ h
    case enter f args => exact ⟨h.1, h.2.mono fun en w'' ⟨v, he, hv⟩ => ⟨v, he, hk _ _ hv⟩⟩
  | halt x w' => simp only [opUpon] at h

/-- One value in every world of the class. -/
def Quiet (P : Program) (ops : Array Oper) (C : World → Prop) (o : Oper) (v : Value) (e : Nat → Value) : Prop :=
  (wantedE ops e o = true ∧ ∀ w, C w → opW P o e w (fun u w' => u = v ∧ w' = w)) ∨ (wantedE ops e o = false ∧ v = undef)
theorem Quiet.keep {P : Program} {ops : Array Oper} {C : World → Prop} {oi oj : Oper} {v : Value} {e : Nat → Value} (hsi : ∀ cs b, oi.op ≠ .select cs b) (h : Quiet P ops C oi v e) (h3 : ∀ d, oj.dst = some d → d ∉ oi.looksAt ops) (u : Value) : Quiet P ops C oi v (put e oj.dst u) := by
  unfold Quiet opW at *
  rw [execOp_putE oi hsi e oj.dst u h3, wantedE_put oi e oj.dst u h3]
  exact h
theorem OT_first {P : Program} {l : List Oper} {C : World → Prop} {Q : Exit → (Nat → Value) → World → Prop} {i : Nat} {oi : Oper} {v : Value} (hi : l[i]? = some oi)
    (hsel : ∀ (j : Nat) (o : Oper) cs b, l.toArray[j]? = some o → o.op ≠ .select cs b) :
    ∀ (f : Nat) (listed : Array Bool) (e : Nat → Value) (w : World),
      (∀ j oj, l.toArray[j]? = some oj → j ≠ i → listed.getD j true = false → (∀ e ∈ oj.after, Region.binds .any e = true → e.on ≠ i) → oi.apart l.toArray oj = true) →
      i ∈ Region.ready .any l.toArray listed → Quiet P l.toArray C oi v e → C w →
      OT P l C Q f (listed.setIfInBounds i true) (put e oi.dst v) w → OT P l C Q (f + 1) listed e w := by
  intro f
  have doI : ∀ (f : Nat) (listed : Array Bool) (e : Nat → Value) (w : World), Quiet P l.toArray C oi v e → C w → OT P l C Q f (listed.setIfInBounds i true) (put e oi.dst v) w →
      ∀ o, l[i]? = some o → if wantedE l.toArray e o then opW P o e w (fun v w' => C w' ∧ OT P l C Q f (listed.setIfInBounds i true) (put e o.dst v) w') else OT P l C Q f (listed.setIfInBounds i true) (put e o.dst undef) w := by
    intro f listed e w hq hC H o ho
    rw [hi] at ho
    cases ho
    rcases hq with ⟨hw, hr⟩ | ⟨hw, rfl⟩
    · rw [if_pos hw]
      exact opW_mono (hr w hC) fun u w' ⟨hu, hw'⟩ => by subst hu; subst hw'; exact ⟨hC, H⟩
    · rw [hw, if_neg (by simp)]
      exact H
  induction f with
  | zero =>
    intro listed e w hfree hr hq hC H
    refine ⟨fun h => (by rw [h] at hr; cases hr), fun j hj o ho => ?_⟩
    by_cases hji : j = i
    · subst hji; exact doI _ _ _ _ hq hC H o ho
    · have := ready_mono hj hji
      rw [H.1] at this
      cases this
  | succ f ih =>
    intro listed e w hfree hr hq hC H
    refine ⟨fun h => (by rw [h] at hr; cases hr), fun j hj oj hoj => ?_⟩
    by_cases hji : j = i
    · subst hji; exact doI _ _ _ _ hq hC H oj hoj
    · have hjr := ready_mono hj hji
      have h1 := H.2 j hjr oj hoj
      obtain ⟨hjun, oj', hoj', hall⟩ := mem_ready.1 hj
      have hojA : l.toArray[j]? = some oj := by simpa using hoj
      have : oj' = oj := Option.some.inj (hoj'.symm.trans hojA)
      subst this
      have hnot : ∀ e ∈ oj'.after, Region.binds .any e = true → e.on ≠ i := fun e he hb heq => by
        have h1 := hall e he hb
        have h0 := (mem_ready.1 hr).1
        rw [heq] at h1
        rcases Nat.lt_or_ge i listed.size with h' | h'
        · simp [h'] at h0 h1; rw [h0] at h1; cases h1
        · simp [Array.getElem?_eq_none h'] at h1
      have hap := hfree j oj' hoj' hji hjun hnot
      obtain ⟨p1, p2, p3⟩ := Oper.apart_spec hap
      have hsi : ∀ cs b, oi.op ≠ .select cs b := fun cs b => hsel i oi cs b (by simpa using hi)
      have hsj : ∀ cs b, oj'.op ≠ .select cs b := fun cs b => hsel j oj' cs b hoj'
      have hfree' : ∀ k ok, l.toArray[k]? = some ok → k ≠ i → (listed.setIfInBounds j true).getD k true = false →
          (∀ e ∈ ok.after, Region.binds .any e = true → e.on ≠ i) → oi.apart l.toArray ok = true := fun k ok hk hki hun hno => by
        refine hfree k ok hk hki ?_ hno
        by_cases hjk : j = k
        · subst hjk; exact hjun
        · rw [getD_set_ne true hjk] at hun; exact hun
      have step : ∀ (u : Value) (w' : World), C w' → OT P l C Q f ((listed.setIfInBounds i true).setIfInBounds j true) (put (put e oi.dst v) oj'.dst u) w' → OT P l C Q (f + 1) (listed.setIfInBounds j true) (put e oj'.dst u) w' := fun u w' hC' h => by
        refine ih (listed.setIfInBounds j true) _ _ hfree' (ready_mono hr (Ne.symm hji)) (hq.keep hsi p3 u) hC' ?_
        rw [Array.setIfInBounds_comm _ _ hji, ← put_comm e v u p2]
        exact h
      rw [wantedE_put oj' e oi.dst v p1] at h1
      split
      · rename_i hw
        rw [if_pos hw] at h1
        have h1' : opW P oj' e w (fun u w' => C w' ∧ OT P l C Q f ((listed.setIfInBounds i true).setIfInBounds j true) (put (put e oi.dst v) oj'.dst u) w') := by
          unfold opW at h1 ⊢
          rw [execOp_putE oj' hsj e oi.dst v p1] at h1
          exact h1
        exact opW_mono h1' fun u w' hh => ⟨hh.1, step u w' hh.1 hh.2⟩
      · rename_i hw
        rw [if_neg hw] at h1
        exact step undef w hC h1

theorem OT_sub {P : Program} {l : List Oper} {C C' : World → Prop} {Q : Exit → (Nat → Value) → World → Prop} (hs : ∀ u, C' u → C u) : ∀ (f : Nat) (listed : Array Bool) (e : Nat → Value) (w : World), OT P l C' Q f listed e w → OT P l C Q f listed e w
  | 0, _, _, _, h => h
  | f + 1, listed, e, w, h => by
    refine ⟨h.1, fun i hi o ho => ?_⟩
    have hh := h.2 i hi o ho
    split
    · rename_i hw; rw [if_pos hw] at hh; exact opW_mono hh fun v w' hv => ⟨hs _ hv.1, OT_sub hs f _ _ _ hv.2⟩
    · rename_i hw; rw [if_neg hw] at hh; exact OT_sub hs f _ _ _ hh
/-- A walk along a tree; behind what acts the class may be another, smaller one. -/
def OX (fx : Bool) (P : Program) (l : List Oper) : (World → Prop) → (Exit → (Nat → Value) → World → Prop) → Tr → (Nat → Value) → World → Prop
  | _, Q, .done, e, w => Q .normal e w
  | C, Q, .q i t, e, w => ∀ o, nth l i = some o → ∃ v, Quiet P l.toArray C o v e ∧ OX fx P l C Q t (put e o.dst v) w
  | C, Q, .a i t, e, w => ∀ o, nth l i = some o → if wantedE l.toArray e o then opW P o e w (fun v w' => C w' ∧ ∃ C' : World → Prop, (fx = true → C' = C) ∧ (∀ u, C' u → C u) ∧ C' w' ∧ OX fx P l C' Q t (put e o.dst v) w') else OX fx P l C Q t (put e o.dst undef) w
  | C, Q, .a2 i t j u, e, w => (∀ o, nth l i = some o → if wantedE l.toArray e o then opW P o e w (fun v w' => C w' ∧ ∃ C' : World → Prop, (fx = true → C' = C) ∧ (∀ u, C' u → C u) ∧ C' w' ∧ OX fx P l C' Q t (put e o.dst v) w') else OX fx P l C Q t (put e o.dst undef) w) ∧
      (∀ o, nth l j = some o → if wantedE l.toArray e o then opW P o e w (fun v w' => C w' ∧ ∃ C' : World → Prop, (fx = true → C' = C) ∧ (∀ u, C' u → C u) ∧ C' w' ∧ OX fx P l C' Q u (put e o.dst v) w') else OX fx P l C Q u (put e o.dst undef) w)
  | C, Q, .a3 i t j u k v, e, w => (∀ o, nth l i = some o → if wantedE l.toArray e o then opW P o e w (fun x w' => C w' ∧ ∃ C' : World → Prop, (fx = true → C' = C) ∧ (∀ u, C' u → C u) ∧ C' w' ∧ OX fx P l C' Q t (put e o.dst x) w') else OX fx P l C Q t (put e o.dst undef) w) ∧
      (∀ o, nth l j = some o → if wantedE l.toArray e o then opW P o e w (fun x w' => C w' ∧ ∃ C' : World → Prop, (fx = true → C' = C) ∧ (∀ u, C' u → C u) ∧ C' w' ∧ OX fx P l C' Q u (put e o.dst x) w') else OX fx P l C Q u (put e o.dst undef) w) ∧
      (∀ o, nth l k = some o → if wantedE l.toArray e o then opW P o e w (fun x w' => C w' ∧ ∃ C' : World → Prop, (fx = true → C' = C) ∧ (∀ u, C' u → C u) ∧ C' w' ∧ OX fx P l C' Q v (put e o.dst x) w') else OX fx P l C Q v (put e o.dst undef) w)
def Tr.graft : Tr → Tr → Tr
  | .done, s => s
  | .q i t, s => .q i (t.graft s)
  | .a i t, s => .a i (t.graft s)
  | .a2 i t j u, s => .a2 i (t.graft s) j (u.graft s)
  | .a3 i t j u k v, s => .a3 i (t.graft s) j (u.graft s) k (v.graft s)
/-- The tree tells all orders of what acts. -/
def Tr.ok (ops : Array Oper) : Tr → Nat → Array Bool → Bool
  | .done, f, listed => (f == 0) && (Region.ready .any ops listed).isEmpty
  | .q i t, f, listed => (f != 0) && (Region.ready .any ops listed).contains i && Region.free .any ops listed i && t.ok ops (f - 1) (listed.setIfInBounds i true)
  | .a i t, f, listed => (f != 0) && (Region.ready .any ops listed == [i]) && t.ok ops (f - 1) (listed.setIfInBounds i true)
  | .a2 i t j u, f, listed => (f != 0) && (Region.ready .any ops listed == [i, j]) && t.ok ops (f - 1) (listed.setIfInBounds i true) && u.ok ops (f - 1) (listed.setIfInBounds j true)
  | .a3 i t j u k v, f, listed => (f != 0) && (Region.ready .any ops listed == [i, j, k]) && t.ok ops (f - 1) (listed.setIfInBounds i true) && u.ok ops (f - 1) (listed.setIfInBounds j true) && v.ok ops (f - 1) (listed.setIfInBounds k true)
theorem OT_of_OX {fx : Bool} {P : Program} {l : List Oper} {Q : Exit → (Nat → Value) → World → Prop} (hs : Region.noSelect l.toArray = true) : ∀ (t : Tr) (C : World → Prop) (f : Nat) (listed : Array Bool) (e : Nat → Value) (w : World),
    t.ok l.toArray f listed = true → C w → OX fx P l C Q t e w → OT P l C Q f listed e w := by
  intro t
  induction t with
  | done =>
    intro C f listed e w hk hC h
    simp only [Tr.ok, Bool.and_eq_true, beq_iff_eq, List.isEmpty_iff] at hk
    obtain ⟨rfl, hr⟩ := hk
    exact ⟨hr, h⟩
  | q i t ih =>
    intro C f listed e w hk hC h
    simp only [Tr.ok, Bool.and_eq_true, bne_iff_ne] at hk
    obtain ⟨⟨⟨hf, hr⟩, hfree⟩, hk'⟩ := hk
    obtain ⟨f, rfl⟩ : ∃ g, f = g + 1 := ⟨f - 1, by omega⟩
    have hr : i ∈ Region.ready .any l.toArray listed := by simpa using hr
    obtain ⟨_, o, ho, _⟩ := mem_ready.1 hr
    have ho' : l[i]? = some o := by simpa using ho
    obtain ⟨v, hq, hrest⟩ := h o (by rw [nth_eq]; exact ho')
    exact OT_first ho' (Region.noSelect_spec hs) f listed e w (Region.free_spec ho hfree) hr hq hC (ih C f _ _ _ hk' hC hrest)
  | a i t ih =>
    intro C f listed e w hk hC h
    simp only [Tr.ok, Bool.and_eq_true, bne_iff_ne, beq_iff_eq] at hk
    obtain ⟨⟨hf, hr⟩, hk'⟩ := hk
    obtain ⟨f, rfl⟩ : ∃ g, f = g + 1 := ⟨f - 1, by omega⟩
    refine ⟨fun h0 => (by rw [h0] at hr; cases hr), fun j hj o ho => ?_⟩
    rw [hr, List.mem_singleton] at hj
    subst hj
    have hh := h o (by rw [nth_eq]; exact ho)
    split
    · rename_i hw
      rw [if_pos hw] at hh
      exact opW_mono hh fun v w' ⟨hv1, C', _, hs', hC', hv2⟩ => ⟨hv1, OT_sub hs' f _ _ _ (ih C' f _ _ _ hk' hC' hv2)⟩
    · rename_i hw
      rw [if_neg hw] at hh
      exact ih C f _ _ _ hk' hC hh
  | a2 i t j u iht ihu =>
    intro C f listed e w hk hC h
    simp only [Tr.ok, Bool.and_eq_true, bne_iff_ne, beq_iff_eq] at hk
    obtain ⟨⟨⟨hf, hr⟩, hk1⟩, hk2⟩ := hk
    obtain ⟨f, rfl⟩ : ∃ g, f = g + 1 := ⟨f - 1, by omega⟩
    refine ⟨fun h0 => (by rw [h0] at hr; cases hr), fun x hx o ho => ?_⟩
    rw [hr, List.mem_cons, List.mem_singleton] at hx
    rcases hx with rfl | rfl
    · have hh := h.1 o (by rw [nth_eq]; exact ho)
      split
      · rename_i hw
        rw [if_pos hw] at hh
        exact opW_mono hh fun v w' ⟨hv1, C', _, hs', hC', hv2⟩ => ⟨hv1, OT_sub hs' f _ _ _ (iht C' f _ _ _ hk1 hC' hv2)⟩
      · rename_i hw
        rw [if_neg hw] at hh
        exact iht C f _ _ _ hk1 hC hh
    · have hh := h.2 o (by rw [nth_eq]; exact ho)
      split
      · rename_i hw
        rw [if_pos hw] at hh
        exact opW_mono hh fun v w' ⟨hv1, C', _, hs', hC', hv2⟩ => ⟨hv1, OT_sub hs' f _ _ _ (ihu C' f _ _ _ hk2 hC' hv2)⟩
      · rename_i hw
        rw [if_neg hw] at hh
        exact ihu C f _ _ _ hk2 hC hh
  | a3 i t j u k v iht ihu ihv =>
    intro C f listed e w hk hC h
    simp only [Tr.ok, Bool.and_eq_true, bne_iff_ne, beq_iff_eq] at hk
    obtain ⟨⟨⟨⟨hf, hr⟩, hk1⟩, hk2⟩, hk3⟩ := hk
    obtain ⟨f, rfl⟩ : ∃ g, f = g + 1 := ⟨f - 1, by omega⟩
    refine ⟨fun h0 => (by rw [h0] at hr; cases hr), fun x hx o ho => ?_⟩
    rw [hr, List.mem_cons, List.mem_cons, List.mem_singleton] at hx
    rcases hx with rfl | rfl | rfl
    · have hh := h.1 o (by rw [nth_eq]; exact ho)
      split
      · rename_i hw
        rw [if_pos hw] at hh
        exact opW_mono hh fun v w' ⟨hv1, C', _, hs', hC', hv2⟩ => ⟨hv1, OT_sub hs' f _ _ _ (iht C' f _ _ _ hk1 hC' hv2)⟩
      · rename_i hw
        rw [if_neg hw] at hh
        exact iht C f _ _ _ hk1 hC hh
    · have hh := h.2.1 o (by rw [nth_eq]; exact ho)
      split
      · rename_i hw
        rw [if_pos hw] at hh
        exact opW_mono hh fun v w' ⟨hv1, C', _, hs', hC', hv2⟩ => ⟨hv1, OT_sub hs' f _ _ _ (ihu C' f _ _ _ hk2 hC' hv2)⟩
      · rename_i hw
        rw [if_neg hw] at hh
        exact ihu C f _ _ _ hk2 hC hh
    · have hh := h.2.2 o (by rw [nth_eq]; exact ho)
      split
      · rename_i hw
        rw [if_pos hw] at hh
        exact opW_mono hh fun v w' ⟨hv1, C', _, hs', hC', hv2⟩ => ⟨hv1, OT_sub hs' f _ _ _ (ihv C' f _ _ _ hk3 hC' hv2)⟩
      · rename_i hw
        rw [if_neg hw] at hh
        exact ihv C f _ _ _ hk3 hC hh

section
variable {P : Program} {n : Nat} {Q : Exit → (Nat → Value) → World → Prop} {e : Nat → Value} {w : World}
theorem CW_tree {id : Nat} {l : List Oper} (t : Tr) (C : World → Prop) (hm : P.follows .mixedOrders = true) (hd : dstsIn n l = true)
    (hk : (Region.noSelect l.toArray && t.ok l.toArray l.length (Array.replicate l.length false)) = true) (hC : ∀ w', Ext w w' → C w') (h : ∀ w', Ext w w' → C w' → OX false P l C Q t e w') : CW P n (.region id l.toArray true) Q e w := by
  unfold CW
  intro a hs
  refine wp_region_any hm ?_
  rw [Bool.and_eq_true] at hk
  have := wpAny_of_OT hd l.length (Array.replicate l.length false) a e w.drew hs (OT_of_OX hk.1 t C l.length (Array.replicate l.length false) e w.drew hk.2 (hC _ (Ext.drew' w)) (h _ (Ext.drew' w) (hC _ (Ext.drew' w))))
  simpa using this
end
section
variable {fx : Bool} {P : Program} {l : List Oper} {C : World → Prop} {Q : Exit → (Nat → Value) → World → Prop} {e : Nat → Value} {w : World} {d : Tmp} {op : Op} {ty : TypeId} {pos : String} {aft : Array Edge}
theorem OX_done (h : Q .normal e w) : OX fx P l C Q .done e w := h
/-- A quiet operation, by a walk of it alone. -/
theorem OX_q {i : Nat} {t : Tr} (v : Value) (ho : nth l i = some ⟨some d, op, ty, pos, aft, none⟩) (h1 : ∀ w, C w → OW P l.toArray (stay e d v w) [⟨some d, op, ty, pos, aft, none⟩] e w) (h : OX fx P l C Q t (upd e d v) w) : OX fx P l C Q (.q i t) e w := by
  unfold OX
  intro o ho'
  rw [ho] at ho'
  cases ho'
  refine ⟨v, .inl ⟨rfl, fun w hw => ?_⟩, h⟩
  have hh := h1 w hw
  unfold OW at hh
  rw [if_pos (by rfl)] at hh
  have hinj : ∀ u, upd e d u = upd e d v → u = v := fun u hu => by
    have := congrFun hu d
    rwa [upd_same, upd_same] at this
  exact opW_mono hh fun u w' hx => by unfold OW stay at hx; exact ⟨hinj _ hx.2.1, hx.2.2⟩
theorem OX_qpass {i : Nat} {t : Tr} {dst : Option Tmp} {g : Nat × Bool} (ho : nth l i = some ⟨dst, op, ty, pos, aft, some g⟩) (hw : wantedE l.toArray e ⟨dst, op, ty, pos, aft, some g⟩ = false) (h : OX fx P l C Q t (put e dst undef) w) : OX fx P l C Q (.q i t) e w := by
  unfold OX
  intro o ho'
  rw [ho] at ho'
  cases ho'
  exact ⟨undef, .inr ⟨hw, rfl⟩, h⟩
theorem OX_qtake {i : Nat} {t : Tr} {g : Nat × Bool} (v : Value) (ho : nth l i = some ⟨some d, op, ty, pos, aft, some g⟩) (hw : wantedE l.toArray e ⟨some d, op, ty, pos, aft, some g⟩ = true)
    (h1 : ∀ w, C w → OW P l.toArray (stay e d v w) [⟨some d, op, ty, pos, aft, none⟩] e w) (h : OX fx P l C Q t (upd e d v) w) : OX fx P l C Q (.q i t) e w := by
  unfold OX
  intro o ho'
  rw [ho] at ho'
  cases ho'
  refine ⟨v, .inl ⟨hw, fun w hw => ?_⟩, h⟩
  have hh := h1 w hw
  unfold OW at hh
  rw [if_pos (by rfl)] at hh
  have hinj : ∀ u, upd e d u = upd e d v → u = v := fun u hu => by
    have := congrFun hu d
    rwa [upd_same, upd_same] at this
  have hh2 : opW P ⟨some d, op, ty, pos, aft, some g⟩ e w (fun u w' => OW P l.toArray (stay e d v w) [] (upd e d u) w') := by unfold opW at hh ⊢; exact hh
  exact opW_mono hh2 fun u w' hx => by unfold OW stay at hx; exact ⟨hinj _ hx.2.1, hx.2.2⟩
/-- What an acting operation is to come to. -/
def goOn (fx : Bool) (P : Program) (l : List Oper) (C : World → Prop) (Q : Exit → (Nat → Value) → World → Prop) (t : Tr) : Exit → (Nat → Value) → World → Prop := fun x e w => x = .normal ∧ C w ∧ ∃ C' : World → Prop, (fx = true → C' = C) ∧ (∀ u, C' u → C u) ∧ C' w ∧ OX fx P l C' Q t e w
theorem goOn_mk {t : Tr} (hC : C w) (h : OX fx P l C Q t e w) : goOn fx P l C Q t .normal e w := ⟨rfl, hC, C, fun _ => rfl, fun _ h => h, hC, h⟩
/-- .. and from here on in a smaller class. -/
theorem goOn_sub {t : Tr} (C' : World → Prop) (hs : ∀ u, C' u → C u) (hC : C' w) (h : OX false P l C' Q t e w) : goOn false P l C Q t .normal e w := ⟨rfl, hs _ hC, C', (fun h => by cases h), hs, hC, h⟩
theorem act_of {i : Nat} {t : Tr} {dst : Option Tmp} (ho : nth l i = some ⟨dst, op, ty, pos, aft, none⟩) (h : OW P l.toArray (goOn fx P l C Q t) [⟨dst, op, ty, pos, aft, none⟩] e w) :
    ∀ o, nth l i = some o → if wantedE l.toArray e o then opW P o e w (fun v w' => C w' ∧ ∃ C' : World → Prop, (fx = true → C' = C) ∧ (∀ u, C' u → C u) ∧ C' w' ∧ OX fx P l C' Q t (put e o.dst v) w') else OX fx P l C Q t (put e o.dst undef) w := by
  intro o ho'
  rw [ho] at ho'
  cases ho'
  rw [if_pos (by rfl)]
  unfold OW at h
  rw [if_pos (by rfl)] at h
  exact opW_mono h fun v w' hx => by unfold OW goOn at hx; exact hx.2
theorem act_take {i : Nat} {t : Tr} {dst : Option Tmp} {g : Nat × Bool} (ho : nth l i = some ⟨dst, op, ty, pos, aft, some g⟩) (hw : wantedE l.toArray e ⟨dst, op, ty, pos, aft, some g⟩ = true) (h : OW P l.toArray (goOn fx P l C Q t) [⟨dst, op, ty, pos, aft, none⟩] e w) :
    ∀ o, nth l i = some o → if wantedE l.toArray e o then opW P o e w (fun v w' => C w' ∧ ∃ C' : World → Prop, (fx = true → C' = C) ∧ (∀ u, C' u → C u) ∧ C' w' ∧ OX fx P l C' Q t (put e o.dst v) w') else OX fx P l C Q t (put e o.dst undef) w := by
  intro o ho'
  rw [ho] at ho'
  cases ho'
  rw [if_pos hw]
  unfold OW at h
  rw [if_pos (by rfl)] at h
  have h2 : opW P ⟨dst, op, ty, pos, aft, some g⟩ e w (fun v w' => OW P l.toArray (goOn fx P l C Q t) [] (put e dst v) w') := by unfold opW at h ⊢; exact h
  exact opW_mono h2 fun v w' hx => by unfold OW goOn at hx; exact hx.2
theorem act_pass {i : Nat} {t : Tr} {dst : Option Tmp} {g : Nat × Bool} (ho : nth l i = some ⟨dst, op, ty, pos, aft, some g⟩) (hw : wantedE l.toArray e ⟨dst, op, ty, pos, aft, some g⟩ = false) (h : OX fx P l C Q t (put e dst undef) w) :
    ∀ o, nth l i = some o → if wantedE l.toArray e o then opW P o e w (fun v w' => C w' ∧ ∃ C' : World → Prop, (fx = true → C' = C) ∧ (∀ u, C' u → C u) ∧ C' w' ∧ OX fx P l C' Q t (put e o.dst v) w') else OX fx P l C Q t (put e o.dst undef) w := by
  intro o ho'
  rw [ho] at ho'
  cases ho'
  rw [if_neg (by rw [hw]; simp)]
  exact h
theorem OX_a {i : Nat} {t : Tr} (h : ∀ o, nth l i = some o → if wantedE l.toArray e o then opW P o e w (fun v w' => C w' ∧ ∃ C' : World → Prop, (fx = true → C' = C) ∧ (∀ u, C' u → C u) ∧ C' w' ∧ OX fx P l C' Q t (put e o.dst v) w') else OX fx P l C Q t (put e o.dst undef) w) : OX fx P l C Q (.a i t) e w := h
theorem OX_a2 {i j : Nat} {t u : Tr} (h : ∀ o, nth l i = some o → if wantedE l.toArray e o then opW P o e w (fun v w' => C w' ∧ ∃ C' : World → Prop, (fx = true → C' = C) ∧ (∀ u, C' u → C u) ∧ C' w' ∧ OX fx P l C' Q t (put e o.dst v) w') else OX fx P l C Q t (put e o.dst undef) w)
    (h2 : ∀ o, nth l j = some o → if wantedE l.toArray e o then opW P o e w (fun v w' => C w' ∧ ∃ C' : World → Prop, (fx = true → C' = C) ∧ (∀ u, C' u → C u) ∧ C' w' ∧ OX fx P l C' Q u (put e o.dst v) w') else OX fx P l C Q u (put e o.dst undef) w) : OX fx P l C Q (.a2 i t j u) e w := ⟨h, h2⟩
/-- A test of the region, in both ways. -/
theorem OX_split {t : Tr} (s : Nat) (b : Bool) (hs : e s = .bool b) (ht : b = true → OX fx P l C Q t (upd e s (.bool true)) w) (hf : b = false → OX fx P l C Q t (upd e s (.bool false)) w) : OX fx P l C Q t e w := by
  cases b with
  | true => rw [upd_self hs]; exact ht rfl
  | false => rw [upd_self hs]; exact hf rfl
end
section
variable {fx : Bool} {P : Program} {l : List Oper} {C : World → Prop} {Q : Exit → (Nat → Value) → World → Prop}
theorem OX_cutT (t : Tr) (s : Tr) (J : (Nat → Value) → World → Prop) (hJ : ∀ e w, C w → J e w → OX fx P l C Q s e w) : ∀ {e : Nat → Value} {w : World}, C w → OX true P l C (fun _ e w => J e w) t e w → OX fx P l C Q (t.graft s) e w := by
  have act : ∀ {o : Oper} {e : Nat → Value} {w : World} {t' : Tr}, (∀ {e : Nat → Value} {w : World}, C w → OX true P l C (fun _ e w => J e w) t' e w → OX fx P l C Q (t'.graft s) e w) → C w →
      (if wantedE l.toArray e o then opW P o e w (fun v w' => C w' ∧ ∃ C' : World → Prop, (true = true → C' = C) ∧ (∀ u, C' u → C u) ∧ C' w' ∧ OX true P l C' (fun _ e w => J e w) t' (put e o.dst v) w') else OX true P l C (fun _ e w => J e w) t' (put e o.dst undef) w) →
      (if wantedE l.toArray e o then opW P o e w (fun v w' => C w' ∧ ∃ C' : World → Prop, (fx = true → C' = C) ∧ (∀ u, C' u → C u) ∧ C' w' ∧ OX fx P l C' Q (t'.graft s) (put e o.dst v) w') else OX fx P l C Q (t'.graft s) (put e o.dst undef) w) := by
    intro o e w t' ih hC hh
    split
    · rename_i hw
      rw [if_pos hw] at hh
      exact opW_mono hh fun v w' ⟨hv1, C', he, _, _, hv2⟩ => by
        have := he rfl
        subst this
        exact ⟨hv1, C', fun _ => rfl, fun _ h => h, hv1, ih hv1 hv2⟩
    · rename_i hw
      rw [if_neg hw] at hh
      exact ih hC hh
  induction t with
  | done => intro e w hC h; exact hJ e w hC h
  | q i t ih =>
    intro e w hC h o ho
    obtain ⟨v, h1, h2⟩ := h o ho
    exact ⟨v, h1, ih hC h2⟩
  | a i t ih => intro e w hC h o ho; exact act (t' := t) ih hC (h o ho)
  | a2 i t j u ih1 ih2 => intro e w hC h; exact ⟨fun o ho => act (t' := t) ih1 hC (h.1 o ho), fun o ho => act (t' := u) ih2 hC (h.2 o ho)⟩
  | a3 i t j u k v ih1 ih2 ih3 => intro e w hC h; exact ⟨fun o ho => act (t' := t) ih1 hC (h.1 o ho), fun o ho => act (t' := u) ih2 hC (h.2.1 o ho), fun o ho => act (t' := v) ih3 hC (h.2.2 o ho)⟩
theorem OX_cutE {t s : Tr} (J : (Nat → Value) → (Nat → Value) → World → Prop) {e : Nat → Value} {w : World} (hC : C w) (h : OX true P l C (fun _ e' w => J e e' w) t e w) (hJ : ∀ e' w', C w' → J e e' w' → OX fx P l C Q s e' w') : OX fx P l C Q (t.graft s) e w :=
  OX_cutT t s (J e) hJ hC h
end
attribute [irreducible] OX goOn
end Go.Proofs.Ythhphmbhlddihaa
