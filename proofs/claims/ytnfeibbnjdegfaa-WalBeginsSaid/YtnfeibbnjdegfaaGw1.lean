/- Several texts in one, as they stand in wip/src. -/
import Derived.WalkKit
import Derived.Deep.Quiet
/- The engine of this claim's walks: a weakest-precondition calculus over frames that are functions from slots to values, on top of the kit's own rules for code and calls. No program in sight. -/
namespace Go.Proofs.Ytnfeibbnjdegfaa
open Go Go.RowKit
set_option linter.unusedVariables false

/-- What is left of a goal, hidden from 'assumption'. -/
structure Held (p : Prop) : Prop where
  out : p
/-- A frame: what each slot holds. -/
def upd (e : Nat → Value) (d : Nat) (v : Value) : Nat → Value := fun i => bif Nat.beq i d then v else e i
def env0 : List Value → Nat → Nat → Value
  | [], _ => fun _ => undef
  | v :: l, k => upd (env0 l (k + 1)) k v
def ev (e : Nat → Value) : Operand → Value
  | .tmp t => e t
  | .const v => v
  | .global g => .pointer (some ⟨g, 0, none⟩)
  | .func f => .func (.func f) #[] #[]
def put (e : Nat → Value) (d : Option Tmp) (v : Value) : Nat → Value :=
  match d with
  | some d => upd e d v
  | none => e

theorem upd_same (e : Nat → Value) (d : Nat) (v : Value) : upd e d v d = v := by simp [upd]
theorem upd_ne {d i : Nat} (e : Nat → Value) (v : Value) (h : i ≠ d) : upd e d v i = e i := by
  have : Nat.beq i d = false := by
    cases hb : Nat.beq i d with
    | false => rfl
    | true => exact absurd (Nat.eq_of_beq_eq_true hb) h
  simp [upd, this]
theorem upd_self {e : Nat → Value} {d : Nat} {v : Value} (h : e d = v) : e = upd e d v := by
  funext i
  by_cases hi : i = d
  · subst hi; rw [upd_same, h]
  · rw [upd_ne _ _ hi]

/-- The frame 'e' is what the machine's frame of 'n' slots holds. -/
structure St (n : Nat) (a : Act) (e : Nat → Value) : Prop where
  size : a.tmps.size = n
  def_ : a.defers = []
  at_ : ∀ i, a.tmps.getD i undef = e i

theorem St.ev {n : Nat} {a : Act} {e : Nat → Value} (h : St n a e) : a.eval = ev e := by
  funext x
  cases x <;> simp only [Act.eval, Proofs.Ytnfeibbnjdegfaa.ev]
  exact h.at_ _
theorem St.put {n : Nat} {a : Act} {e : Nat → Value} (h : St n a e) {d : Option Tmp} (hd : ∀ k, d = some k → k < n) (v : Value) : St n (a.put d v) (put e d v) := by
  cases d with
  | none => exact h
  | some d =>
    have hlt : d < n := hd d rfl
    refine ⟨by simp [Act.put, h.size], by simp [Act.put, h.def_], fun i => ?_⟩
    simp only [Act.put, Proofs.Ytnfeibbnjdegfaa.put]
    by_cases hi : i = d
    · subst hi
      rw [upd_same, Array.getD_eq_getD_getElem?, Array.getElem?_setIfInBounds]
      simp [h.size, hlt]
    · rw [upd_ne _ _ hi, ← h.at_ i, Array.getD_eq_getD_getElem?, Array.getD_eq_getD_getElem?, Array.getElem?_setIfInBounds]
      simp [Ne.symm hi]

/-- What a guard sees. -/
def yieldsE (ops : Array Oper) (e : Nat → Value) (j : Nat) : Option Bool :=
  match (ops[j]?).bind (·.dst) with
  | some d => match e d with
    | .bool b => some b
    | _ => none
  | none => none
def wantedE (ops : Array Oper) (e : Nat → Value) (o : Oper) : Bool :=
  match o.guard with
  | none => true
  | some (j, want) => yieldsE ops e j == some want
theorem yielded_eq {n : Nat} {a : Act} {e : Nat → Value} (h : St n a e) {ops : Array Oper} (j : Nat) : yielded ops a.tmps j = yieldsE ops e j := by
  unfold yielded yieldsE
  cases hd : (ops[j]?).bind (·.dst) with
  | none => simp
  | some d =>
    simp only [Option.bind_some]
    rw [← h.at_ d, Array.getD_eq_getD_getElem?]
    cases hx : a.tmps[d]? with
    | none => simp [undef]
    | some x => cases x <;> simp
theorem wanted_eq {n : Nat} {a : Act} {e : Nat → Value} (h : St n a e) {ops : Array Oper} (o : Oper) : Region.wanted o (yielded ops a.tmps) = wantedE ops e o := by
  unfold Region.wanted wantedE
  cases o.guard with
  | none => rfl
  | some g => obtain ⟨j, want⟩ := g; simp only [yielded_eq h]

/-- One operation. -/
def opUpon (P : Program) (w0 : World) (K : Value → World → Prop) : Result Next → Prop
  | .ok (.value v) w => K v w
  | .ok .skip w => K undef w
  | .ok (.enter f args) w => w = w0 ∧ Calls P f args w fun en w' => ∃ v, en = .returned v ∧ K v w'
  | _ => False
def opW (P : Program) (o : Oper) (e : Nat → Value) (w : World) (K : Value → World → Prop) : Prop := opUpon P w K ((execOp (ev e) o).run P w)

/-- A list of operations, in their order. -/
def OW (P : Program) (ops : Array Oper) (Q : Exit → (Nat → Value) → World → Prop) : List Oper → (Nat → Value) → World → Prop
  | [], e, w => Q .normal e w
  | o :: rest, e, w => if wantedE ops e o then opW P o e w (fun v w' => OW P ops Q rest (put e o.dst v) w') else OW P ops Q rest (put e o.dst undef) w

/-- A post on frames as one on the machine's. -/
def QA (n : Nat) (Q : Exit → (Nat → Value) → World → Prop) : Exit → Act → World → Prop := fun x a w => ∃ e, St n a e ∧ Q x e w

theorem Oper.wp_of_opW {P : Program} {o : Oper} {a : Act} {n : Nat} {e : Nat → Value} {w : World} (hs : St n a e) {K : Value → World → Prop} {next : Act → World → Prop} {Q : Exit → Act → World → Prop}
    (h : opW P o e w K) (hk : ∀ v w', K v w' → next (a.put o.dst v) w') : o.wp P a w next Q := by
  unfold Oper.wp
  rw [hs.ev]
  unfold opW at h
  generalize (execOp (ev e) o).run P w = r at *
  cases r with
  | ok x w' =>
    cases x <;> simp only [opUpon] at h <;> simp only [Oper.upon]
    case value v => exact hk _ _ h
    case skip => exact hk _ _ h
    case enter f args =>
      refine h.2.mono fun en w'' hh => ?_
      obtain ⟨v, rfl, hv⟩ := hh
      exact hk _ _ hv
  | halt x w' => simp only [opUpon] at h

def dstsIn (n : Nat) (l : List Oper) : Bool := l.all fun o => match o.dst with | some d => decide (d < n) | none => true
theorem dstsIn_cons {n : Nat} {o : Oper} {l : List Oper} (h : dstsIn n (o :: l) = true) : (∀ k, o.dst = some k → k < n) ∧ dstsIn n l = true := by
  simp only [dstsIn, List.all_cons, Bool.and_eq_true] at h
  refine ⟨fun k hk => ?_, h.2⟩
  have := h.1
  rw [hk] at this
  simpa using this

theorem wpList_of_OW {P : Program} {ops : Array Oper} {n : Nat} {Q : Exit → (Nat → Value) → World → Prop} : ∀ (l : List Oper) {a : Act} {e : Nat → Value} {w : World},
    dstsIn n l = true → St n a e → OW P ops Q l e w → wpList P ops (QA n Q) l a w
  | [], _, e, _, _, hs, h => ⟨e, hs, h⟩
  | o :: l, a, e, w, hd, hs, h => by
    obtain ⟨hd0, hd1⟩ := dstsIn_cons hd
    refine wpList_step fun K hK => ?_
    rw [wanted_eq hs]
    unfold OW at h
    split
    · rename_i hw
      rw [if_pos hw] at h
      exact Oper.wp_of_opW hs h fun v w' hv => hK _ _ (wpList_of_OW l hd1 (hs.put hd0 v) hv)
    · rename_i hw
      rw [if_neg hw] at h
      exact hK _ _ (wpList_of_OW l hd1 (hs.put hd0 undef) h)

/-- Code. -/
def CW (P : Program) (n : Nat) (c : Code) (Q : Exit → (Nat → Value) → World → Prop) (e : Nat → Value) (w : World) : Prop := ∀ a, St n a e → c.wp P (QA n Q) a w

/-- What stands behind. -/
def thenE (next : (Nat → Value) → World → Prop) (Q : Exit → (Nat → Value) → World → Prop) : Exit → (Nat → Value) → World → Prop
  | .normal, e, w => next e w
  | x, e, w => Q x e w
def inBlockE (id : Nat) (Q : Exit → (Nat → Value) → World → Prop) : Exit → (Nat → Value) → World → Prop
  | .exit id', e, w => if id' = id then Q .normal e w else Q (.exit id') e w
  | x, e, w => Q x e w

section
variable {P : Program} {n : Nat} {Q : Exit → (Nat → Value) → World → Prop} {e : Nat → Value} {w : World}
theorem CW.mono {c : Code} {Q' : Exit → (Nat → Value) → World → Prop} (h : CW P n c Q e w) (hq : ∀ x e w, Q x e w → Q' x e w) : CW P n c Q' e w :=
  fun a hs => wp_mono (h a hs) fun x a w ⟨e, hs, hx⟩ => ⟨e, hs, hq _ _ _ hx⟩
theorem CW_seq {x y : Code} (h : CW P n x (thenE (CW P n y Q) Q) e w) : CW P n (.seq x y) Q e w := by
  intro a hs
  refine wp_seq (wp_mono (h a hs) fun x a w hx => ?_)
  obtain ⟨e, hs, hx⟩ := hx
  cases x <;> first | exact hx a hs | exact ⟨e, hs, hx⟩
theorem CW_seq_of {x y : Code} (K : (Nat → Value) → World → Prop) (h : CW P n x (thenE K Q) e w) (hy : ∀ e w, K e w → CW P n y Q e w) : CW P n (.seq x y) Q e w :=
  CW_seq (h.mono fun x e w hx => by cases x <;> first | exact hy _ _ hx | exact hx)
theorem CW_skip (h : Q .normal e w) : CW P n .skip Q e w := fun _ hs => wp_skip ⟨e, hs, h⟩
theorem CW_label {l : Nat} (h : Q .normal e w) : CW P n (.label l) Q e w := fun _ hs => wp_label ⟨e, hs, h⟩
theorem CW_exit {id : Nat} (h : Q (.exit id) e w) : CW P n (.exit id) Q e w := fun _ hs => wp_exit ⟨e, hs, h⟩
theorem CW_ret (h : Q .ret e w) : CW P n .ret Q e w := fun _ hs => wp_ret ⟨e, hs, h⟩
theorem CW_block {id : Nat} {c : Code} (h : CW P n c (inBlockE id Q) e w) : CW P n (.block id c) Q e w := by
  intro a hs
  refine wp_block (wp_mono (h a hs) fun x a w hx => ?_)
  obtain ⟨e, hs, hx⟩ := hx
  cases x with
  | exit id' =>
    simp only [inBlockE] at hx
    simp only [Exit.inBlock]
    split
    · rename_i h; rw [if_pos h] at hx; exact ⟨e, hs, hx⟩
    · rename_i h; rw [if_neg h] at hx; exact ⟨e, hs, hx⟩
  | _ => exact ⟨e, hs, hx⟩
theorem CW_cond {c : Operand} {x y : Code} (b : Bool) (hc : ev e c = .bool b) (ht : b = true → CW P n x Q e w) (hf : b = false → CW P n y Q e w) : CW P n (.cond c x y) Q e w := by
  intro a hs
  refine wp_cond_split (t := b) (by rw [hs.ev]; exact hc) (fun h => ht h a hs) (fun h => hf h a hs)
theorem CW_condT {c : Operand} {x y : Code} (hc : ev e c = .bool true) (h : CW P n x Q e w) : CW P n (.cond c x y) Q e w := CW_cond true hc (fun _ => h) (fun h => by cases h)
theorem CW_condF {c : Operand} {x y : Code} (hc : ev e c = .bool false) (h : CW P n y Q e w) : CW P n (.cond c x y) Q e w := CW_cond false hc (fun h => by cases h) (fun _ => h)
theorem CW_region {id : Nat} {l : List Oper} (hd : dstsIn n l = true) (h : OW P l.toArray Q l e w) : CW P n (.region id l.toArray false) Q e w :=
  fun a hs => wp_region_lit (wpList_of_OW l hd hs h)
/-- A loop: what holds at each round's head, and what each round lowers. -/
theorem CW_loop {c : Code} (I : (Nat → Value) → World → Prop) (μ : (Nat → Value) → World → Nat) (h0 : I e w)
    (round : ∀ e w, I e w → CW P n c (thenE (fun e' w' => I e' w' ∧ μ e' w' < μ e w) Q) e w) : CW P n (.loop c) Q e w := by
  intro a hs
  refine wp_loop (fun a w => ∃ e, St n a e ∧ I e w) (fun a w => μ (fun i => a.tmps.getD i undef) w) ⟨e, hs, h0⟩ fun a w ⟨e, hs, hI⟩ => wp_mono (round e w hI a hs) fun x a' w' hx => ?_
  obtain ⟨e', hs', hx⟩ := hx
  have hfun : ∀ {a : Act} {e : Nat → Value}, St n a e → (fun i => a.tmps.getD i undef) = e := fun h => funext h.at_
  cases x with
  | normal =>
    refine ⟨⟨e', hs', hx.1⟩, ?_⟩
    simp only [hfun hs', hfun hs]
    exact hx.2
  | _ => exact ⟨e', hs', hx⟩
end

section
variable {K : (Nat → Value) → World → Prop} {Q : Exit → (Nat → Value) → World → Prop} {e : Nat → Value} {w : World} {id id' : Nat}
theorem thenE_normal (h : K e w) : thenE K Q .normal e w := h
theorem thenE_ret (h : Q .ret e w) : thenE K Q .ret e w := h
theorem thenE_exit (h : Q (.exit id) e w) : thenE K Q (.exit id) e w := h
theorem inBlockE_normal (h : Q .normal e w) : inBlockE id Q .normal e w := h
theorem inBlockE_ret (h : Q .ret e w) : inBlockE id Q .ret e w := h
theorem inBlockE_same (h : Q .normal e w) : inBlockE id Q (.exit id) e w := by simp only [inBlockE, if_true]; exact h
theorem inBlockE_ne (hne : Nat.beq id' id = false) (h : Q (.exit id') e w) : inBlockE id Q (.exit id') e w := by
  have hx : id' ≠ id := fun hh => by subst hh; rw [Nat.beq_refl] at hne; cases hne
  simp only [inBlockE, if_neg hx]; exact h
end

/-- What a body must achieve. -/
def bodyE (P : Program) (fn : Func) (R : Ending → World → Prop) : Exit → (Nat → Value) → World → Prop
  | .normal, e, w | .ret, e, w => ∃ v, (∀ tmps : Array Value, (∀ i, tmps.getD i undef = e i) → (results fn tmps).run P w = .ok v w) ∧ R (.returned v) w
  | _, _, _ => False

theorem env0_at : ∀ (l : List Value) (k i : Nat), env0 l k i = if i < k then undef else l.getD (i - k) undef
  | [], k, i => by simp [env0]
  | v :: l, k, i => by
    unfold env0
    by_cases h : i = k
    · subst h; rw [upd_same]; simp
    · rw [upd_ne _ _ h, env0_at l (k + 1) i]
      by_cases h1 : i < k
      · rw [if_pos (by omega), if_pos h1]
      · rw [if_neg (by omega), if_neg h1]
        have : i - k = (i - (k + 1)) + 1 := by omega
        rw [this]
        simp
theorem calls_of_CW {P : Program} {f : FuncId} {fn : Func} {c : Code} {args : List Value} {w : World} {R : Ending → World → Prop}
    (hf : P.funcs[f]? = some fn) (hb : fn.body = some c) (hn : args.length ≤ fn.ntmps) (h : CW P fn.ntmps c (bodyE P fn R) (env0 args 0) w) : Calls P f args.toArray w R := by
  refine calls_of_wp hf hb (wp_mono (h _ ⟨by simp; omega, rfl, fun i => ?_⟩) fun x a w hx => ?_)
  · rw [env0_at, if_neg (by omega), Array.getD_eq_getD_getElem?, Array.getElem?_append]
    simp only [List.size_toArray, List.getElem?_toArray, Nat.sub_zero, List.getD_eq_getElem?_getD]
    split
    · rfl
    · rename_i hi
      rw [Array.getElem?_replicate, List.getElem?_eq_none (by omega)]
      split <;> simp
  · obtain ⟨e, hs, hx⟩ := hx
    cases x <;> first
      | exact hx.elim
      | (obtain ⟨v, hv, hR⟩ := hx; exact ⟨hs.def_, v, hv _ hs.at_, hR⟩)
theorem bodyE_ret1 {P : Program} {fn : Func} {R : Ending → World → Prop} {e : Nat → Value} {w : World} {t : Tmp} (hr : fn.results = #[.tmp t]) (v : Value) (hv : e t = v) (hR : R (.returned v) w) : bodyE P fn R .ret e w :=
  ⟨v, fun tmps ht => by rw [results_tmp hr, ht, hv], hR⟩
theorem bodyE_ret2 {P : Program} {fn : Func} {R : Ending → World → Prop} {e : Nat → Value} {w : World} {t u : Tmp} (hr : fn.results = #[.tmp t, .tmp u]) (v v' : Value) (hv : e t = v) (hv' : e u = v') (hR : R (.returned (.tuple #[v, v'])) w) : bodyE P fn R .ret e w :=
  ⟨_, fun tmps ht => by rw [results_tmp2 hr, ht, ht, hv, hv'], hR⟩
theorem bodyE_ret0 {P : Program} {fn : Func} {R : Ending → World → Prop} {e : Nat → Value} {w : World} (hr : fn.results = #[]) (hR : R (.returned (.tuple #[])) w) : bodyE P fn R .ret e w :=
  ⟨_, fun tmps ht => by rw [results_none hr], hR⟩
theorem bodyE_end {P : Program} {fn : Func} {R : Ending → World → Prop} {e : Nat → Value} {w : World} (h : bodyE P fn R .ret e w) : bodyE P fn R .normal e w := h

/-- Values that '==' compares by their type alone. -/
def _root_.Go.Value.plainEq : Value → Bool
  | .bool _ | .slice _ _ _ | .func _ _ _ | .nilFunc => true
  | _ => false
/-! Operations, one lemma a kind. -/
section
variable {P : Program} {ops : Array Oper} {Q : Exit → (Nat → Value) → World → Prop} {rest : List Oper} {e : Nat → Value} {w : World} {d : Tmp} {ty : TypeId} {pos : String} {aft : Array Edge}
theorem OW_nil (h : Q .normal e w) : OW P ops Q [] e w := h
theorem OW_op {o : Oper} (hg : o.guard = none) (h : opW P o e w (fun v w' => OW P ops Q rest (put e o.dst v) w')) : OW P ops Q (o :: rest) e w := by
  unfold OW; rw [if_pos (by simp [wantedE, hg])]; exact h
theorem OW_val {o : Oper} (v : Value) (hg : o.guard = none) (hr : (execOp (ev e) o).run P w = .ok (.value v) w) (h : OW P ops Q rest (put e o.dst v) w) : OW P ops Q (o :: rest) e w :=
  OW_op hg (by unfold opW; rw [hr]; exact h)
theorem OW_valw {o : Oper} (v : Value) (w' : World) (hg : o.guard = none) (hr : (execOp (ev e) o).run P w = .ok (.value v) w') (h : OW P ops Q rest (put e o.dst v) w') : OW P ops Q (o :: rest) e w :=
  OW_op hg (by unfold opW; rw [hr]; exact h)
theorem OW_unit {o : Oper} (w' : World) (hg : o.guard = none) (hd : o.dst = none) (hr : (execOp (ev e) o).run P w = .ok .skip w') (h : OW P ops Q rest e w') : OW P ops Q (o :: rest) e w :=
  OW_op hg (by unfold opW; rw [hr, hd]; exact h)
theorem OW_take {dst : Option Tmp} {op : Op} {g : Nat × Bool} (hw : wantedE ops e ⟨dst, op, ty, pos, aft, some g⟩ = true) (h : OW P ops Q (⟨dst, op, ty, pos, aft, none⟩ :: rest) e w) :
    OW P ops Q (⟨dst, op, ty, pos, aft, some g⟩ :: rest) e w := by
  unfold OW at h ⊢
  rw [if_pos (by rfl)] at h
  rw [if_pos hw]
  exact h
theorem OW_pass {dst : Option Tmp} {op : Op} {g : Nat × Bool} (hw : wantedE ops e ⟨dst, op, ty, pos, aft, some g⟩ = false) (h : OW P ops Q rest (put e dst undef) w) :
    OW P ops Q (⟨dst, op, ty, pos, aft, some g⟩ :: rest) e w := by
  unfold OW
  rw [if_neg (by rw [hw]; simp)]
  exact h
/-- A slot that holds a test: both ways. -/
theorem OW_split {l : List Oper} (s : Nat) (b : Bool) (hs : e s = .bool b) (ht : b = true → OW P ops Q l (upd e s (.bool true)) w) (hf : b = false → OW P ops Q l (upd e s (.bool false)) w) : OW P ops Q l e w := by
  cases b with
  | true => rw [upd_self hs]; exact ht rfl
  | false => rw [upd_self hs]; exact hf rfl

theorem OW_move {x : Operand} (h : OW P ops Q rest (upd e d (ev e x)) w) : OW P ops Q (⟨some d, .move x, ty, pos, aft, none⟩ :: rest) e w := OW_val _ rfl rfl h
theorem OW_assign {x : Operand} (h : OW P ops Q rest (upd e d (ev e x)) w) : OW P ops Q (⟨some d, .assign x, ty, pos, aft, none⟩ :: rest) e w := OW_val _ rfl rfl h
theorem OW_moveV {x : Operand} (v : Value) (hx : ev e x = v) (h : OW P ops Q rest (upd e d v) w) : OW P ops Q (⟨some d, .move x, ty, pos, aft, none⟩ :: rest) e w := by subst hx; exact OW_move h
theorem OW_assignV {x : Operand} (v : Value) (hx : ev e x = v) (h : OW P ops Q rest (upd e d v) w) : OW P ops Q (⟨some d, .assign x, ty, pos, aft, none⟩ :: rest) e w := by subst hx; exact OW_assign h
theorem OW_pickT {c x y : Operand} (hc : ev e c = .bool true) (v : Value) (hx : ev e x = v) (h : OW P ops Q rest (upd e d v) w) : OW P ops Q (⟨some d, .pick c x y, ty, pos, aft, none⟩ :: rest) e w :=
  OW_val _ rfl (by simp only [execOp, hc]; rfl) (by subst hx; exact h)
theorem OW_pickF {c x y : Operand} (hc : ev e c = .bool false) (v : Value) (hy : ev e y = v) (h : OW P ops Q rest (upd e d v) w) : OW P ops Q (⟨some d, .pick c x y, ty, pos, aft, none⟩ :: rest) e w :=
  OW_val _ rfl (by simp only [execOp, hc]; rfl) (by subst hy; exact h)
theorem OW_pickB {c x y : Operand} {b r s : Bool} (hc : ev e c = .bool b) (hx : ev e x = .bool r) (hy : ev e y = .bool s) (h : OW P ops Q rest (upd e d (.bool (bif b then r else s))) w) : OW P ops Q (⟨some d, .pick c x y, ty, pos, aft, none⟩ :: rest) e w :=
  OW_val _ rfl (by simp only [execOp, hc]; rfl) (by cases b <;> simp only [hx, hy] <;> exact h)
theorem OW_pick {c x y : Operand} {b : Bool} (hc : ev e c = .bool b) (h : OW P ops Q rest (upd e d (if b then ev e x else ev e y)) w) : OW P ops Q (⟨some d, .pick c x y, ty, pos, aft, none⟩ :: rest) e w :=
  OW_val _ rfl (by simp only [execOp, hc]; rfl) h
section
variable {x y : Operand} {t t' : TypeId} {k : IntKind} {a b : Int}
theorem OW_add (hx : ev e x = .int k a) (hy : ev e y = .int k b) (h : OW P ops Q rest (upd e d (.int k (k.wrap (a + b)))) w) : OW P ops Q (⟨some d, .binOp .add t x y t', ty, pos, aft, none⟩ :: rest) e w :=
  OW_val _ rfl (by simp only [execOp, hx, hy, eqGuard, binOp]; cases k <;> rfl) h
theorem OW_sub (hx : ev e x = .int k a) (hy : ev e y = .int k b) (h : OW P ops Q rest (upd e d (.int k (k.wrap (a - b)))) w) : OW P ops Q (⟨some d, .binOp .sub t x y t', ty, pos, aft, none⟩ :: rest) e w :=
  OW_val _ rfl (by simp only [execOp, hx, hy, eqGuard, binOp]; cases k <;> rfl) h
theorem OW_mul (hx : ev e x = .int k a) (hy : ev e y = .int k b) (h : OW P ops Q rest (upd e d (.int k (k.wrap (a * b)))) w) : OW P ops Q (⟨some d, .binOp .mul t x y t', ty, pos, aft, none⟩ :: rest) e w :=
  OW_val _ rfl (by simp only [execOp, hx, hy, eqGuard, binOp]; cases k <;> rfl) h
theorem wrap64_in {n : Int} (h : -9223372036854775808 ≤ n ∧ n ≤ 9223372036854775807) : IntKind.i64.wrap n = n := by rw [IntKind.wrap_i64]; omega
theorem OW_addI (hx : ev e x = .int .i64 a) (hy : ev e y = .int .i64 b) (hb : -9223372036854775808 ≤ a + b ∧ a + b ≤ 9223372036854775807) (h : OW P ops Q rest (upd e d (.int .i64 (a + b))) w) : OW P ops Q (⟨some d, .binOp .add t x y t', ty, pos, aft, none⟩ :: rest) e w :=
  OW_add hx hy (by rw [wrap64_in hb]; exact h)
theorem OW_subI (hx : ev e x = .int .i64 a) (hy : ev e y = .int .i64 b) (hb : -9223372036854775808 ≤ a - b ∧ a - b ≤ 9223372036854775807) (h : OW P ops Q rest (upd e d (.int .i64 (a - b))) w) : OW P ops Q (⟨some d, .binOp .sub t x y t', ty, pos, aft, none⟩ :: rest) e w :=
  OW_sub hx hy (by rw [wrap64_in hb]; exact h)
theorem OW_mulI (hx : ev e x = .int .i64 a) (hy : ev e y = .int .i64 b) (hb : -9223372036854775808 ≤ a * b ∧ a * b ≤ 9223372036854775807) (h : OW P ops Q rest (upd e d (.int .i64 (a * b))) w) : OW P ops Q (⟨some d, .binOp .mul t x y t', ty, pos, aft, none⟩ :: rest) e w :=
  OW_mul hx hy (by rw [wrap64_in hb]; exact h)
theorem OW_lss (hx : ev e x = .int k a) (hy : ev e y = .int k b) (h : OW P ops Q rest (upd e d (.bool (decide (a < b)))) w) : OW P ops Q (⟨some d, .binOp .lss t x y t', ty, pos, aft, none⟩ :: rest) e w :=
  OW_val _ rfl (by simp only [execOp, hx, hy, eqGuard, binOp]; cases k <;> rfl) h
theorem OW_leq (hx : ev e x = .int k a) (hy : ev e y = .int k b) (h : OW P ops Q rest (upd e d (.bool (decide (a ≤ b)))) w) : OW P ops Q (⟨some d, .binOp .leq t x y t', ty, pos, aft, none⟩ :: rest) e w :=
  OW_val _ rfl (by simp only [execOp, hx, hy, eqGuard, binOp]; cases k <;> rfl) h
theorem OW_gtr (hx : ev e x = .int k a) (hy : ev e y = .int k b) (h : OW P ops Q rest (upd e d (.bool (decide (b < a)))) w) : OW P ops Q (⟨some d, .binOp .gtr t x y t', ty, pos, aft, none⟩ :: rest) e w :=
  OW_val _ rfl (by simp only [execOp, hx, hy, eqGuard, binOp]; cases k <;> rfl) h
theorem OW_geq (hx : ev e x = .int k a) (hy : ev e y = .int k b) (h : OW P ops Q rest (upd e d (.bool (decide (b ≤ a)))) w) : OW P ops Q (⟨some d, .binOp .geq t x y t', ty, pos, aft, none⟩ :: rest) e w :=
  OW_val _ rfl (by simp only [execOp, hx, hy, eqGuard, binOp]; cases k <;> rfl) h
theorem OW_eql (hx : ev e x = .int k a) (hy : ev e y = .int k b) (h : OW P ops Q rest (upd e d (.bool (a == b))) w) : OW P ops Q (⟨some d, .binOp .eql t x y t', ty, pos, aft, none⟩ :: rest) e w :=
  OW_val _ rfl (by simp only [execOp, hx, hy, eqGuard, binOp]; cases k <;> rfl) h
theorem OW_neq (hx : ev e x = .int k a) (hy : ev e y = .int k b) (h : OW P ops Q rest (upd e d (.bool (a != b))) w) : OW P ops Q (⟨some d, .binOp .neq t x y t', ty, pos, aft, none⟩ :: rest) e w :=
  OW_val _ rfl (by simp only [execOp, hx, hy, eqGuard, binOp]; cases k <;> rfl) h
theorem run_equal_bool {a b : Bool} (ht : P.underlying t = some .bool) : (Op.equal t (.bool a) (.bool b)).run P w = .ok (a == b) w := by
  have h : ∀ d, (Op.equalIn (d + 1) t (.bool a) (.bool b)).run P w = .ok (a == b) w := fun d => by simp [Op.equalIn, run_underlying ht]
  exact h 9999
theorem run_eql_of {u v : Value} {r : Bool} (hu : u.plainEq = true) (hv : v.plainEq = true) (hr : (Op.equal t u v).run P w = .ok r w) : (do eqGuard .eql t x y u v; binOp .eql t u v : Sem Value).run P w = .ok (.bool r) w := by
  cases u <;> simp [Value.plainEq] at hu <;> cases v <;> simp [Value.plainEq] at hv <;> (show Sem.run P (Op.equal t _ _ >>= fun r => pure (Value.bool r)) w = _; rw [Sem.run_bind, hr]; rfl)
theorem run_neq_of {u v : Value} {r : Bool} (hu : u.plainEq = true) (hv : v.plainEq = true) (hr : (Op.equal t u v).run P w = .ok r w) : (do eqGuard .neq t x y u v; binOp .neq t u v : Sem Value).run P w = .ok (.bool (!r)) w := by
  cases u <;> simp [Value.plainEq] at hu <;> cases v <;> simp [Value.plainEq] at hv <;> (show Sem.run P (Op.equal t _ _ >>= fun r => pure (Value.bool (!r))) w = _; rw [Sem.run_bind, hr]; rfl)
theorem OW_eqlB {a b : Bool} (ht : P.underlying t = some .bool) (hx : ev e x = .bool a) (hy : ev e y = .bool b) (h : OW P ops Q rest (upd e d (.bool (a == b))) w) : OW P ops Q (⟨some d, .binOp .eql t x y t', ty, pos, aft, none⟩ :: rest) e w :=
  OW_val _ rfl (by simp only [execOp, hx, hy, Sem.run_bind, run_eql_of (x := x) (y := y) (u := .bool a) (v := .bool b) rfl rfl (run_equal_bool ht)]; rfl) h
theorem OW_neqB {a b : Bool} (ht : P.underlying t = some .bool) (hx : ev e x = .bool a) (hy : ev e y = .bool b) (h : OW P ops Q rest (upd e d (.bool (!(a == b)))) w) : OW P ops Q (⟨some d, .binOp .neq t x y t', ty, pos, aft, none⟩ :: rest) e w :=
  OW_val _ rfl (by simp only [execOp, hx, hy, Sem.run_bind, run_neq_of (x := x) (y := y) (u := .bool a) (v := .bool b) rfl rfl (run_equal_bool ht)]; rfl) h
theorem OW_quo (hx : ev e x = .int k a) (hy : ev e y = .int k b) (hb : b ≠ 0) (h : OW P ops Q rest (upd e d (.int k (k.wrap (a.tdiv b)))) w) : OW P ops Q (⟨some d, .binOp .quo t x y t', ty, pos, aft, none⟩ :: rest) e w :=
  OW_val _ rfl (by simp only [execOp, hx, hy, eqGuard, binOp, Op.intDiv, if_neg hb]; cases k <;> rfl) h
theorem OW_rem (hx : ev e x = .int k a) (hy : ev e y = .int k b) (hb : b ≠ 0) (h : OW P ops Q rest (upd e d (.int k (a.tmod b))) w) : OW P ops Q (⟨some d, .binOp .rem t x y t', ty, pos, aft, none⟩ :: rest) e w :=
  OW_val _ rfl (by simp only [execOp, hx, hy, eqGuard, binOp, Op.intDiv, if_neg hb]; cases k <;> rfl) h
def bitsK (op : BinOp) (k : IntKind) (a b : Int) : Int :=
  match op with
  | .and => k.wrap (BitVec.ofInt k.bits a &&& BitVec.ofInt k.bits b).toNat
  | .or => k.wrap (BitVec.ofInt k.bits a ||| BitVec.ofInt k.bits b).toNat
  | .xor => k.wrap (BitVec.ofInt k.bits a ^^^ BitVec.ofInt k.bits b).toNat
  | _ => k.wrap (BitVec.ofInt k.bits a &&& ~~~ BitVec.ofInt k.bits b).toNat
theorem OW_and (hx : ev e x = .int k a) (hy : ev e y = .int k b) (v : Int) (hv : bitsK .and k a b = v) (h : OW P ops Q rest (upd e d (.int k v)) w) : OW P ops Q (⟨some d, .binOp .and t x y t', ty, pos, aft, none⟩ :: rest) e w := by
  subst hv
  exact OW_val (.int k (bitsK .and k a b)) rfl (by simp only [execOp, hx, hy, eqGuard, binOp]; cases k <;> rfl) h
theorem OW_or (hx : ev e x = .int k a) (hy : ev e y = .int k b) (v : Int) (hv : bitsK .or k a b = v) (h : OW P ops Q rest (upd e d (.int k v)) w) : OW P ops Q (⟨some d, .binOp .or t x y t', ty, pos, aft, none⟩ :: rest) e w := by
  subst hv
  exact OW_val (.int k (bitsK .or k a b)) rfl (by simp only [execOp, hx, hy, eqGuard, binOp]; cases k <;> rfl) h
theorem OW_xor (hx : ev e x = .int k a) (hy : ev e y = .int k b) (v : Int) (hv : bitsK .xor k a b = v) (h : OW P ops Q rest (upd e d (.int k v)) w) : OW P ops Q (⟨some d, .binOp .xor t x y t', ty, pos, aft, none⟩ :: rest) e w := by
  subst hv
  exact OW_val (.int k (bitsK .xor k a b)) rfl (by simp only [execOp, hx, hy, eqGuard, binOp]; cases k <;> rfl) h
theorem OW_andNot (hx : ev e x = .int k a) (hy : ev e y = .int k b) (v : Int) (hv : bitsK .andNot k a b = v) (h : OW P ops Q rest (upd e d (.int k v)) w) : OW P ops Q (⟨some d, .binOp .andNot t x y t', ty, pos, aft, none⟩ :: rest) e w := by
  subst hv
  exact OW_val (.int k (bitsK .andNot k a b)) rfl (by simp only [execOp, hx, hy, eqGuard, binOp]; cases k <;> rfl) h
theorem OW_shl {ky : IntKind} (hx : ev e x = .int k a) (hy : ev e y = .int ky b) (hb : 0 ≤ b) (v : Int) (hv : k.wrap (a * 2 ^ (min b.toNat k.bits)) = v) (h : OW P ops Q rest (upd e d (.int k v)) w) : OW P ops Q (⟨some d, .binOp .shl t x y t', ty, pos, aft, none⟩ :: rest) e w :=
  OW_val _ rfl (by simp only [execOp, hx, hy, eqGuard, binOp, Op.shift, if_neg (show ¬ b < 0 by omega)]; rfl) (by rw [hv]; exact h)
theorem OW_shr {ky : IntKind} (hx : ev e x = .int k a) (hy : ev e y = .int ky b) (hb : 0 ≤ b) (v : Int) (hv : a.fdiv (2 ^ (min b.toNat k.bits)) = v) (h : OW P ops Q rest (upd e d (.int k v)) w) : OW P ops Q (⟨some d, .binOp .shr t x y t', ty, pos, aft, none⟩ :: rest) e w :=
  OW_val _ rfl (by simp only [execOp, hx, hy, eqGuard, binOp, Op.shift, if_neg (show ¬ b < 0 by omega)]; rfl) (by rw [hv]; exact h)
theorem OW_not {a : Bool} (hx : ev e x = .bool a) (h : OW P ops Q rest (upd e d (.bool (!a))) w) : OW P ops Q (⟨some d, .unOp .not t x, ty, pos, aft, none⟩ :: rest) e w :=
  OW_val _ rfl (by simp only [execOp, hx]; rfl) h
theorem OW_neg (hx : ev e x = .int k a) (h : OW P ops Q rest (upd e d (.int k (k.wrap (0 - a)))) w) : OW P ops Q (⟨some d, .unOp .neg t x, ty, pos, aft, none⟩ :: rest) e w :=
  OW_val _ rfl (by simp only [execOp, hx]; rfl) h
theorem OW_convInt {s : TypeDesc} (hs : P.underlying t = some s) (ht : P.underlying t' = some (.int k)) {k' : IntKind} (hx : ev e x = .int k' a) (h : OW P ops Q rest (upd e d (.int k (k.wrap a))) w) : OW P ops Q (⟨some d, .convert t t' x, ty, pos, aft, none⟩ :: rest) e w :=
  OW_val _ rfl (by simp only [execOp, hx, convert]; simp [run_underlying hs, run_underlying ht, Conv.intToInt]) h
end
theorem OW_extract {x : Operand} {i : Nat} {vs : Array Value} {v : Value} (hx : ev e x = .tuple vs) (hv : vs[i]? = some v) (h : OW P ops Q rest (upd e d v) w) : OW P ops Q (⟨some d, .extract x i, ty, pos, aft, none⟩ :: rest) e w :=
  OW_val _ rfl (by simp only [execOp, hx, Instr.extract, hv]; rfl) h
theorem OW_call {f : FuncId} {fn : Func} {args : Array Operand} {tys : Array TypeId} {dst : Option Tmp} (hf : P.funcs[f]? = some fn) (hn : (fn.name == "runtime.NumGoroutine") = false) (hb : fn.body.isNone = false)
    (h : Calls P f (args.map (ev e)) w fun en w' => ∃ v, en = .returned v ∧ OW P ops Q rest (put e dst v) w') : OW P ops Q (⟨dst, .call { callee := .value (.func f), args := args, argTypes := tys }, ty, pos, aft, none⟩ :: rest) e w := by
  refine OW_op rfl ?_
  unfold opW
  have : (execOp (ev e) ⟨dst, .call { callee := .value (.func f), args := args, argTypes := tys }, ty, pos, aft, none⟩).run P w = .ok (.enter f (args.map (ev e))) w := by
    have h1 : (callFunc f (args.map (ev e))).run P w = .ok (.enter f (args.map (ev e))) w := by
      simp only [callFunc, program]
      show Sem.run P (match P.funcs[f]? with | none => _ | some fn => _) w = _
      simp only [hf, hn, hb]
      rfl
    simpa [execOp, resolve, ev, Deferred.ofValue, invoke] using h1
  rw [this]
  exact ⟨rfl, h⟩
/-- A call by its contract. -/
theorem OW_callC {f : FuncId} {fn : Func} {args : List Operand} {args' : List Value} {tys : Array TypeId} {dst : Option Tmp} {R : Ending → World → Prop} (hf : P.funcs[f]? = some fn) (hn : (fn.name == "runtime.NumGoroutine") = false) (hb : fn.body.isNone = false)
    (hc : Calls P f args'.toArray w R) (ha : args.map (ev e) = args') (h : ∀ en w', R en w' → ∃ v, en = .returned v ∧ OW P ops Q rest (put e dst v) w') :
    OW P ops Q (⟨dst, .call { callee := .value (.func f), args := args.toArray, argTypes := tys }, ty, pos, aft, none⟩ :: rest) e w := by
  refine OW_call hf hn hb ?_
  rw [List.map_toArray, ha]
  exact hc.mono h
/-- .. that hands back one plain value. -/
theorem OW_callV {f : FuncId} {fn : Func} {args : List Operand} {args' : List Value} {tys : Array TypeId} {v : Value} {C : World → World → Prop} (hf : P.funcs[f]? = some fn) (hn : (fn.name == "runtime.NumGoroutine") = false) (hb : fn.body.isNone = false)
    (hc : Calls P f args'.toArray w (fun en w' => en = .returned v ∧ C w w')) (ha : args.map (ev e) = args') (h : ∀ w', C w w' → OW P ops Q rest (upd e d v) w') :
    OW P ops Q (⟨some d, .call { callee := .value (.func f), args := args.toArray, argTypes := tys }, ty, pos, aft, none⟩ :: rest) e w :=
  OW_callC hf hn hb hc ha fun en w' hh => ⟨v, hh.1, h w' hh.2⟩
theorem OW_lenS {x : Operand} {t : TypeId} {el : TypeId} {A : Option Addr} {n c : Nat} (ht : P.underlying t = some (.slice el)) (hx : ev e x = .slice A n c) (h : OW P ops Q rest (upd e d (.int .i64 n)) w) :
    OW P ops Q (⟨some d, .call { callee := .builtin .len, args := #[x], argTypes := #[t] }, ty, pos, aft, none⟩ :: rest) e w :=
  OW_val _ rfl (by simp [execOp, resolve, invoke, builtin, hx, Builtin.len_, run_underlying ht, goInt]) h
theorem OW_lenT {x : Operand} {t : TypeId} {s : ByteArray} (ht : P.underlying t = some .string) (hx : ev e x = .string s) (h : OW P ops Q rest (upd e d (.int .i64 s.size)) w) :
    OW P ops Q (⟨some d, .call { callee := .builtin .len, args := #[x], argTypes := #[t] }, ty, pos, aft, none⟩ :: rest) e w :=
  OW_val _ rfl (by simp [execOp, resolve, invoke, builtin, hx, Builtin.len_, run_underlying ht, goInt]) h
theorem OW_min2 {x y : Operand} {tys : Array TypeId} {a b : Int} {k : IntKind} (hx : ev e x = .int k a) (hy : ev e y = .int k b) (h : OW P ops Q rest (upd e d (.int k (if b < a then b else a))) w) :
    OW P ops Q (⟨some d, .call { callee := .builtin .min, args := #[x, y], argTypes := tys }, ty, pos, aft, none⟩ :: rest) e w :=
  OW_val _ rfl (by simp [execOp, resolve, invoke, builtin, hx, hy, Builtin.min_, Builtin.min2]) h
theorem OW_max2 {x y : Operand} {tys : Array TypeId} {a b : Int} {k : IntKind} (hx : ev e x = .int k a) (hy : ev e y = .int k b) (h : OW P ops Q rest (upd e d (.int k (if a < b then b else a))) w) :
    OW P ops Q (⟨some d, .call { callee := .builtin .max, args := #[x, y], argTypes := tys }, ty, pos, aft, none⟩ :: rest) e w :=
  OW_val _ rfl (by simp [execOp, resolve, invoke, builtin, hx, hy, Builtin.max_, Builtin.max2]) h
end
attribute [irreducible] OW CW opW thenE inBlockE bodyE
end Go.Proofs.Ytnfeibbnjdegfaa

/- Plain facts on numbers and bytes (no program in sight). -/
namespace Go.Proofs.Ytnfeibbnjdegfaa
open Go Go.RowKit
set_option linter.unusedVariables false

theorem wrap_u8 (n : Nat) : IntKind.u8.wrap (n : Int) = ((n % 256 : Nat) : Int) := by simp [IntKind.wrap, IntKind.signed, IntKind.bits]
theorem wrap_u32 (n : Nat) : IntKind.u32.wrap (n : Int) = ((n % 4294967296 : Nat) : Int) := by simp [IntKind.wrap, IntKind.signed, IntKind.bits]
theorem wrap_u64 (n : Nat) : IntKind.u64.wrap (n : Int) = ((n % 18446744073709551616 : Nat) : Int) := by simp [IntKind.wrap, IntKind.signed, IntKind.bits]
theorem wrap_u8_lt (n : Nat) (h : n < 256) : IntKind.u8.wrap (n : Int) = (n : Int) := by rw [wrap_u8, Nat.mod_eq_of_lt h]
theorem wrap_u32_lt (n : Nat) (h : n < 4294967296) : IntKind.u32.wrap (n : Int) = (n : Int) := by rw [wrap_u32, Nat.mod_eq_of_lt h]
theorem wrap_u64_lt (n : Nat) (h : n < 18446744073709551616) : IntKind.u64.wrap (n : Int) = (n : Int) := by rw [wrap_u64, Nat.mod_eq_of_lt h]
theorem ofInt_toNat (n a : Nat) (h : a < 2 ^ n) : (BitVec.ofInt n (a : Int)).toNat = a := by
  rw [BitVec.ofInt_natCast, BitVec.toNat_ofNat]; exact Nat.mod_eq_of_lt h
section
variable (a b : Nat)
theorem or_u8 (ha : a < 256) (hb : b < 256) : bitsK .or .u8 a b = ((a ||| b : Nat) : Int) := by
  show IntKind.u8.wrap ((BitVec.ofInt 8 (a : Int) ||| BitVec.ofInt 8 (b : Int)).toNat : Int) = _
  rw [BitVec.toNat_or, ofInt_toNat 8 a ha, ofInt_toNat 8 b hb, wrap_u8, Nat.mod_eq_of_lt (Nat.or_lt_two_pow (n := 8) ha hb)]
theorem xor_u8 (ha : a < 256) (hb : b < 256) : bitsK .xor .u8 a b = ((a ^^^ b : Nat) : Int) := by
  show IntKind.u8.wrap ((BitVec.ofInt 8 (a : Int) ^^^ BitVec.ofInt 8 (b : Int)).toNat : Int) = _
  rw [BitVec.toNat_xor, ofInt_toNat 8 a ha, ofInt_toNat 8 b hb, wrap_u8, Nat.mod_eq_of_lt (Nat.xor_lt_two_pow (n := 8) ha hb)]
theorem and_u8 (ha : a < 256) (hb : b < 256) : bitsK .and .u8 a b = ((a &&& b : Nat) : Int) := by
  show IntKind.u8.wrap ((BitVec.ofInt 8 (a : Int) &&& BitVec.ofInt 8 (b : Int)).toNat : Int) = _
  rw [BitVec.toNat_and, ofInt_toNat 8 a ha, ofInt_toNat 8 b hb, wrap_u8, Nat.mod_eq_of_lt (Nat.and_lt_two_pow (n := 8) _ hb)]
theorem or_u32 (ha : a < 4294967296) (hb : b < 4294967296) : bitsK .or .u32 a b = ((a ||| b : Nat) : Int) := by
  show IntKind.u32.wrap ((BitVec.ofInt 32 (a : Int) ||| BitVec.ofInt 32 (b : Int)).toNat : Int) = _
  rw [BitVec.toNat_or, ofInt_toNat 32 a ha, ofInt_toNat 32 b hb, wrap_u32, Nat.mod_eq_of_lt (Nat.or_lt_two_pow (n := 32) ha hb)]
theorem xor_u32 (ha : a < 4294967296) (hb : b < 4294967296) : bitsK .xor .u32 a b = ((a ^^^ b : Nat) : Int) := by
  show IntKind.u32.wrap ((BitVec.ofInt 32 (a : Int) ^^^ BitVec.ofInt 32 (b : Int)).toNat : Int) = _
  rw [BitVec.toNat_xor, ofInt_toNat 32 a ha, ofInt_toNat 32 b hb, wrap_u32, Nat.mod_eq_of_lt (Nat.xor_lt_two_pow (n := 32) ha hb)]
theorem and_u32 (ha : a < 4294967296) (hb : b < 4294967296) : bitsK .and .u32 a b = ((a &&& b : Nat) : Int) := by
  show IntKind.u32.wrap ((BitVec.ofInt 32 (a : Int) &&& BitVec.ofInt 32 (b : Int)).toNat : Int) = _
  rw [BitVec.toNat_and, ofInt_toNat 32 a ha, ofInt_toNat 32 b hb, wrap_u32, Nat.mod_eq_of_lt (Nat.and_lt_two_pow (n := 32) _ hb)]
theorem or_u64 (ha : a < 18446744073709551616) (hb : b < 18446744073709551616) : bitsK .or .u64 a b = ((a ||| b : Nat) : Int) := by
  show IntKind.u64.wrap ((BitVec.ofInt 64 (a : Int) ||| BitVec.ofInt 64 (b : Int)).toNat : Int) = _
  rw [BitVec.toNat_or, ofInt_toNat 64 a ha, ofInt_toNat 64 b hb, wrap_u64, Nat.mod_eq_of_lt (Nat.or_lt_two_pow (n := 64) ha hb)]
theorem and_u64 (ha : a < 18446744073709551616) (hb : b < 18446744073709551616) : bitsK .and .u64 a b = ((a &&& b : Nat) : Int) := by
  show IntKind.u64.wrap ((BitVec.ofInt 64 (a : Int) &&& BitVec.ofInt 64 (b : Int)).toNat : Int) = _
  rw [BitVec.toNat_and, ofInt_toNat 64 a ha, ofInt_toNat 64 b hb, wrap_u64, Nat.mod_eq_of_lt (Nat.and_lt_two_pow (n := 64) _ hb)]
end

/-- The last n bytes of a number, the greatest ahead. -/
def putL (x n : Nat) : List UInt8 := (List.range n).map fun i => UInt8.ofNat (x / 256 ^ (n - 1 - i))
theorem putL_length (x n : Nat) : (putL x n).length = n := by simp [putL]
/-- The number of some bytes. -/
def loadL (l : List UInt8) : Nat := l.foldl (fun x b => 256 * x + b.toNat) 0
theorem loadL_snoc (l : List UInt8) (b : UInt8) : loadL (l ++ [b]) = 256 * loadL l + b.toNat := by simp [loadL]
theorem foldl_lt : ∀ (l : List UInt8) (x k : Nat), x < 256 ^ k → l.foldl (fun x b => 256 * x + b.toNat) x < 256 ^ (k + l.length)
  | [], x, k, h => by simpa using h
  | b :: l, x, k, h => by
    have hb := b.toNat_lt
    have := foldl_lt l (256 * x + b.toNat) (k + 1) (by rw [Nat.pow_succ]; omega)
    simp only [List.foldl_cons, List.length_cons]
    have e : k + (l.length + 1) = k + 1 + l.length := by omega
    rw [e]
    exact this
theorem loadL_lt (l : List UInt8) : loadL l < 256 ^ l.length := by
  have := foldl_lt l 0 0 (by simp)
  simpa [loadL] using this
theorem take_succ_get {α : Type} (l : List α) (k : Nat) (h : k < l.length) : l.take (k + 1) = l.take k ++ [l[k]] := by
  rw [List.take_succ_eq_append_getElem h]
/-- What stands at a place. -/
def ldL (b : List UInt8) (at_ : Int) (n : Nat) : Option Nat := if 0 ≤ at_ ∧ at_.toNat + n ≤ b.length then some (loadL ((b.drop at_.toNat).take n)) else none
def ldV (b : List UInt8) (at_ : Int) (n : Nat) : Nat := (ldL b at_ n).getD 0
def ldB (b : List UInt8) (at_ : Int) (n : Nat) : Bool := (ldL b at_ n).isSome

/-- A turn by k places. -/
def rotS (x k : Nat) : Nat := x / 2 ^ k + (x % 2 ^ k) * 2 ^ (32 - k)
def rotK (n : Int) : Nat := (n % 32).toNat
def xorL (a b : List UInt8) : List UInt8 := List.zipWith (· ^^^ ·) a b
theorem xorL_length (a b : List UInt8) : (xorL a b).length = min a.length b.length := by simp [xorL]
theorem xor_bv (x y : UInt8) : bitsK .xor .u8 (x.toNat : Int) (y.toNat : Int) = ((x ^^^ y).toNat : Int) := by
  rw [xor_u8 _ _ x.toNat_lt y.toNat_lt, UInt8.toNat_xor]
theorem or_bv (x y : UInt8) : bitsK .or .u8 (x.toNat : Int) (y.toNat : Int) = ((x ||| y).toNat : Int) := by
  rw [or_u8 _ _ x.toNat_lt y.toNat_lt, UInt8.toNat_or]
theorem xorL_take_succ {a b : List UInt8} {k : Nat} (ha : k < a.length) (hb : k < b.length) : (xorL a b).take (k + 1) = (xorL a b).take k ++ [a[k] ^^^ b[k]] := by
  rw [take_succ_get _ _ (by rw [xorL_length]; omega)]
  simp [xorL]
theorem fdiv_nat (a b : Nat) : (a : Int).fdiv (b : Int) = ((a / b : Nat) : Int) := by rw [Int.fdiv_eq_ediv_of_nonneg _ (by omega)]; rfl
theorem tmod_nat (a b : Nat) : (a : Int).tmod (b : Int) = ((a % b : Nat) : Int) := rfl
theorem tdiv_nat (a b : Nat) : (a : Int).tdiv (b : Int) = ((a / b : Nat) : Int) := rfl
theorem rem_u32 (a b : Nat) (c : Int) (hc : c = (b : Int)) : (a : Int).tmod c = ((a % b : Nat) : Int) := by rw [hc]; rfl
theorem quo_u32 (a b : Nat) (c : Int) (hc : c = (b : Int)) (h : a < 4294967296) : IntKind.u32.wrap ((a : Int).tdiv c) = ((a / b : Nat) : Int) := by
  rw [hc, tdiv_nat, wrap_u32, Nat.mod_eq_of_lt (Nat.lt_of_le_of_lt (Nat.div_le_self _ _) h)]
theorem quo_u64 (a b : Nat) (c : Int) (hc : c = (b : Int)) (h : a < 18446744073709551616) : IntKind.u64.wrap ((a : Int).tdiv c) = ((a / b : Nat) : Int) := by
  rw [hc, tdiv_nat, wrap_u64, Nat.mod_eq_of_lt (Nat.lt_of_le_of_lt (Nat.div_le_self _ _) h)]
theorem tmod32 (n : Int) : n.tmod 32 = if 0 ≤ n then n % 32 else -((-n) % 32) := by
  split
  · rename_i h; exact Int.tmod_eq_emod_of_nonneg h
  · rename_i h
    have h2 : n = -(-n) := by omega
    rw [h2, Int.neg_tmod, Int.tmod_eq_emod_of_nonneg (by omega)]
    simp
theorem rot_mod (n : Int) : (n.tmod 32 + 32).tmod 32 = (rotK n : Int) := by
  unfold rotK
  rw [Int.tmod_eq_emod_of_nonneg (by rw [tmod32]; split <;> omega), tmod32]
  split <;> omega
theorem rotK_lt (n : Int) : rotK n < 32 := by unfold rotK; omega
theorem rotS_zero (x : Nat) : rotS x 0 = x := by simp [rotS, Nat.mod_one]
theorem rotS_lt {x k : Nat} (hx : x < 4294967296) (hk : k ≤ 32) : rotS x k < 4294967296 := by
  unfold rotS
  have e : (4294967296 : Nat) = 2 ^ k * 2 ^ (32 - k) := by rw [← Nat.pow_add, show k + (32 - k) = 32 by omega]
  have h1 : x / 2 ^ k < 2 ^ (32 - k) := by rw [Nat.div_lt_iff_lt_mul (Nat.two_pow_pos k)]; rw [Nat.mul_comm, ← e]; exact hx
  have h2 : x % 2 ^ k + 1 ≤ 2 ^ k := Nat.mod_lt _ (Nat.two_pow_pos k)
  have h3 := Nat.mul_le_mul_right (2 ^ (32 - k)) h2
  rw [Nat.add_mul, ← e] at h3
  omega
theorem rotS_succ {x k : Nat} (hk : k < 32) : rotS x (k + 1) = rotS x k / 2 + rotS x k % 2 * 2147483648 := by
  unfold rotS
  obtain ⟨q, r, hr, hx⟩ : ∃ q r, r < 2 ^ k ∧ x = q * 2 ^ k + r := ⟨x / 2 ^ k, x % 2 ^ k, Nat.mod_lt _ (Nat.two_pow_pos k), by rw [Nat.mul_comm]; exact (Nat.div_add_mod x (2 ^ k)).symm⟩
  have e1 : x / 2 ^ k = q := by rw [hx, Nat.mul_comm, Nat.mul_add_div (Nat.two_pow_pos k), Nat.div_eq_of_lt hr]; rfl
  have e2 : x % 2 ^ k = r := by rw [hx, Nat.mul_comm, Nat.mul_add_mod, Nat.mod_eq_of_lt hr]
  have e3 : x / 2 ^ (k + 1) = q / 2 := by rw [Nat.pow_succ, ← Nat.div_div_eq_div_mul, e1]
  have e4 : x % 2 ^ (k + 1) = q % 2 * 2 ^ k + r := by
    rw [Nat.pow_succ, Nat.mod_mul, e1, e2, Nat.mul_comm, Nat.add_comm]
  have p1 : 2 ^ (32 - k) = 2 * 2 ^ (32 - (k + 1)) := by rw [← Nat.pow_succ']; congr 1; omega
  have p2 : 2 ^ k * 2 ^ (32 - (k + 1)) = 2147483648 := by rw [← Nat.pow_add, show k + (32 - (k + 1)) = 31 by omega]
  rw [e1, e2, e3, e4, p1]
  generalize 2 ^ (32 - (k + 1)) = z at *
  have h1 : (q + r * (2 * z)) / 2 = q / 2 + r * z := by
    rw [show r * (2 * z) = 2 * (r * z) by rw [Nat.mul_left_comm], Nat.add_mul_div_left _ _ (by decide)]
  have h2 : (q + r * (2 * z)) % 2 = q % 2 := by
    rw [show r * (2 * z) = 2 * (r * z) by rw [Nat.mul_left_comm], Nat.add_mul_mod_self_left]
  rw [h1, h2, Nat.add_mul, Nat.mul_assoc, p2]
  omega
/-- A turn out of two shifts. -/
theorem rot_or {x s : Nat} (hx : x < 4294967296) (hs : s < 32) : (x * 2 ^ s % 4294967296) ||| (x / 2 ^ (32 - s)) = rotS x ((32 - s) % 32) := by
  by_cases h0 : s = 0
  · subst h0
    rw [Nat.pow_zero, Nat.mul_one, Nat.mod_eq_of_lt hx, Nat.div_eq_of_lt hx, Nat.or_zero]
    exact (rotS_zero x).symm
  · have hk : (32 - s) % 32 = 32 - s := Nat.mod_eq_of_lt (by omega)
    rw [hk]
    unfold rotS
    have hss : 32 - (32 - s) = s := by omega
    rw [hss]
    have e : (4294967296 : Nat) = 2 ^ (32 - s) * 2 ^ s := by rw [← Nat.pow_add, show 32 - s + s = 32 by omega]
    have h1 : x * 2 ^ s % 4294967296 = (x % 2 ^ (32 - s)) * 2 ^ s := by rw [e, Nat.mul_mod_mul_right]
    have h2 : x / 2 ^ (32 - s) < 2 ^ s := by rw [Nat.div_lt_iff_lt_mul (Nat.two_pow_pos _), Nat.mul_comm, ← e]; exact hx
    rw [h1, Nat.mul_comm (x % 2 ^ (32 - s)), ← Nat.two_pow_add_eq_or_of_lt h2, Nat.add_comm]
end Go.Proofs.Ytnfeibbnjdegfaa

/- SHA-256, plainly: numbers of 32 bits, the schedule, a round, a block, blocks, the end, the tag. No program in sight. -/
namespace Go.Proofs.Ytnfeibbnjdegfaa
open Go Go.RowKit
set_option linter.unusedVariables false

/-- A number of 32 bits, as a value. -/
abbrev uv (x : UInt32) : Value := .int .u32 (x.toNat : Int)
theorem u32_lt (x : UInt32) : x.toNat < 4294967296 := x.toNat_lt
theorem uv_add (x y : UInt32) : IntKind.u32.wrap ((x.toNat : Int) + (y.toNat : Int)) = ((x + y).toNat : Int) := by
  rw [show (x.toNat : Int) + (y.toNat : Int) = ((x.toNat + y.toNat : Nat) : Int) by simp, wrap_u32, UInt32.toNat_add]
theorem uv_and (x y : UInt32) : bitsK .and .u32 (x.toNat : Int) (y.toNat : Int) = ((x &&& y).toNat : Int) := by
  rw [and_u32 _ _ (u32_lt x) (u32_lt y), UInt32.toNat_and]
theorem uv_or (x y : UInt32) : bitsK .or .u32 (x.toNat : Int) (y.toNat : Int) = ((x ||| y).toNat : Int) := by
  rw [or_u32 _ _ (u32_lt x) (u32_lt y), UInt32.toNat_or]
theorem uv_xor (x y : UInt32) : bitsK .xor .u32 (x.toNat : Int) (y.toNat : Int) = ((x ^^^ y).toNat : Int) := by
  rw [xor_u32 _ _ (u32_lt x) (u32_lt y), UInt32.toNat_xor]
theorem uv_not (x : UInt32) : bitsK .xor .u32 4294967295 (x.toNat : Int) = ((~~~ x).toNat : Int) := by
  rw [show (4294967295 : Int) = (((~~~ (0 : UInt32)).toNat : Nat) : Int) by rfl, uv_xor]
  congr 2
/-- Moved to the right, to the left. -/
def shU (x : UInt32) (k : Nat) : UInt32 := UInt32.ofNat (x.toNat / 2 ^ k)
def slU (x : UInt32) (k : Nat) : UInt32 := UInt32.ofNat (x.toNat * 2 ^ k)
theorem shU_nat (x : UInt32) (k : Nat) : (shU x k).toNat = x.toNat / 2 ^ k := by
  unfold shU
  rw [UInt32.toNat_ofNat']
  exact Nat.mod_eq_of_lt (Nat.lt_of_le_of_lt (Nat.div_le_self _ _) (u32_lt x))
theorem slU_nat (x : UInt32) (k : Nat) : (slU x k).toNat = x.toNat * 2 ^ k % 4294967296 := by
  unfold slU
  rw [UInt32.toNat_ofNat']
theorem uv_shr (x : UInt32) (b : Int) (k : Nat) (hb : b = (k : Int)) (hk : k ≤ 32) : (x.toNat : Int).fdiv (2 ^ (min b.toNat IntKind.u32.bits)) = ((shU x k).toNat : Int) := by
  subst hb
  rw [shU_nat, show min ((k : Int)).toNat IntKind.u32.bits = k by simp [IntKind.bits]; omega]
  have := fdiv_nat x.toNat (2 ^ k)
  simpa using this
theorem uv_shl (x : UInt32) (b : Int) (k : Nat) (hb : b = (k : Int)) (hk : k ≤ 32) : IntKind.u32.wrap ((x.toNat : Int) * 2 ^ (min b.toNat IntKind.u32.bits)) = ((slU x k).toNat : Int) := by
  subst hb
  rw [slU_nat, show min ((k : Int)).toNat IntKind.u32.bits = k by simp [IntKind.bits]; omega]
  have := wrap_u32 (x.toNat * 2 ^ k)
  simpa using this
/-- Turned. -/
def rotU (x : UInt32) (k : Nat) : UInt32 := UInt32.ofNat (rotS x.toNat k)
theorem rotU_nat (x : UInt32) {k : Nat} (hk : k ≤ 32) : (rotU x k).toNat = rotS x.toNat k := by
  unfold rotU
  rw [UInt32.toNat_ofNat']
  exact Nat.mod_eq_of_lt (rotS_lt (u32_lt x) hk)
theorem rot_shifts (x : UInt32) {k : Nat} (h0 : 0 < k) (hk : k < 32) : shU x k ||| slU x (32 - k) = rotU x k := by
  apply UInt32.toNat_inj.1
  rw [UInt32.toNat_or, shU_nat, slU_nat, rotU_nat x (by omega), Nat.or_comm]
  have := rot_or (x := x.toNat) (s := 32 - k) (u32_lt x) (by omega)
  rw [show 32 - (32 - k) = k by omega, Nat.mod_eq_of_lt hk] at this
  exact this
def turnU (x : UInt32) (a b c : Nat) : UInt32 := rotU x a ^^^ rotU x b ^^^ rotU x c
def smallU (x : UInt32) (a b c : Nat) : UInt32 := rotU x a ^^^ rotU x b ^^^ shU x c
theorem ch_eq (e f g : UInt32) : (e &&& f) ^^^ (~~~ e &&& g) = (e &&& f ||| ~~~ e &&& g) := by
  apply UInt32.toBitVec_inj.1
  simp only [UInt32.toBitVec_xor, UInt32.toBitVec_and, UInt32.toBitVec_not, UInt32.toBitVec_or]
  ext i
  simp
  cases e.toBitVec[i] <;> cases f.toBitVec[i] <;> cases g.toBitVec[i] <;> rfl
theorem maj_eq (a b c : UInt32) : (a &&& b) ^^^ (a &&& c) ^^^ (b &&& c) = (a &&& b ||| a &&& c ||| b &&& c) := by
  apply UInt32.toBitVec_inj.1
  simp only [UInt32.toBitVec_xor, UInt32.toBitVec_and, UInt32.toBitVec_or]
  ext i
  simp
  cases a.toBitVec[i] <;> cases b.toBitVec[i] <;> cases c.toBitVec[i] <;> rfl

/-- The schedule. -/
def nxt (b : List UInt8) (w : List UInt32) (t : Nat) : UInt32 :=
  if t < 16 then UInt32.ofNat (ldV b (4 * t : Nat) 4) else smallU (w.getD (t - 2) 0) 17 19 10 + w.getD (t - 7) 0 + smallU (w.getD (t - 15) 0) 7 18 3 + w.getD (t - 16) 0
def sch (b : List UInt8) : Nat → List UInt32
  | 0 => []
  | t + 1 => sch b t ++ [nxt b (sch b t) t]
theorem sch_length (b : List UInt8) : ∀ t, (sch b t).length = t
  | 0 => rfl
  | t + 1 => by simp [sch, sch_length b t]
/-- The constants. -/
def kL : List UInt32 := [1116352408, 1899447441, 3049323471, 3921009573, 961987163, 1508970993, 2453635748, 2870763221, 3624381080, 310598401, 607225278, 1426881987, 1925078388, 2162078206, 2614888103, 3248222580, 3835390401, 4022224774, 264347078, 604807628, 770255983, 1249150122, 1555081692, 1996064986, 2554220882, 2821834349, 2952996808, 3210313671, 3336571891, 3584528711, 113926993, 338241895, 666307205, 773529912, 1294757372, 1396182291, 1695183700, 1986661051, 2177026350, 2456956037, 2730485921, 2820302411, 3259730800, 3345764771, 3516065817, 3600352804, 4094571909, 275423344, 430227734, 506948616, 659060556, 883997877, 958139571, 1322822218, 1537002063, 1747873779, 1955562222, 2024104815, 2227730452, 2361852424, 2428436474, 2756734187, 3204031479, 3329325298]
theorem kL_length : kL.length = 64 := by rfl
/-- The eight numbers. -/
structure N8 where
  a : UInt32
  b : UInt32
  c : UInt32
  d : UInt32
  e : UInt32
  f : UInt32
  g : UInt32
  h : UInt32
def N8.l (s : N8) : List UInt32 := [s.a, s.b, s.c, s.d, s.e, s.f, s.g, s.h]
def N8.cells (s : N8) : List Value := s.l.map uv
theorem N8.cells_length (s : N8) : s.cells.length = 8 := rfl
theorem N8.l_length (s : N8) : s.l.length = 8 := rfl
def one8 (s : N8) (k w : UInt32) : UInt32 := s.h + turnU s.e 6 11 25 + (s.e &&& s.f ||| ~~~ s.e &&& s.g) + k + w
def two8 (s : N8) : UInt32 := turnU s.a 2 13 22 + (s.a &&& s.b ||| s.a &&& s.c ||| s.b &&& s.c)
def rnd (s : N8) (k w : UInt32) : N8 := ⟨one8 s k w + two8 s, s.a, s.b, s.c, s.d + one8 s k w, s.e, s.f, s.g⟩
def rnds (b : List UInt8) (s : N8) : Nat → N8
  | 0 => s
  | t + 1 => rnd (rnds b s t) (kL.getD t 0) ((sch b 64).getD t 0)
def N8.add (s x : N8) : N8 := ⟨s.a + x.a, s.b + x.b, s.c + x.c, s.d + x.d, s.e + x.e, s.f + x.f, s.g + x.g, s.h + x.h⟩
def blk (s : N8) (b : List UInt8) : N8 := s.add (rnds b s 64)
def iv8 : N8 := ⟨0x6a09e667, 0xbb67ae85, 0x3c6ef372, 0xa54ff53a, 0x510e527f, 0x9b05688c, 0x1f83d9ab, 0x5be0cd19⟩
/-- The n-th block. -/
def chunk (l : List UInt8) (i : Nat) : List UInt8 := (l.drop (64 * i)).take 64
theorem chunk_length {l : List UInt8} {i : Nat} (h : i < l.length / 64) : (chunk l i).length = 64 := by
  unfold chunk
  rw [List.length_take, List.length_drop]
  omega
theorem chunk_app {a b : List UInt8} {i : Nat} (h : i < a.length / 64) : chunk (a ++ b) i = chunk a i := by
  unfold chunk
  rw [List.drop_append_of_le_length (by omega), List.take_append_of_le_length (by rw [List.length_drop]; omega)]
theorem chunk_right {a b : List UInt8} {n i : Nat} (h : a.length = 64 * n) : chunk (a ++ b) (n + i) = chunk b i := by
  unfold chunk
  rw [List.drop_append, List.drop_eq_nil_of_le (by omega), List.nil_append]
  congr 2
  omega
def runB (s : N8) (l : List UInt8) : Nat → N8
  | 0 => s
  | n + 1 => blk (runB s l n) (chunk l n)
theorem runB_app (s : N8) (a b : List UInt8) : ∀ n, n ≤ a.length / 64 → runB s (a ++ b) n = runB s a n
  | 0, _ => rfl
  | n + 1, h => by unfold runB; rw [runB_app s a b n (by omega), chunk_app (by omega)]
theorem runB_right (s : N8) (a b : List UInt8) (n : Nat) (h : a.length = 64 * n) : ∀ m, runB s (a ++ b) (n + m) = runB (runB s a n) b m
  | 0 => by rw [Nat.add_zero, runB_app s a b n (by omega)]; rfl
  | m + 1 => by
    show blk (runB s (a ++ b) (n + m)) (chunk (a ++ b) (n + m)) = _
    rw [runB_right s a b n h m, chunk_right h]
    rfl
/-- All whole blocks of some bytes; what is left. -/
def allB (s : N8) (l : List UInt8) : N8 := runB s l (l.length / 64)
def restB (l : List UInt8) : List UInt8 := l.drop (64 * (l.length / 64))
theorem restB_length (l : List UInt8) : (restB l).length = l.length % 64 := by unfold restB; rw [List.length_drop]; omega
theorem full_length (l : List UInt8) : (l.take (64 * (l.length / 64))).length = 64 * (l.length / 64) := by rw [List.length_take]; omega
theorem full_rest (l : List UInt8) : l.take (64 * (l.length / 64)) ++ restB l = l := List.take_append_drop _ _
theorem runB_take (s : N8) (l : List UInt8) : runB s (l.take (64 * (l.length / 64))) (l.length / 64) = allB s l := by
  have h := full_length l
  conv => rhs; unfold allB; rw [show runB s l = runB s (l.take (64 * (l.length / 64)) ++ restB l) by rw [full_rest]]
  rw [runB_app _ _ _ _ (by omega)]
/-- What comes behind goes on from there. -/
theorem allB_app (s : N8) (l b : List UInt8) : allB s (l ++ b) = allB (allB s l) (restB l ++ b) ∧ restB (l ++ b) = restB (restB l ++ b) := by
  have h := full_length l
  have e : l ++ b = l.take (64 * (l.length / 64)) ++ (restB l ++ b) := by rw [← List.append_assoc, full_rest]
  have hn : (l ++ b).length / 64 = l.length / 64 + (restB l ++ b).length / 64 := by
    rw [List.length_append, List.length_append, restB_length]; omega
  constructor
  · show runB s (l ++ b) ((l ++ b).length / 64) = _
    rw [hn]
    conv => lhs; rw [e]
    rw [runB_right _ _ _ _ h, runB_take]
    rfl
  · conv => lhs; unfold restB; rw [hn, e]
    rw [List.drop_append, List.drop_eq_nil_of_le (by omega), List.nil_append, h]
    unfold restB
    congr 1
    omega
/-- What stands behind all bytes. -/
def tailB (n : Nat) : List UInt8 := 0x80 :: (List.replicate ((119 - n % 64) % 64) 0 ++ putL (8 * n % 18446744073709551616) 8)
theorem tail_length (n : Nat) : (n + (tailB n).length) % 64 = 0 := by unfold tailB; simp [putL_length]; omega
def shaN (l : List UInt8) : N8 := allB iv8 (l ++ tailB l.length)
def outB (s : N8) : List UInt8 := (s.l.map fun x => putL x.toNat 4).flatten
def shaL (l : List UInt8) : List UInt8 := outB (shaN l)
theorem outB_length (s : N8) : (outB s).length = 32 := by simp [outB, N8.l, putL_length]
theorem shaL_length (l : List UInt8) : (shaL l).length = 32 := outB_length _
theorem shaN_rest (l : List UInt8) : shaN l = allB (allB iv8 l) (restB l ++ tailB l.length) := (allB_app iv8 l _).1
end Go.Proofs.Ytnfeibbnjdegfaa

/- Numbers as bytes, there and back. No program in sight. -/
namespace Go.Proofs.Ytnfeibbnjdegfaa
open Go Go.RowKit
set_option linter.unusedVariables false
theorem loadL_putL (n : Nat) : ∀ x, x < 256 ^ n → loadL (putL x n) = x := by
  induction n with
  | zero => intro x hx; simp at hx; subst hx; rfl
  | succ n ih =>
    intro x hx
    have h1 : putL x (n + 1) = putL (x / 256) n ++ [UInt8.ofNat x] := by
      unfold putL
      rw [List.range_succ, List.map_append]
      congr 1
      · apply List.map_congr_left
        intro i hi
        have hi' : i < n := List.mem_range.1 hi
        rw [show n + 1 - 1 - i = (n - 1 - i) + 1 by omega, Nat.pow_succ, Nat.mul_comm, ← Nat.div_div_eq_div_mul]
      · simp
    rw [h1, loadL_snoc, ih _ (by rw [Nat.pow_succ] at hx; omega), UInt8.toNat_ofNat']
    omega
theorem putL_snoc (x n : Nat) : putL x (n + 1) = putL (x / 256) n ++ [UInt8.ofNat x] := by
  unfold putL
  rw [List.range_succ, List.map_append]
  congr 1
  · apply List.map_congr_left
    intro i hi
    have hi' : i < n := List.mem_range.1 hi
    rw [show n + 1 - 1 - i = (n - 1 - i) + 1 by omega, Nat.pow_succ, Nat.mul_comm, ← Nat.div_div_eq_div_mul]
  · simp
theorem putL_loadL : ∀ (n : Nat) (l : List UInt8), l.length = n → putL (loadL l) n = l
  | 0, l, h => by rw [List.eq_nil_of_length_eq_zero h]; rfl
  | n + 1, l, h => by
    obtain ⟨l', b, rfl⟩ : ∃ l' b, l = l' ++ [b] := ⟨l.dropLast, l.getLast (by intro hh; rw [hh] at h; cases h), (List.dropLast_concat_getLast _).symm⟩
    have hb := b.toNat_lt
    rw [putL_snoc, loadL_snoc, show (256 * loadL l' + b.toNat) / 256 = loadL l' by omega, putL_loadL n l' (by simpa using h)]
    congr 2
    apply UInt8.toNat_inj.1
    rw [UInt8.toNat_ofNat']
    omega
end Go.Proofs.Ytnfeibbnjdegfaa

/- Frames, plainly. No program in sight. -/
namespace Go.Proofs.Ytnfeibbnjdegfaa
open Go Go.RowKit
set_option linter.unusedVariables false
def sealB (b : List UInt8) : List UInt8 := b ++ (shaL b).take 8
theorem sealB_length (b : List UInt8) : (sealB b).length = b.length + 8 := by unfold sealB; rw [List.length_append, List.length_take, shaL_length]; rfl
def frameB (p : List UInt8) : List UInt8 := sealB (putL p.length 4 ++ p)
theorem frameB_length (p : List UInt8) : (frameB p).length = p.length + 12 := by unfold frameB; rw [sealB_length, List.length_append, putL_length]; omega
/-- The payload of the frame at the beginning. -/
def nextL (b : List UInt8) : Option (List UInt8) :=
  if 4 ≤ b.length ∧ loadL (b.take 4) ≤ 65536 ∧ loadL (b.take 4) + 12 ≤ b.length ∧ sealB (b.take (4 + loadL (b.take 4))) = b.take (loadL (b.take 4) + 12) then some ((b.drop 4).take (loadL (b.take 4))) else none
theorem nextL_some {b p : List UInt8} (h : nextL b = some p) : p.length ≤ 65536 ∧ p.length + 12 ≤ b.length ∧ b.take (p.length + 12) = frameB p := by
  unfold nextL at h
  split at h
  · rename_i hh
    obtain ⟨h1, h2, h3, h4⟩ := hh
    obtain ⟨n, hn⟩ : ∃ n, loadL (b.take 4) = n := ⟨_, rfl⟩
    rw [hn] at h h2 h3 h4
    have hp := Option.some.inj h
    have hpl : p.length = n := by rw [← hp, List.length_take, List.length_drop]; omega
    rw [hpl]
    refine ⟨h2, h3, ?_⟩
    rw [← h4]
    unfold frameB
    rw [hpl, ← hp, ← hn, putL_loadL 4 (b.take 4) (by rw [List.length_take]; omega)]
    congr 1
    rw [List.take_add]
  · cases h
theorem nextL_frame (p x : List UInt8) (h : p.length ≤ 65536) : nextL (frameB p ++ x) = some p := by
  have h4 : (frameB p ++ x).take 4 = putL p.length 4 := by
    unfold frameB sealB
    rw [List.append_assoc, List.append_assoc, List.take_append_of_le_length (by rw [putL_length]; exact Nat.le_refl _), List.take_of_length_le (by rw [putL_length]; exact Nat.le_refl _)]
  have hn : loadL ((frameB p ++ x).take 4) = p.length := by rw [h4]; exact loadL_putL 4 _ (by omega)
  have hl := frameB_length p
  have ht : (frameB p ++ x).take (4 + p.length) = putL p.length 4 ++ p := by
    unfold frameB sealB
    rw [List.append_assoc, List.take_append_of_le_length (by rw [List.length_append, putL_length]; exact Nat.le_refl _), List.take_of_length_le (by rw [List.length_append, putL_length]; exact Nat.le_refl _)]
  have ht2 : (frameB p ++ x).take (p.length + 12) = frameB p := by
    rw [List.take_append_of_le_length (by omega), List.take_of_length_le (by omega)]
  unfold nextL
  rw [hn, ht, ht2, if_pos ⟨by rw [List.length_append]; omega, h, by rw [List.length_append]; omega, rfl⟩]
  congr 1
  have : ((frameB p ++ x).take (4 + p.length)).drop 4 = p := by rw [ht, List.drop_append_of_le_length (by rw [putL_length]; exact Nat.le_refl _), List.drop_of_length_le (by rw [putL_length]; exact Nat.le_refl _)]; rfl
  rw [List.drop_take, show 4 + p.length - 4 = p.length by omega] at this
  exact this
theorem head_of {b x y : List UInt8} (h1 : (x ++ y).length ≤ b.length) (h2 : b.take (x ++ y).length = x ++ y) : b = x ++ b.drop x.length := by
  have h5 := congrArg (List.take x.length) h2
  rw [List.take_take, Nat.min_eq_left (by rw [List.length_append]; omega), List.take_append_of_le_length (Nat.le_refl _), List.take_of_length_le (Nat.le_refl _)] at h5
  have := List.take_append_drop x.length b
  rw [h5] at this
  exact this.symm
/-- All frames of some payloads. -/
def framesB (ps : List (List UInt8)) : List UInt8 := (ps.map frameB).flatten
theorem framesB_snoc (ps : List (List UInt8)) (p : List UInt8) : framesB (ps ++ [p]) = framesB ps ++ frameB p := by simp [framesB]
theorem framesB_cons (ps : List (List UInt8)) (p : List UInt8) : framesB (p :: ps) = frameB p ++ framesB ps := by simp [framesB]
theorem framesB_append (ps qs : List (List UInt8)) : framesB (ps ++ qs) = framesB ps ++ framesB qs := by simp [framesB]
/-- The frames at the beginning are those of ps; used bytes. -/
def IsAll (b : List UInt8) (ps : List (List UInt8)) : Prop := (framesB ps).length ≤ b.length ∧ b.take (framesB ps).length = framesB ps ∧ nextL (b.drop (framesB ps).length) = none ∧ ∀ p ∈ ps, p.length ≤ 65536
theorem isAll_uniq : ∀ {ps qs : List (List UInt8)} {b : List UInt8}, IsAll b ps → IsAll b qs → ps = qs
  | [], [], _, _, _ => rfl
  | [], q :: qs, b, hp, hq => by
    obtain ⟨h1, h2, h3, h4⟩ := hq
    rw [framesB_cons] at h1 h2
    have := head_of h1 h2
    have hn : nextL b = none := hp.2.2.1
    rw [this, nextL_frame q _ (h4 q List.mem_cons_self)] at hn
    cases hn
  | p :: ps, [], b, hp, hq => by
    obtain ⟨h1, h2, h3, h4⟩ := hp
    rw [framesB_cons] at h1 h2
    have := head_of h1 h2
    have hn : nextL b = none := hq.2.2.1
    rw [this, nextL_frame p _ (h4 p List.mem_cons_self)] at hn
    cases hn
  | p :: ps, q :: qs, b, hp, hq => by
    have key : ∀ {p ps b}, IsAll b (p :: ps) → b = frameB p ++ b.drop (frameB p).length ∧ IsAll (b.drop (frameB p).length) ps := by
      intro p ps b hp
      obtain ⟨h1, h2, h3, h4⟩ := hp
      rw [framesB_cons] at h1 h2 h3
      have h5 := head_of h1 h2
      refine ⟨h5, ?_, ?_, ?_, fun x hx => h4 x (List.mem_cons_of_mem _ hx)⟩
      · rw [List.length_append] at h1; rw [List.length_drop]; omega
      · have := congrArg (List.drop (frameB p).length) h2
        rw [List.drop_take, List.length_append, List.drop_append_of_le_length (Nat.le_refl _), List.drop_of_length_le (Nat.le_refl _), List.nil_append] at this
        rwa [Nat.add_sub_cancel_left] at this
      · rw [List.length_append] at h3
        rw [List.drop_drop]; exact h3
    obtain ⟨e1, i1⟩ := key hp
    obtain ⟨e2, i2⟩ := key hq
    have h1 : nextL b = some p := by rw [e1]; exact nextL_frame p _ (hp.2.2.2 p List.mem_cons_self)
    have h2 : nextL b = some q := by rw [e2]; exact nextL_frame q _ (hq.2.2.2 q List.mem_cons_self)
    have hpq : p = q := Option.some.inj (h1.symm.trans h2)
    subst hpq
    rw [isAll_uniq i1 i2]
theorem drop_nextL {b : List UInt8} {ps : List (List UInt8)} {p : List UInt8} (h1 : (framesB ps).length ≤ b.length) (h2 : b.take (framesB ps).length = framesB ps) (h : nextL (b.drop (framesB ps).length) = some p) :
    (framesB (ps ++ [p])).length ≤ b.length ∧ b.take (framesB (ps ++ [p])).length = framesB (ps ++ [p]) ∧ p.length ≤ 65536 := by
  obtain ⟨h3, h4, h5⟩ := nextL_some h
  rw [framesB_snoc, List.length_append, frameB_length]
  rw [List.length_drop] at h4
  refine ⟨by omega, ?_, h3⟩
  rw [List.take_add, h2, h5]
end Go.Proofs.Ytnfeibbnjdegfaa
