/- The engine of this claim's walks: a weakest-precondition calculus over frames that are functions from slots to values, on top of the kit's own rules for code and calls. No program in sight. -/
import Derived.WalkKit
import Derived.Deep.Quiet
namespace Go.Proofs.Ythhphmbhlddihaa
open Go Go.RowKit
set_option linter.unusedVariables false

/-- What is left of a goal, hidden from 'assumption'. -/
structure Held (p : Prop) : Prop where
  out : p
/-- A frame: what each slot holds. -/
def upd (e : Nat → Value) (d : Nat) (v : Value) : Nat → Value := fun i => bif Nat.beq i d then v else e i
def env0 : List Value → Nat → Nat → Value
  | [], _ => fun _ => undef
  | v :: l, k => upd (env0 l (k + 1)) k v
def ev (e : Nat → Value) : Operand → Value
  | .tmp t => e t
  | .const v => v
  | .global g => .pointer (some ⟨g, 0, none⟩)
  | .func f => .func (.func f) #[] #[]
def put (e : Nat → Value) (d : Option Tmp) (v : Value) : Nat → Value :=
  match d with
  | some d => upd e d v
  | none => e

theorem upd_same (e : Nat → Value) (d : Nat) (v : Value) : upd e d v d = v := by simp [upd]
theorem upd_ne {d i : Nat} (e : Nat → Value) (v : Value) (h : i ≠ d) : upd e d v i = e i := by
  have : Nat.beq i d = false := by
    cases hb : Nat.beq i d with
    | false => rfl
    | true => exact absurd (Nat.eq_of_beq_eq_true hb) h
  simp [upd, this]
theorem upd_self {e : Nat → Value} {d : Nat} {v : Value} (h : e d = v) : e = upd e d v := by
  funext i
  by_cases hi : i = d
  · subst hi; rw [upd_same, h]
  · rw [upd_ne _ _ hi]

/-- The frame 'e' is what the machine's frame of 'n' slots holds. -/
structure St (n : Nat) (a : Act) (e : Nat → Value) : Prop where
  size : a.tmps.size = n
  def_ : a.defers = []
  at_ : ∀ i, a.tmps.getD i undef = e i

theorem St.ev {n : Nat} {a : Act} {e : Nat → Value} (h : St n a e) : a.eval = ev e := by
  funext x
  cases x <;> simp only [Act.eval, Proofs.Ythhphmbhlddihaa.ev]
  exact h.at_ _
theorem St.put {n : Nat} {a : Act} {e : Nat → Value} (h : St n a e) {d : Option Tmp} (hd : ∀ k, d = some k → k < n) (v : Value) : St n (a.put d v) (put e d v) := by
  cases d with
  | none => exact h
  | some d =>
    have hlt : d < n := hd d rfl
    refine ⟨by simp [Act.put, h.size], by simp [Act.put, h.def_], fun i => ?_⟩
    simp only [Act.put, Proofs.Ythhphmbhlddihaa.put]
    by_cases hi : i = d
    · subst hi
      rw [upd_same, Array.getD_eq_getD_getElem?, Array.getElem?_setIfInBounds]
      simp [h.size, hlt]
    · rw [upd_ne _ _ hi, ← h.at_ i, Array.getD_eq_getD_getElem?, Array.getD_eq_getD_getElem?, Array.getElem?_setIfInBounds]
      simp [Ne.symm hi]

/-- What a guard sees. -/
def yieldsE (ops : Array Oper) (e : Nat → Value) (j : Nat) : Option Bool :=
  match (ops[j]?).bind (·.dst) with
  | some d => match e d with
    | .bool b => some b
    | _ => none
  | none => none
def wantedE (ops : Array Oper) (e : Nat → Value) (o : Oper) : Bool :=
  match o.guard with
  | none => true
  | some (j, want) => yieldsE ops e j == some want
theorem yielded_eq {n : Nat} {a : Act} {e : Nat → Value} (h : St n a e) {ops : Array Oper} (j : Nat) : yielded ops a.tmps j = yieldsE ops e j := by
  unfold yielded yieldsE
  cases hd : (ops[j]?).bind (·.dst) with
  | none => simp
  | some d =>
    simp only [Option.bind_some]
    rw [← h.at_ d, Array.getD_eq_getD_getElem?]
    cases hx : a.tmps[d]? with
    | none => simp [undef]
    | some x => cases x <;> simp
theorem wanted_eq {n : Nat} {a : Act} {e : Nat → Value} (h : St n a e) {ops : Array Oper} (o : Oper) : Region.wanted o (yielded ops a.tmps) = wantedE ops e o := by
  unfold Region.wanted wantedE
  cases o.guard with
  | none => rfl
  | some g => obtain ⟨j, want⟩ := g; simp only [yielded_eq h]

/-- One operation. -/
def opUpon (P : Program) (w0 : World) (K : Value → World → Prop) : Result Next → Prop
  | .ok (.value v) w => K v w
  | .ok .skip w => K undef w
  | .ok (.enter f args) w => w = w0 ∧ Calls P f args w fun en w' => ∃ v, en = .returned v ∧ K v w'
  | _ => False
def opW (P : Program) (o : Oper) (e : Nat → Value) (w : World) (K : Value → World → Prop) : Prop := opUpon P w K ((execOp (ev e) o).run P w)

/-- A list of operations, in their order. -/
def OW (P : Program) (ops : Array Oper) (Q : Exit → (Nat → Value) → World → Prop) : List Oper → (Nat → Value) → World → Prop
  | [], e, w => Q .normal e w
  | o :: rest, e, w => if wantedE ops e o then opW P o e w (fun v w' => OW P ops Q rest (put e o.dst v) w') else OW P ops Q rest (put e o.dst undef) w

/-- A post on frames as one on the machine's. -/
def QA (n : Nat) (Q : Exit → (Nat → Value) → World → Prop) : Exit → Act → World → Prop := fun x a w => ∃ e, St n a e ∧ Q x e w

theorem Oper.wp_of_opW {P : Program} {o : Oper} {a : Act} {n : Nat} {e : Nat → Value} {w : World} (hs : St n a e) {K : Value → World → Prop} {next : Act → World → Prop} {Q : Exit → Act → World → Prop}
    (h : opW P o e w K) (hk : ∀ v w', K v w' → next (a.put o.dst v) w') : o.wp P a w next Q := by
  unfold Oper.wp
  rw [hs.ev]
  unfold opW at h
  generalize (execOp (ev e) o).run P w = r at *
  cases r with
  | ok x w' =>
    cases x <;> simp only [opUpon] at h <;> simp only [Oper.upon]
    case value v => exact hk _ _ h
    case skip => exact hk _ _ h
    case enter f args =>
      refine h.2.mono fun en w'' hh => ?_
      obtain ⟨v, rfl, hv⟩ := hh
      exact hk _ _ hv
  | halt x w' => simp only [opUpon] at h

def dstsIn (n : Nat) (l : List Oper) : Bool := l.all fun o => match o.dst with | some d => decide (d < n) | none => true
theorem dstsIn_cons {n : Nat} {o : Oper} {l : List Oper} (h : dstsIn n (o :: l) = true) : (∀ k, o.dst = some k → k < n) ∧ dstsIn n l = true := by
  simp only [dstsIn, List.all_cons, Bool.and_eq_true] at h
  refine ⟨fun k hk => ?_, h.2⟩
  have := h.1
  rw [hk] at this
  simpa using this

theorem wpList_of_OW {P : Program} {ops : Array Oper} {n : Nat} {Q : Exit → (Nat → Value) → World → Prop} : ∀ (l : List Oper) {a : Act} {e : Nat → Value} {w : World},
    dstsIn n l = true → St n a e → OW P ops Q l e w → wpList P ops (QA n Q) l a w
  | [], _, e, _, _, hs, h => ⟨e, hs, h⟩
  | o :: l, a, e, w, hd, hs, h => by
    obtain ⟨hd0, hd1⟩ := dstsIn_cons hd
    refine wpList_step fun K hK => ?_
    rw [wanted_eq hs]
    unfold OW at h
    split
    · rename_i hw
      rw [if_pos hw] at h
      exact Oper.wp_of_opW hs h fun v w' hv => hK _ _ (wpList_of_OW l hd1 (hs.put hd0 v) hv)
    · rename_i hw
      rw [if_neg hw] at h
      exact hK _ _ (wpList_of_OW l hd1 (hs.put hd0 undef) h)

/-- Code. -/
def CW (P : Program) (n : Nat) (c : Code) (Q : Exit → (Nat → Value) → World → Prop) (e : Nat → Value) (w : World) : Prop := ∀ a, St n a e → c.wp P (QA n Q) a w

/-- What stands behind. -/
def thenE (next : (Nat → Value) → World → Prop) (Q : Exit → (Nat → Value) → World → Prop) : Exit → (Nat → Value) → World → Prop
  | .normal, e, w => next e w
  | x, e, w => Q x e w
def inBlockE (id : Nat) (Q : Exit → (Nat → Value) → World → Prop) : Exit → (Nat → Value) → World → Prop
  | .exit id', e, w => if id' = id then Q .normal e w else Q (.exit id') e w
  | x, e, w => Q x e w

section
variable {P : Program} {n : Nat} {Q : Exit → (Nat → Value) → World → Prop} {e : Nat → Value} {w : World}
theorem CW.mono {c : Code} {Q' : Exit → (Nat → Value) → World → Prop} (h : CW P n c Q e w) (hq : ∀ x e w, Q x e w → Q' x e w) : CW P n c Q' e w :=
  fun a hs => wp_mono (h a hs) fun x a w ⟨e, hs, hx⟩ => ⟨e, hs, hq _ _ _ hx⟩
theorem CW_seq {x y : Code} (h : CW P n x (thenE (CW P n y Q) Q) e w) : CW P n (.seq x y) Q e w := by
  intro a hs
  refine wp_seq (wp_mono (h a hs) fun x a w hx => ?_)
  obtain ⟨e, hs, hx⟩ := hx
  cases x <;> first | exact hx a hs | exact ⟨e, hs, hx⟩
theorem CW_seq_of {x y : Code} (K : (Nat → Value) → World → Prop) (h : CW P n x (thenE K Q) e w) (hy : ∀ e w, K e w → CW P n y Q e w) : CW P n (.seq x y) Q e w :=
  CW_seq (h.mono fun x e w hx => by cases x <;> first | exact hy _ _ hx | exact hx)
theorem CW_skip (h : Q .normal e w) : CW P n .skip Q e w := fun _ hs => wp_skip ⟨e, hs, h⟩
theorem CW_label {l : Nat} (h : Q .normal e w) : CW P n (.label l) Q e w := fun _ hs => wp_label ⟨e, hs, h⟩
theorem CW_exit {id : Nat} (h : Q (.exit id) e w) : CW P n (.exit id) Q e w := fun _ hs => wp_exit ⟨e, hs, h⟩
theorem CW_ret (h : Q .ret e w) : CW P n .ret Q e w := fun _ hs => wp_ret ⟨e, hs, h⟩
theorem CW_block {id : Nat} {c : Code} (h : CW P n c (inBlockE id Q) e w) : CW P n (.block id c) Q e w := by
  intro a hs
  refine wp_block (wp_mono (h a hs) fun x a w hx => ?_)
  obtain ⟨e, hs, hx⟩ := hx
  cases x with
  | exit id' =>
    simp only [inBlockE] at hx
    simp only [Exit.inBlock]
    split
    · rename_i h; rw [if_pos h] at hx; exact ⟨e, hs, hx⟩
    · rename_i h; rw [if_neg h] at hx; exact ⟨e, hs, hx⟩
  | _ => exact ⟨e, hs, hx⟩
theorem CW_cond {c : Operand} {x y : Code} (b : Bool) (hc : ev e c = .bool b) (ht : b = true → CW P n x Q e w) (hf : b = false → CW P n y Q e w) : CW P n (.cond c x y) Q e w := by
  intro a hs
  refine wp_cond_split (t := b) (by rw [hs.ev]; exact hc) (fun h => ht h a hs) (fun h => hf h a hs)
theorem CW_condT {c : Operand} {x y : Code} (hc : ev e c = .bool true) (h : CW P n x Q e w) : CW P n (.cond c x y) Q e w := CW_cond true hc (fun _ => h) (fun h => by cases h)
theorem CW_condF {c : Operand} {x y : Code} (hc : ev e c = .bool false) (h : CW P n y Q e w) : CW P n (.cond c x y) Q e w := CW_cond false hc (fun h => by cases h) (fun _ => h)
theorem CW_region {id : Nat} {l : List Oper} (hd : dstsIn n l = true) (h : OW P l.toArray Q l e w) : CW P n (.region id l.toArray false) Q e w :=
  fun a hs => wp_region_lit (wpList_of_OW l hd hs h)
/-- A loop: what holds at each round's head, and what each round lowers. -/
theorem CW_loop {c : Code} (I : (Nat → Value) → World → Prop) (μ : (Nat → Value) → World → Nat) (h0 : I e w)
    (round : ∀ e w, I e w → CW P n c (thenE (fun e' w' => I e' w' ∧ μ e' w' < μ e w) Q) e w) : CW P n (.loop c) Q e w := by
  intro a hs
  refine wp_loop (fun a w => ∃ e, St n a e ∧ I e w) (fun a w => μ (fun i => a.tmps.getD i undef) w) ⟨e, hs, h0⟩ fun a w ⟨e, hs, hI⟩ => wp_mono (round e w hI a hs) fun x a' w' hx => ?_
  obtain ⟨e', hs', hx⟩ := hx
  have hfun : ∀ {a : Act} {e : Nat → Value}, St n a e → (fun i => a.tmps.getD i undef) = e := fun h => funext h.at_
  cases x with
  | normal =>
    refine ⟨⟨e', hs', hx.1⟩, ?_⟩
    simp only [hfun hs', hfun hs]
    exact hx.2
  | _ => exact ⟨e', hs', hx⟩
end

section
variable {K : (Nat → Value) → World → Prop} {Q : Exit → (Nat → Value) → World → Prop} {e : Nat → Value} {w : World} {id id' : Nat}
theorem thenE_normal (h : K e w) : thenE K Q .normal e w := h
theorem thenE_ret (h : Q .ret e w) : thenE K Q .ret e w := h
theorem thenE_exit (h : Q (.exit id) e w) : thenE K Q (.exit id) e w := h
theorem inBlockE_normal (h : Q .normal e w) : inBlockE id Q .normal e w := h
theorem inBlockE_ret (h : Q .ret e w) : inBlockE id Q .ret e w := h
theorem inBlockE_same (h : Q .normal e w) : inBlockE id Q (.exit id) e w := by simp only [inBlockE, if_true]; exact h
theorem inBlockE_ne (hne : Nat.beq id' id = false) (h : Q (.exit id') e w) : inBlockE id Q (.exit id') e w := by
  have hx : id' ≠ id := fun hh => by subst hh; rw [Nat.beq_refl] at hne; cases hne
  simp only [inBlockE, if_neg hx]; exact h
end

/-- What a body must achieve. -/
def bodyE (P : Program) (fn : Func) (R : Ending → World → Prop) : Exit → (Nat → Value) → World → Prop
  | .normal, e, w | .ret, e, w => ∃ v, (∀ tmps : Array Value, (∀ i, tmps.getD i undef = e i) → (results fn tmps).run P w = .ok v w) ∧ R (.returned v) w
  | _, _, _ => False

theorem env0_at : ∀ (l : List Value) (k i : Nat), env0 l k i = if i < k then undef else l.getD (i - k) undef
  | [], k, i => by simp [env0]
  | v :: l, k, i => by
    unfold env0
    by_cases h : i = k
    · subst h; rw [upd_same]; simp
    · rw [upd_ne _ _ h, env0_at l (k + 1) i]
      by_cases h1 : i < k
      · rw [if_pos (by omega), if_pos h1]
      · rw [if_neg (by omega), if_neg h1]
        have : i - k = (i - (k + 1)) + 1 := by omega
        rw [this]
        simp
theorem calls_of_CW {P : Program} {f : FuncId} {fn : Func} {c : Code} {args : List Value} {w : World} {R : Ending → World → Prop}
    (hf : P.funcs[f]? = some fn) (hb : fn.body = some c) (hn : args.length ≤ fn.ntmps) (h : CW P fn.ntmps c (bodyE P fn R) (env0 args 0) w) : Calls P f args.toArray w R := by
  refine calls_of_wp hf hb (wp_mono (h _ ⟨by simp; omega, rfl, fun i => ?_⟩) fun x a w hx => ?_)
  · rw [env0_at, if_neg (by omega), Array.getD_eq_getD_getElem?, Array.getElem?_append]
    simp only [List.size_toArray, List.getElem?_toArray, Nat.sub_zero, List.getD_eq_getElem?_getD]
    split
    · rfl
    · rename_i hi
      rw [Array.getElem?_replicate, List.getElem?_eq_none (by omega)]
      split <;> simp
  · obtain ⟨e, hs, hx⟩ := hx
    cases x <;> first
      | exact hx.elim
      | (obtain ⟨v, hv, hR⟩ := hx; exact ⟨hs.def_, v, hv _ hs.at_, hR⟩)
theorem bodyE_ret1 {P : Program} {fn : Func} {R : Ending → World → Prop} {e : Nat → Value} {w : World} {t : Tmp} (hr : fn.results = #[.tmp t]) (v : Value) (hv : e t = v) (hR : R (.returned v) w) : bodyE P fn R .ret e w :=
  ⟨v, fun tmps ht => by rw [results_tmp hr, ht, hv], hR⟩
theorem bodyE_ret2 {P : Program} {fn : Func} {R : Ending → World → Prop} {e : Nat → Value} {w : World} {t u : Tmp} (hr : fn.results = #[.tmp t, .tmp u]) (v v' : Value) (hv : e t = v) (hv' : e u = v') (hR : R (.returned (.tuple #[v, v'])) w) : bodyE P fn R .ret e w :=
  ⟨_, fun tmps ht => by rw [results_tmp2 hr, ht, ht, hv, hv'], hR⟩
theorem bodyE_ret0 {P : Program} {fn : Func} {R : Ending → World → Prop} {e : Nat → Value} {w : World} (hr : fn.results = #[]) (hR : R (.returned (.tuple #[])) w) : bodyE P fn R .ret e w :=
  ⟨_, fun tmps ht => by rw [results_none hr], hR⟩
theorem bodyE_end {P : Program} {fn : Func} {R : Ending → World → Prop} {e : Nat → Value} {w : World} (h : bodyE P fn R .ret e w) : bodyE P fn R .normal e w := h

/-- Values that '==' compares by their type alone. -/
def _root_.Go.Value.plainEq : Value → Bool
  | .bool _ | .slice _ _ _ | .func _ _ _ | .nilFunc => true
  | _ => false
/-! Operations, one lemma a kind. -/
section
variable {P : Program} {ops : Array Oper} {Q : Exit → (Nat → Value) → World → Prop} {rest : List Oper} {e : Nat → Value} {w : World} {d : Tmp} {ty : TypeId} {pos : String} {aft : Array Edge}
theorem OW_nil (h : Q .normal e w) : OW P ops Q [] e w := h
theorem OW_op {o : Oper} (hg : o.guard = none) (h : opW P o e w (fun v w' => OW P ops Q rest (put e o.dst v) w')) : OW P ops Q (o :: rest) e w := by
  unfold OW; rw [if_pos (by simp [wantedE, hg])]; exact h
theorem OW_val {o : Oper} (v : Value) (hg : o.guard = none) (hr : (execOp (ev e) o).run P w = .ok (.value v) w) (h : OW P ops Q rest (put e o.dst v) w) : OW P ops Q (o :: rest) e w :=
  OW_op hg (by unfold opW; rw [hr]; exact h)
theorem OW_valw {o : Oper} (v : Value) (w' : World) (hg : o.guard = none) (hr : (execOp (ev e) o).run P w = .ok (.value v) w') (h : OW P ops Q rest (put e o.dst v) w') : OW P ops Q (o :: rest) e w :=
  OW_op hg (by unfold opW; rw [hr]; exact h)
theorem OW_unit {o : Oper} (w' : World) (hg : o.guard = none) (hd : o.dst = none) (hr : (execOp (ev e) o).run P w = .ok .skip w') (h : OW P ops Q rest e w') : OW P ops Q (o :: rest) e w :=
  OW_op hg (by unfold opW; rw [hr, hd]; exact h)
theorem OW_take {dst : Option Tmp} {op : Op} {g : Nat × Bool} (hw : wantedE ops e ⟨dst, op, ty, pos, aft, some g⟩ = true) (h : OW P ops Q (⟨dst, op, ty, pos, aft, none⟩ :: rest) e w) :
    OW P ops Q (⟨dst, op, ty, pos, aft, some g⟩ :: rest) e w := by
  unfold OW at h ⊢
  rw [if_pos (by rfl)] at h
  rw [if_pos hw]
  exact h
theorem OW_pass {dst : Option Tmp} {op : Op} {g : Nat × Bool} (hw : wantedE ops e ⟨dst, op, ty, pos, aft, some g⟩ = false) (h : OW P ops Q rest (put e dst undef) w) :
    OW P ops Q (⟨dst, op, ty, pos, aft, some g⟩ :: rest) e w := by
  unfold OW
  rw [if_neg (by rw [hw]; simp)]
  exact h
/-- A slot that holds a test: both ways. -/
theorem OW_split {l : List Oper} (s : Nat) (b : Bool) (hs : e s = .bool b) (ht : b = true → OW P ops Q l (upd e s (.bool true)) w) (hf : b = false → OW P ops Q l (upd e s (.bool false)) w) : OW P ops Q l e w := by
  cases b with
  | true => rw [upd_self hs]; exact ht rfl
  | false => rw [upd_self hs]; exact hf rfl

theorem OW_move {x : Operand} (h : OW P ops Q rest (upd e d (ev e x)) w) : OW P ops Q (⟨some d, .move x, ty, pos, aft, none⟩ :: rest) e w := OW_val _ rfl rfl h
theorem OW_assign {x : Operand} (h : OW P ops Q rest (upd e d (ev e x)) w) : OW P ops Q (⟨some d, .assign x, ty, pos, aft, none⟩ :: rest) e w := OW_val _ rfl rfl h
theorem OW_moveV {x : Operand} (v : Value) (hx : ev e x = v) (h : OW P ops Q rest (upd e d v) w) : OW P ops Q (⟨some d, .move x, ty, pos, aft, none⟩ :: rest) e w := by subst hx; exact OW_move h
theorem OW_assignV {x : Operand} (v : Value) (hx : ev e x = v) (h : OW P ops Q rest (upd e d v) w) : OW P ops Q (⟨some d, .assign x, ty, pos, aft, none⟩ :: rest) e w := by subst hx; exact OW_assign h
theorem OW_pickT {c x y : Operand} (hc : ev e c = .bool true) (v : Value) (hx : ev e x = v) (h : OW P ops Q rest (upd e d v) w) : OW P ops Q (⟨some d, .pick c x y, ty, pos, aft, none⟩ :: rest) e w :=
  OW_val _ rfl (by simp only [execOp, hc]; rfl) (by subst hx; exact h)
theorem OW_pickF {c x y : Operand} (hc : ev e c = .bool false) (v : Value) (hy : ev e y = v) (h : OW P ops Q rest (upd e d v) w) : OW P ops Q (⟨some d, .pick c x y, ty, pos, aft, none⟩ :: rest) e w :=
  OW_val _ rfl (by simp only [execOp, hc]; rfl) (by subst hy; exact h)
theorem OW_pickB {c x y : Operand} {b r s : Bool} (hc : ev e c = .bool b) (hx : ev e x = .bool r) (hy : ev e y = .bool s) (h : OW P ops Q rest (upd e d (.bool (bif b then r else s))) w) : OW P ops Q (⟨some d, .pick c x y, ty, pos, aft, none⟩ :: rest) e w :=
  OW_val _ rfl (by simp only [execOp, hc]; rfl) (by cases b <;> simp only [hx, hy] <;> exact h)
theorem OW_pick {c x y : Operand} {b : Bool} (hc : ev e c = .bool b) (h : OW P ops Q rest (upd e d (if b then ev e x else ev e y)) w) : OW P ops Q (⟨some d, .pick c x y, ty, pos, aft, none⟩ :: rest) e w :=
  OW_val _ rfl (by simp only [execOp, hc]; rfl) h
section
variable {x y : Operand} {t t' : TypeId} {k : IntKind} {a b : Int}
theorem OW_add (hx : ev e x = .int k a) (hy : ev e y = .int k b) (h : OW P ops Q rest (upd e d (.int k (k.wrap (a + b)))) w) : OW P ops Q (⟨some d, .binOp .add t x y t', ty, pos, aft, none⟩ :: rest) e w :=
  OW_val _ rfl (by simp only [execOp, hx, hy, eqGuard, binOp]; cases k <;> rfl) h
theorem OW_sub (hx : ev e x = .int k a) (hy : ev e y = .int k b) (h : OW P ops Q rest (upd e d (.int k (k.wrap (a - b)))) w) : OW P ops Q (⟨some d, .binOp .sub t x y t', ty, pos, aft, none⟩ :: rest) e w :=
  OW_val _ rfl (by simp only [execOp, hx, hy, eqGuard, binOp]; cases k <;> rfl) h
theorem OW_mul (hx : ev e x = .int k a) (hy : ev e y = .int k b) (h : OW P ops Q rest (upd e d (.int k (k.wrap (a * b)))) w) : OW P ops Q (⟨some d, .binOp .mul t x y t', ty, pos, aft, none⟩ :: rest) e w :=
  OW_val _ rfl (by simp only [execOp, hx, hy, eqGuard, binOp]; cases k <;> rfl) h
theorem wrap64_in {n : Int} (h : -9223372036854775808 ≤ n ∧ n ≤ 9223372036854775807) : IntKind.i64.wrap n = n := by rw [IntKind.wrap_i64]; omega
theorem OW_addI (hx : ev e x = .int .i64 a) (hy : ev e y = .int .i64 b) (hb : -9223372036854775808 ≤ a + b ∧ a + b ≤ 9223372036854775807) (h : OW P ops Q rest (upd e d (.int .i64 (a + b))) w) : OW P ops Q (⟨some d, .binOp .add t x y t', ty, pos, aft, none⟩ :: rest) e w :=
  OW_add hx hy (by rw [wrap64_in hb]; exact h)
theorem OW_subI (hx : ev e x = .int .i64 a) (hy : ev e y = .int .i64 b) (hb : -9223372036854775808 ≤ a - b ∧ a - b ≤ 9223372036854775807) (h : OW P ops Q rest (upd e d (.int .i64 (a - b))) w) : OW P ops Q (⟨some d, .binOp .sub t x y t', ty, pos, aft, none⟩ :: rest) e w :=
  OW_sub hx hy (by rw [wrap64_in hb]; exact h)
theorem OW_mulI (hx : ev e x = .int .i64 a) (hy : ev e y = .int .i64 b) (hb : -9223372036854775808 ≤ a * b ∧ a * b ≤ 9223372036854775807) (h : OW P ops Q rest (upd e d (.int .i64 (a * b))) w) : OW P ops Q (⟨some d, .binOp .mul t x y t', ty, pos, aft, none⟩ :: rest) e w :=
  OW_mul hx hy (by rw [wrap64_in hb]; exact h)
theorem OW_lss (hx : ev e x = .int k a) (hy : ev e y = .int k b) (h : OW P ops Q rest (upd e d (.bool (decide (a < b)))) w) : OW P ops Q (⟨some d, .binOp .lss t x y t', ty, pos, aft, none⟩ :: rest) e w :=
  OW_val _ rfl (by simp only [execOp, hx, hy, eqGuard, binOp]; cases k <;> rfl) h
theorem OW_leq (hx : ev e x = .int k a) (hy : ev e y = .int k b) (h : OW P ops Q rest (upd e d (.bool (decide (a ≤ b)))) w) : OW P ops Q (⟨some d, .binOp .leq t x y t', ty, pos, aft, none⟩ :: rest) e w :=
  OW_val _ rfl (by simp only [execOp, hx, hy, eqGuard, binOp]; cases k <;> rfl) h
theorem OW_gtr (hx : ev e x = .int k a) (hy : ev e y = .int k b) (h : OW P ops Q rest (upd e d (.bool (decide (b < a)))) w) : OW P ops Q (⟨some d, .binOp .gtr t x y t', ty, pos, aft, none⟩ :: rest) e w :=
  OW_val _ rfl (by simp only [execOp, hx, hy, eqGuard, binOp]; cases k <;> rfl) h
theorem OW_geq (hx : ev e x = .int k a) (hy : ev e y = .int k b) (h : OW P ops Q rest (upd e d (.bool (decide (b ≤ a)))) w) : OW P ops Q (⟨some d, .binOp .geq t x y t', ty, pos, aft, none⟩ :: rest) e w :=
  OW_val _ rfl (by simp only [execOp, hx, hy, eqGuard, binOp]; cases k <;> rfl) h
theorem OW_eql (hx : ev e x = .int k a) (hy : ev e y = .int k b) (h : OW P ops Q rest (upd e d (.bool (a == b))) w) : OW P ops Q (⟨some d, .binOp .eql t x y t', ty, pos, aft, none⟩ :: rest) e w :=
  OW_val _ rfl (by simp only [execOp, hx, hy, eqGuard, binOp]; cases k <;> rfl) h
theorem OW_neq (hx : ev e x = .int k a) (hy : ev e y = .int k b) (h : OW P ops Q rest (upd e d (.bool (a != b))) w) : OW P ops Q (⟨some d, .binOp .neq t x y t', ty, pos, aft, none⟩ :: rest) e w :=
  OW_val _ rfl (by simp only [execOp, hx, hy, eqGuard, binOp]; cases k <;> rfl) h
theorem run_equal_bool {a b : Bool} (ht : P.underlying t = some .bool) : (Op.equal t (.bool a) (.bool b)).run P w = .ok (a == b) w := by
  have h : ∀ d, (Op.equalIn (d + 1) t (.bool a) (.bool b)).run P w = .ok (a == b) w := fun d => by simp [Op.equalIn, run_underlying ht]
  exact h 9999
theorem run_eql_of {u v : Value} {r : Bool} (hu : u.plainEq = true) (hv : v.plainEq = true) (hr : (Op.equal t u v).run P w = .ok r w) : (do eqGuard .eql t x y u v; binOp .eql t u v : Sem Value).run P w = .ok (.bool r) w := by
  cases u <;> simp [Value.plainEq] at hu <;> cases v <;> simp [Value.plainEq] at hv <;> (show Sem.run P (Op.equal t _ _ >>= fun r => pure (Value.bool r)) w = _; rw [Sem.run_bind, hr]; rfl)
theorem run_neq_of {u v : Value} {r : Bool} (hu : u.plainEq = true) (hv : v.plainEq = true) (hr : (Op.equal t u v).run P w = .ok r w) : (do eqGuard .neq t x y u v; binOp .neq t u v : Sem Value).run P w = .ok (.bool (!r)) w := by
  cases u <;> simp [Value.plainEq] at hu <;> cases v <;> simp [Value.plainEq] at hv <;> (show Sem.run P (Op.equal t _ _ >>= fun r => pure (Value.bool (!r))) w = _; rw [Sem.run_bind, hr]; rfl)
theorem OW_eqlB {a b : Bool} (ht : P.underlying t = some .bool) (hx : ev e x = .bool a) (hy : ev e y = .bool b) (h : OW P ops Q rest (upd e d (.bool (a == b))) w) : OW P ops Q (⟨some d, .binOp .eql t x y t', ty, pos, aft, none⟩ :: rest) e w :=
  OW_val _ rfl (by simp only [execOp, hx, hy, Sem.run_bind, run_eql_of (x := x) (y := y) (u := .bool a) (v := .bool b) rfl rfl (run_equal_bool ht)]; rfl) h
theorem OW_neqB {a b : Bool} (ht : P.underlying t = some .bool) (hx : ev e x = .bool a) (hy : ev e y = .bool b) (h : OW P ops Q rest (upd e d (.bool (!(a == b)))) w) : OW P ops Q (⟨some d, .binOp .neq t x y t', ty, pos, aft, none⟩ :: rest) e w :=
  OW_val _ rfl (by simp only [execOp, hx, hy, Sem.run_bind, run_neq_of (x := x) (y := y) (u := .bool a) (v := .bool b) rfl rfl (run_equal_bool ht)]; rfl) h
theorem OW_quo (hx : ev e x = .int k a) (hy : ev e y = .int k b) (hb : b ≠ 0) (h : OW P ops Q rest (upd e d (.int k (k.wrap (a.tdiv b)))) w) : OW P ops Q (⟨some d, .binOp .quo t x y t', ty, pos, aft, none⟩ :: rest) e w :=
  OW_val _ rfl (by simp only [execOp, hx, hy, eqGuard, binOp, Op.intDiv, if_neg hb]; cases k <;> rfl) h
theorem OW_rem (hx : ev e x = .int k a) (hy : ev e y = .int k b) (hb : b ≠ 0) (h : OW P ops Q rest (upd e d (.int k (a.tmod b))) w) : OW P ops Q (⟨some d, .binOp .rem t x y t', ty, pos, aft, none⟩ :: rest) e w :=
  OW_val _ rfl (by simp only [execOp, hx, hy, eqGuard, binOp, Op.intDiv, if_neg hb]; cases k <;> rfl) h
def bitsK (op : BinOp) (k : IntKind) (a b : Int) : Int :=
  match op with
  | .and => k.wrap (BitVec.ofInt k.bits a &&& BitVec.ofInt k.bits b).toNat
  | .or => k.wrap (BitVec.ofInt k.bits a ||| BitVec.ofInt k.bits b).toNat
  | .xor => k.wrap (BitVec.ofInt k.bits a ^^^ BitVec.ofInt k.bits b).toNat
  | _ => k.wrap (BitVec.ofInt k.bits a &&& ~~~ BitVec.ofInt k.bits b).toNat
theorem OW_and (hx : ev e x = .int k a) (hy : ev e y = .int k b) (v : Int) (hv : bitsK .and k a b = v) (h : OW P ops Q rest (upd e d (.int k v)) w) : OW P ops Q (⟨some d, .binOp .and t x y t', ty, pos, aft, none⟩ :: rest) e w := by
  subst hv
  exact OW_val (.int k (bitsK .and k a b)) rfl (by simp only [execOp, hx, hy, eqGuard, binOp]; cases k <;> rfl) h
theorem OW_or (hx : ev e x = .int k a) (hy : ev e y = .int k b) (v : Int) (hv : bitsK .or k a b = v) (h : OW P ops Q rest (upd e d (.int k v)) w) : OW P ops Q (⟨some d, .binOp .or t x y t', ty, pos, aft, none⟩ :: rest) e w := by
  subst hv
  exact OW_val (.int k (bitsK .or k a b)) rfl (by simp only [execOp, hx, hy, eqGuard, binOp]; cases k <;> rfl) h
theorem OW_xor (hx : ev e x = .int k a) (hy : ev e y = .int k b) (v : Int) (hv : bitsK .xor k a b = v) (h : OW P ops Q rest (upd e d (.int k v)) w) : OW P ops Q (⟨some d, .binOp .xor t x y t', ty, pos, aft, none⟩ :: rest) e w := by
  subst hv
  exact OW_val (.int k (bitsK .xor k a b)) rfl (by simp only [execOp, hx, hy, eqGuard, binOp]; cases k <;> rfl) h
theorem OW_andNot (hx : ev e x = .int k a) (hy : ev e y = .int k b) (v : Int) (hv : bitsK .andNot k a b = v) (h : OW P ops Q rest (upd e d (.int k v)) w) : OW P ops Q (⟨some d, .binOp .andNot t x y t', ty, pos, aft, none⟩ :: rest) e w := by
  subst hv
  exact OW_val (.int k (bitsK .andNot k a b)) rfl (by simp only [execOp, hx, hy, eqGuard, binOp]; cases k <;> rfl) h
theorem OW_shl {ky : IntKind} (hx : ev e x = .int k a) (hy : ev e y = .int ky b) (hb : 0 ≤ b) (v : Int) (hv : k.wrap (a * 2 ^ (min b.toNat k.bits)) = v) (h : OW P ops Q rest (upd e d (.int k v)) w) : OW P ops Q (⟨some d, .binOp .shl t x y t', ty, pos, aft, none⟩ :: rest) e w :=
  OW_val _ rfl (by simp only [execOp, hx, hy, eqGuard, binOp, Op.shift, if_neg (show ¬ b < 0 by omega)]; rfl) (by rw [hv]; exact h)
theorem OW_shr {ky : IntKind} (hx : ev e x = .int k a) (hy : ev e y = .int ky b) (hb : 0 ≤ b) (v : Int) (hv : a.fdiv (2 ^ (min b.toNat k.bits)) = v) (h : OW P ops Q rest (upd e d (.int k v)) w) : OW P ops Q (⟨some d, .binOp .shr t x y t', ty, pos, aft, none⟩ :: rest) e w :=
  OW_val _ rfl (by simp only [execOp, hx, hy, eqGuard, binOp, Op.shift, if_neg (show ¬ b < 0 by omega)]; rfl) (by rw [hv]; exact h)
theorem OW_not {a : Bool} (hx : ev e x = .bool a) (h : OW P ops Q rest (upd e d (.bool (!a))) w) : OW P ops Q (⟨some d, .unOp .not t x, ty, pos, aft, none⟩ :: rest) e w :=
  OW_val _ rfl (by simp only [execOp, hx]; rfl) h
theorem OW_neg (hx : ev e x = .int k a) (h : OW P ops Q rest (upd e d (.int k (k.wrap (0 - a)))) w) : OW P ops Q (⟨some d, .unOp .neg t x, ty, pos, aft, none⟩ :: rest) e w :=
  OW_val _ rfl (by simp only [execOp, hx]; rfl) h
theorem OW_convInt {s : TypeDesc} (hs : P.underlying t = some s) (ht : P.underlying t' = some (.int k)) {k' : IntKind} (hx : ev e x = .int k' a) (h : OW P ops Q rest (upd e d (.int k (k.wrap a))) w) : OW P ops Q (⟨some d, .convert t t' x, ty, pos, aft, none⟩ :: rest) e w :=
  OW_val _ rfl (by simp only [execOp, hx, convert]; simp [run_underlying hs, run_underlying ht, Conv.intToInt]) h
end
theorem OW_extract {x : Operand} {i : Nat} {vs : Array Value} {v : Value} (hx : ev e x = .tuple vs) (hv : vs[i]? = some v) (h : OW P ops Q rest (upd e d v) w) : OW P ops Q (⟨some d, .extract x i, ty, pos, aft, none⟩ :: rest) e w :=
  OW_val _ rfl (by simp only [execOp, hx, Instr.extract, hv]; rfl) h
theorem OW_call {f : FuncId} {fn : Func} {args : Array Operand} {tys : Array TypeId} {dst : Option Tmp} (hf : P.funcs[f]? = some fn) (hn : (fn.name == "runtime.NumGoroutine") = false) (hb : fn.body.isNone = false)
    (h : Calls P f (args.map (ev e)) w fun en w' => ∃ v, en = .returned v ∧ OW P ops Q rest (put e dst v) w') : OW P ops Q (⟨dst, .call { callee := .value (.func f), args := args, argTypes := tys }, ty, pos, aft, none⟩ :: rest) e w := by
  refine OW_op rfl ?_
  unfold opW
  have : (execOp (ev e) ⟨dst, .call { callee := .value (.func f), args := args, argTypes := tys }, ty, pos, aft, none⟩).run P w = .ok (.enter f (args.map (ev e))) w := by
    have h1 : (callFunc f (args.map (ev e))).run P w = .ok (.enter f (args.map (ev e))) w := by
      simp only [callFunc, program]
      show Sem.run P (match P.funcs[f]? with | none => _ | some fn => _) w = _
      simp only [hf, hn, hb]
      rfl
    simpa [execOp, resolve, ev, Deferred.ofValue, invoke] using h1
  rw [this]
  exact ⟨rfl, h⟩
/-- A call by its contract. -/
theorem OW_callC {f : FuncId} {fn : Func} {args : List Operand} {args' : List Value} {tys : Array TypeId} {dst : Option Tmp} {R : Ending → World → Prop} (hf : P.funcs[f]? = some fn) (hn : (fn.name == "runtime.NumGoroutine") = false) (hb : fn.body.isNone = false)
    (hc : Calls P f args'.toArray w R) (ha : args.map (ev e) = args') (h : ∀ en w', R en w' → ∃ v, en = .returned v ∧ OW P ops Q rest (put e dst v) w') :
    OW P ops Q (⟨dst, .call { callee := .value (.func f), args := args.toArray, argTypes := tys }, ty, pos, aft, none⟩ :: rest) e w := by
  refine OW_call hf hn hb ?_
  rw [List.map_toArray, ha]
  exact hc.mono h
/-- .. that hands back one plain value. -/
theorem OW_callV {f : FuncId} {fn : Func} {args : List Operand} {args' : List Value} {tys : Array TypeId} {v : Value} {C : World → World → Prop} (hf : P.funcs[f]? = some fn) (hn : (fn.name == "runtime.NumGoroutine") = false) (hb : fn.body.isNone = false)
    (hc : Calls P f args'.toArray w (fun en w' => en = .returned v ∧ C w w')) (ha : args.map (ev e) = args') (h : ∀ w', C w w' → OW P ops Q rest (upd e d v) w') :
    OW P ops Q (⟨some d, .call { callee := .value (.func f), args := args.toArray, argTypes := tys }, ty, pos, aft, none⟩ :: rest) e w :=
  OW_callC hf hn hb hc ha fun en w' hh => ⟨v, hh.1, h w' hh.2⟩
theorem OW_lenS {x : Operand} {t : TypeId} {el : TypeId} {A : Option Addr} {n c : Nat} (ht : P.underlying t = some (.slice el)) (hx : ev e x = .slice A n c) (h : OW P ops Q rest (upd e d (.int .i64 n)) w) :
    OW P ops Q (⟨some d, .call { callee := .builtin .len, args := #[x], argTypes := #[t] }, ty, pos, aft, none⟩ :: rest) e w :=
  OW_val _ rfl (by simp [execOp, resolve, invoke, builtin, hx, Builtin.len_, run_underlying ht, goInt]) h
theorem OW_lenT {x : Operand} {t : TypeId} {s : ByteArray} (ht : P.underlying t = some .string) (hx : ev e x = .string s) (h : OW P ops Q rest (upd e d (.int .i64 s.size)) w) :
    OW P ops Q (⟨some d, .call { callee := .builtin .len, args := #[x], argTypes := #[t] }, ty, pos, aft, none⟩ :: rest) e w :=
  OW_val _ rfl (by simp [execOp, resolve, invoke, builtin, hx, Builtin.len_, run_underlying ht, goInt]) h
theorem OW_min2 {x y : Operand} {tys : Array TypeId} {a b : Int} {k : IntKind} (hx : ev e x = .int k a) (hy : ev e y = .int k b) (h : OW P ops Q rest (upd e d (.int k (if b < a then b else a))) w) :
    OW P ops Q (⟨some d, .call { callee := .builtin .min, args := #[x, y], argTypes := tys }, ty, pos, aft, none⟩ :: rest) e w :=
  OW_val _ rfl (by simp [execOp, resolve, invoke, builtin, hx, hy, Builtin.min_, Builtin.min2]) h
theorem OW_max2 {x y : Operand} {tys : Array TypeId} {a b : Int} {k : IntKind} (hx : ev e x = .int k a) (hy : ev e y = .int k b) (h : OW P ops Q rest (upd e d (.int k (if a < b then b else a))) w) :
    OW P ops Q (⟨some d, .call { callee := .builtin .max, args := #[x, y], argTypes := tys }, ty, pos, aft, none⟩ :: rest) e w :=
  OW_val _ rfl (by simp [execOp, resolve, invoke, builtin, hx, hy, Builtin.max_, Builtin.max2]) h
end
attribute [irreducible] OW CW opW thenE inBlockE bodyE
end Go.Proofs.Ythhphmbhlddihaa
