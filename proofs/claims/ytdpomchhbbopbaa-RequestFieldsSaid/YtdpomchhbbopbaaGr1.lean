/- Several texts in one, as they stand in wip/src. -/
import Derived.WalkKit
import Derived.Deep.Quiet
import Derived.Laws.OwnMore
import Derived.Maps.AppendAt
import Derived.Deep.AppendLies
import Derived.OwnWalk
/- The engine of this claim's walks: a weakest-precondition calculus over frames that are functions from slots to values, on top of the kit's own rules for code and calls. No program in sight. -/
namespace Go.Proofs.Ytdpomchhbbopbaa
open Go Go.RowKit
set_option linter.unusedVariables false

/-- What is left of a goal, hidden from 'assumption'. -/
structure Held (p : Prop) : Prop where
  out : p
/-- A frame: what each slot holds. -/
def upd (e : Nat → Value) (d : Nat) (v : Value) : Nat → Value := fun i => bif Nat.beq i d then v else e i
def env0 : List Value → Nat → Nat → Value
  | [], _ => fun _ => undef
  | v :: l, k => upd (env0 l (k + 1)) k v
def ev (e : Nat → Value) : Operand → Value
  | .tmp t => e t
  | .const v => v
  | .global g => .pointer (some ⟨g, 0, none⟩)
  | .func f => .func (.func f) #[] #[]
def put (e : Nat → Value) (d : Option Tmp) (v : Value) : Nat → Value :=
  match d with
  | some d => upd e d v
  | none => e

theorem upd_same (e : Nat → Value) (d : Nat) (v : Value) : upd e d v d = v := by simp [upd]
theorem upd_ne {d i : Nat} (e : Nat → Value) (v : Value) (h : i ≠ d) : upd e d v i = e i := by
  have : Nat.beq i d = false := by
    cases hb : Nat.beq i d with
    | false => rfl
    | true => exact absurd (Nat.eq_of_beq_eq_true hb) h
  simp [upd, this]
theorem upd_self {e : Nat → Value} {d : Nat} {v : Value} (h : e d = v) : e = upd e d v := by
  funext i
  by_cases hi : i = d
  · subst hi; rw [upd_same, h]
  · rw [upd_ne _ _ hi]

/-- The frame 'e' is what the machine's frame of 'n' slots holds. -/
structure St (n : Nat) (a : Act) (e : Nat → Value) : Prop where
  size : a.tmps.size = n
  def_ : a.defers = []
  at_ : ∀ i, a.tmps.getD i undef = e i

theorem St.ev {n : Nat} {a : Act} {e : Nat → Value} (h : St n a e) : a.eval = ev e := by
  funext x
  cases x <;> simp only [Act.eval, Proofs.Ytdpomchhbbopbaa.ev]
  exact h.at_ _
theorem St.put {n : Nat} {a : Act} {e : Nat → Value} (h : St n a e) {d : Option Tmp} (hd : ∀ k, d = some k → k < n) (v : Value) : St n (a.put d v) (put e d v) := by
  cases d with
  | none => exact h
  | some d =>
    have hlt : d < n := hd d rfl
    refine ⟨by simp [Act.put, h.size], by simp [Act.put, h.def_], fun i => ?_⟩
    simp only [Act.put, Proofs.Ytdpomchhbbopbaa.put]
    by_cases hi : i = d
    · subst hi
      rw [upd_same, Array.getD_eq_getD_getElem?, Array.getElem?_setIfInBounds]
      simp [h.size, hlt]
    · rw [upd_ne _ _ hi, ← h.at_ i, Array.getD_eq_getD_getElem?, Array.getD_eq_getD_getElem?, Array.getElem?_setIfInBounds]
      simp [Ne.symm hi]

/-- What a guard sees. -/
def yieldsE (ops : Array Oper) (e : Nat → Value) (j : Nat) : Option Bool :=
  match (ops[j]?).bind (·.dst) with
  | some d => match e d with
    | .bool b => some b
    | _ => none
  | none => none
def wantedE (ops : Array Oper) (e : Nat → Value) (o : Oper) : Bool :=
  match o.guard with
  | none => true
  | some (j, want) => yieldsE ops e j == some want
theorem yielded_eq {n : Nat} {a : Act} {e : Nat → Value} (h : St n a e) {ops : Array Oper} (j : Nat) : yielded ops a.tmps j = yieldsE ops e j := by
  unfold yielded yieldsE
  cases hd : (ops[j]?).bind (·.dst) with
  | none => simp
  | some d =>
    simp only [Option.bind_some]
    rw [← h.at_ d, Array.getD_eq_getD_getElem?]
    cases hx : a.tmps[d]? with
    | none => simp [undef]
    | some x => cases x <;> simp
theorem wanted_eq {n : Nat} {a : Act} {e : Nat → Value} (h : St n a e) {ops : Array Oper} (o : Oper) : Region.wanted o (yielded ops a.tmps) = wantedE ops e o := by
  unfold Region.wanted wantedE
  cases o.guard with
  | none => rfl
  | some g => obtain ⟨j, want⟩ := g; simp only [yielded_eq h]

/-- One operation. -/
def opUpon (P : Program) (w0 : World) (K : Value → World → Prop) : Result Next → Prop
  | .ok (.value v) w => K v w
  | .ok .skip w => K undef w
  | .ok (.enter f args) w => w = w0 ∧ Calls P f args w fun en w' => ∃ v, en = .returned v ∧ K v w'
  | _ => False
def opW (P : Program) (o : Oper) (e : Nat → Value) (w : World) (K : Value → World → Prop) : Prop := opUpon P w K ((execOp (ev e) o).run P w)

/-- A list of operations, in their order. -/
def OW (P : Program) (ops : Array Oper) (Q : Exit → (Nat → Value) → World → Prop) : List Oper → (Nat → Value) → World → Prop
  | [], e, w => Q .normal e w
  | o :: rest, e, w => if wantedE ops e o then opW P o e w (fun v w' => OW P ops Q rest (put e o.dst v) w') else OW P ops Q rest (put e o.dst undef) w

/-- A post on frames as one on the machine's. -/
def QA (n : Nat) (Q : Exit → (Nat → Value) → World → Prop) : Exit → Act → World → Prop := fun x a w => ∃ e, St n a e ∧ Q x e w

theorem Oper.wp_of_opW {P : Program} {o : Oper} {a : Act} {n : Nat} {e : Nat → Value} {w : World} (hs : St n a e) {K : Value → World → Prop} {next : Act → World → Prop} {Q : Exit → Act → World → Prop}
    (h : opW P o e w K) (hk : ∀ v w', K v w' → next (a.put o.dst v) w') : o.wp P a w next Q := by
  unfold Oper.wp
  rw [hs.ev]
  unfold opW at h
  generalize (execOp (ev e) o).run P w = r at *
  cases r with
  | ok x w' =>
    cases x <;> simp only [opUpon] at h <;> simp only [Oper.upon]
    case value v => exact hk _ _ h
    case skip => exact hk _ _ h
    case enter f args =>
      refine h.2.mono fun en w'' hh => ?_
      obtain ⟨v, rfl, hv⟩ := hh
      exact hk _ _ hv
  | halt x w' => simp only [opUpon] at h

def dstsIn (n : Nat) (l : List Oper) : Bool := l.all fun o => match o.dst with | some d => decide (d < n) | none => true
theorem dstsIn_cons {n : Nat} {o : Oper} {l : List Oper} (h : dstsIn n (o :: l) = true) : (∀ k, o.dst = some k → k < n) ∧ dstsIn n l = true := by
  simp only [dstsIn, List.all_cons, Bool.and_eq_true] at h
  refine ⟨fun k hk => ?_, h.2⟩
  have := h.1
  rw [hk] at this
  simpa using this

theorem wpList_of_OW {P : Program} {ops : Array Oper} {n : Nat} {Q : Exit → (Nat → Value) → World → Prop} : ∀ (l : List Oper) {a : Act} {e : Nat → Value} {w : World},
    dstsIn n l = true → St n a e → OW P ops Q l e w → wpList P ops (QA n Q) l a w
  | [], _, e, _, _, hs, h => ⟨e, hs, h⟩
  | o :: l, a, e, w, hd, hs, h => by
    obtain ⟨hd0, hd1⟩ := dstsIn_cons hd
    refine wpList_step fun K hK => ?_
    rw [wanted_eq hs]
    unfold OW at h
    split
    · rename_i hw
      rw [if_pos hw] at h
      exact Oper.wp_of_opW hs h fun v w' hv => hK _ _ (wpList_of_OW l hd1 (hs.put hd0 v) hv)
    · rename_i hw
      rw [if_neg hw] at h
      exact hK _ _ (wpList_of_OW l hd1 (hs.put hd0 undef) h)

/-- Code. -/
def CW (P : Program) (n : Nat) (c : Code) (Q : Exit → (Nat → Value) → World → Prop) (e : Nat → Value) (w : World) : Prop := ∀ a, St n a e → c.wp P (QA n Q) a w

/-- What stands behind. -/
def thenE (next : (Nat → Value) → World → Prop) (Q : Exit → (Nat → Value) → World → Prop) : Exit → (Nat → Value) → World → Prop
  | .normal, e, w => next e w
  | x, e, w => Q x e w
def inBlockE (id : Nat) (Q : Exit → (Nat → Value) → World → Prop) : Exit → (Nat → Value) → World → Prop
  | .exit id', e, w => if id' = id then Q .normal e w else Q (.exit id') e w
  | x, e, w => Q x e w

section
variable {P : Program} {n : Nat} {Q : Exit → (Nat → Value) → World → Prop} {e : Nat → Value} {w : World}
theorem CW.mono {c : Code} {Q' : Exit → (Nat → Value) → World → Prop} (h : CW P n c Q e w) (hq : ∀ x e w, Q x e w → Q' x e w) : CW P n c Q' e w :=
  fun a hs => wp_mono (h a hs) fun x a w ⟨e, hs, hx⟩ => ⟨e, hs, hq _ _ _ hx⟩
theorem CW_seq {x y : Code} (h : CW P n x (thenE (CW P n y Q) Q) e w) : CW P n (.seq x y) Q e w := by
  intro a hs
  refine wp_seq (wp_mono (h a hs) fun x a w hx => ?_)
  obtain ⟨e, hs, hx⟩ := hx
  cases x <;> first | exact hx a hs | exact ⟨e, hs, hx⟩
theorem CW_seq_of {x y : Code} (K : (Nat → Value) → World → Prop) (h : CW P n x (thenE K Q) e w) (hy : ∀ e w, K e w → CW P n y Q e w) : CW P n (.seq x y) Q e w :=
  CW_seq (h.mono fun x e w hx => by cases x <;> first | exact hy _ _ hx | exact hx)
theorem CW_skip (h : Q .normal e w) : CW P n .skip Q e w := fun _ hs => wp_skip ⟨e, hs, h⟩
theorem CW_label {l : Nat} (h : Q .normal e w) : CW P n (.label l) Q e w := fun _ hs => wp_label ⟨e, hs, h⟩
theorem CW_exit {id : Nat} (h : Q (.exit id) e w) : CW P n (.exit id) Q e w := fun _ hs => wp_exit ⟨e, hs, h⟩
theorem CW_ret (h : Q .ret e w) : CW P n .ret Q e w := fun _ hs => wp_ret ⟨e, hs, h⟩
theorem CW_block {id : Nat} {c : Code} (h : CW P n c (inBlockE id Q) e w) : CW P n (.block id c) Q e w := by
  intro a hs
  refine wp_block (wp_mono (h a hs) fun x a w hx => ?_)
  obtain ⟨e, hs, hx⟩ := hx
  cases x with
  | exit id' =>
    simp only [inBlockE] at hx
    simp only [Exit.inBlock]
    split
    · rename_i h; rw [if_pos h] at hx; exact ⟨e, hs, hx⟩
    · rename_i h; rw [if_neg h] at hx; exact ⟨e, hs, hx⟩
  | _ => exact ⟨e, hs, hx⟩
theorem CW_cond {c : Operand} {x y : Code} (b : Bool) (hc : ev e c = .bool b) (ht : b = true → CW P n x Q e w) (hf : b = false → CW P n y Q e w) : CW P n (.cond c x y) Q e w := by
  intro a hs
  refine wp_cond_split (t := b) (by rw [hs.ev]; exact hc) (fun h => ht h a hs) (fun h => hf h a hs)
theorem CW_condT {c : Operand} {x y : Code} (hc : ev e c = .bool true) (h : CW P n x Q e w) : CW P n (.cond c x y) Q e w := CW_cond true hc (fun _ => h) (fun h => by cases h)
theorem CW_condF {c : Operand} {x y : Code} (hc : ev e c = .bool false) (h : CW P n y Q e w) : CW P n (.cond c x y) Q e w := CW_cond false hc (fun h => by cases h) (fun _ => h)
theorem CW_region {id : Nat} {l : List Oper} (hd : dstsIn n l = true) (h : OW P l.toArray Q l e w) : CW P n (.region id l.toArray false) Q e w :=
  fun a hs => wp_region_lit (wpList_of_OW l hd hs h)
/-- A loop: what holds at each round's head, and what each round lowers. -/
theorem CW_loop {c : Code} (I : (Nat → Value) → World → Prop) (μ : (Nat → Value) → World → Nat) (h0 : I e w)
    (round : ∀ e w, I e w → CW P n c (thenE (fun e' w' => I e' w' ∧ μ e' w' < μ e w) Q) e w) : CW P n (.loop c) Q e w := by
  intro a hs
  refine wp_loop (fun a w => ∃ e, St n a e ∧ I e w) (fun a w => μ (fun i => a.tmps.getD i undef) w) ⟨e, hs, h0⟩ fun a w ⟨e, hs, hI⟩ => wp_mono (round e w hI a hs) fun x a' w' hx => ?_
  obtain ⟨e', hs', hx⟩ := hx
  have hfun : ∀ {a : Act} {e : Nat → Value}, St n a e → (fun i => a.tmps.getD i undef) = e := fun h => funext h.at_
  cases x with
  | normal =>
    refine ⟨⟨e', hs', hx.1⟩, ?_⟩
    simp only [hfun hs', hfun hs]
    exact hx.2
  | _ => exact ⟨e', hs', hx⟩
end

section
variable {K : (Nat → Value) → World → Prop} {Q : Exit → (Nat → Value) → World → Prop} {e : Nat → Value} {w : World} {id id' : Nat}
theorem thenE_normal (h : K e w) : thenE K Q .normal e w := h
theorem thenE_ret (h : Q .ret e w) : thenE K Q .ret e w := h
theorem thenE_exit (h : Q (.exit id) e w) : thenE K Q (.exit id) e w := h
theorem inBlockE_normal (h : Q .normal e w) : inBlockE id Q .normal e w := h
theorem inBlockE_ret (h : Q .ret e w) : inBlockE id Q .ret e w := h
theorem inBlockE_same (h : Q .normal e w) : inBlockE id Q (.exit id) e w := by simp only [inBlockE, if_true]; exact h
theorem inBlockE_ne (hne : Nat.beq id' id = false) (h : Q (.exit id') e w) : inBlockE id Q (.exit id') e w := by
  have hx : id' ≠ id := fun hh => by subst hh; rw [Nat.beq_refl] at hne; cases hne
  simp only [inBlockE, if_neg hx]; exact h
end

/-- What a body must achieve. -/
def bodyE (P : Program) (fn : Func) (R : Ending → World → Prop) : Exit → (Nat → Value) → World → Prop
  | .normal, e, w | .ret, e, w => ∃ v, (∀ tmps : Array Value, (∀ i, tmps.getD i undef = e i) → (results fn tmps).run P w = .ok v w) ∧ R (.returned v) w
  | _, _, _ => False

theorem env0_at : ∀ (l : List Value) (k i : Nat), env0 l k i = if i < k then undef else l.getD (i - k) undef
  | [], k, i => by simp [env0]
  | v :: l, k, i => by
    unfold env0
    by_cases h : i = k
    · subst h; rw [upd_same]; simp
    · rw [upd_ne _ _ h, env0_at l (k + 1) i]
      by_cases h1 : i < k
      · rw [if_pos (by omega), if_pos h1]
      · rw [if_neg (by omega), if_neg h1]
        have : i - k = (i - (k + 1)) + 1 := by omega
        rw [this]
        simp
theorem calls_of_CW {P : Program} {f : FuncId} {fn : Func} {c : Code} {args : List Value} {w : World} {R : Ending → World → Prop}
    (hf : P.funcs[f]? = some fn) (hb : fn.body = some c) (hn : args.length ≤ fn.ntmps) (h : CW P fn.ntmps c (bodyE P fn R) (env0 args 0) w) : Calls P f args.toArray w R := by
  refine calls_of_wp hf hb (wp_mono (h _ ⟨by simp; omega, rfl, fun i => ?_⟩) fun x a w hx => ?_)
  · rw [env0_at, if_neg (by omega), Array.getD_eq_getD_getElem?, Array.getElem?_append]
    simp only [List.size_toArray, List.getElem?_toArray, Nat.sub_zero, List.getD_eq_getElem?_getD]
    split
    · rfl
    · rename_i hi
      rw [Array.getElem?_replicate, List.getElem?_eq_none (by omega)]
      split <;> simp
  · obtain ⟨e, hs, hx⟩ := hx
    cases x <;> first
      | exact hx.elim
      | (obtain ⟨v, hv, hR⟩ := hx; exact ⟨hs.def_, v, hv _ hs.at_, hR⟩)
theorem bodyE_ret1 {P : Program} {fn : Func} {R : Ending → World → Prop} {e : Nat → Value} {w : World} {t : Tmp} (hr : fn.results = #[.tmp t]) (v : Value) (hv : e t = v) (hR : R (.returned v) w) : bodyE P fn R .ret e w :=
  ⟨v, fun tmps ht => by rw [results_tmp hr, ht, hv], hR⟩
theorem bodyE_ret2 {P : Program} {fn : Func} {R : Ending → World → Prop} {e : Nat → Value} {w : World} {t u : Tmp} (hr : fn.results = #[.tmp t, .tmp u]) (v v' : Value) (hv : e t = v) (hv' : e u = v') (hR : R (.returned (.tuple #[v, v'])) w) : bodyE P fn R .ret e w :=
  ⟨_, fun tmps ht => by rw [results_tmp2 hr, ht, ht, hv, hv'], hR⟩
theorem bodyE_ret0 {P : Program} {fn : Func} {R : Ending → World → Prop} {e : Nat → Value} {w : World} (hr : fn.results = #[]) (hR : R (.returned (.tuple #[])) w) : bodyE P fn R .ret e w :=
  ⟨_, fun tmps ht => by rw [results_none hr], hR⟩
theorem bodyE_end {P : Program} {fn : Func} {R : Ending → World → Prop} {e : Nat → Value} {w : World} (h : bodyE P fn R .ret e w) : bodyE P fn R .normal e w := h

/-- Values that '==' compares by their type alone. -/
def _root_.Go.Value.plainEq : Value → Bool
  | .bool _ | .slice _ _ _ | .func _ _ _ | .nilFunc => true
  | _ => false
/-! Operations, one lemma a kind. -/
section
variable {P : Program} {ops : Array Oper} {Q : Exit → (Nat → Value) → World → Prop} {rest : List Oper} {e : Nat → Value} {w : World} {d : Tmp} {ty : TypeId} {pos : String} {aft : Array Edge}
theorem OW_nil (h : Q .normal e w) : OW P ops Q [] e w := h
theorem OW_op {o : Oper} (hg : o.guard = none) (h : opW P o e w (fun v w' => OW P ops Q rest (put e o.dst v) w')) : OW P ops Q (o :: rest) e w := by
  unfold OW; rw [if_pos (by simp [wantedE, hg])]; exact h
theorem OW_val {o : Oper} (v : Value) (hg : o.guard = none) (hr : (execOp (ev e) o).run P w = .ok (.value v) w) (h : OW P ops Q rest (put e o.dst v) w) : OW P ops Q (o :: rest) e w :=
  OW_op hg (by unfold opW; rw [hr]; exact h)
theorem OW_valw {o : Oper} (v : Value) (w' : World) (hg : o.guard = none) (hr : (execOp (ev e) o).run P w = .ok (.value v) w') (h : OW P ops Q rest (put e o.dst v) w') : OW P ops Q (o :: rest) e w :=
  OW_op hg (by unfold opW; rw [hr]; exact h)
theorem OW_unit {o : Oper} (w' : World) (hg : o.guard = none) (hd : o.dst = none) (hr : (execOp (ev e) o).run P w = .ok .skip w') (h : OW P ops Q rest e w') : OW P ops Q (o :: rest) e w :=
  OW_op hg (by unfold opW; rw [hr, hd]; exact h)
theorem OW_take {dst : Option Tmp} {op : Op} {g : Nat × Bool} (hw : wantedE ops e ⟨dst, op, ty, pos, aft, some g⟩ = true) (h : OW P ops Q (⟨dst, op, ty, pos, aft, none⟩ :: rest) e w) :
    OW P ops Q (⟨dst, op, ty, pos, aft, some g⟩ :: rest) e w := by
  unfold OW at h ⊢
  rw [if_pos (by rfl)] at h
  rw [if_pos hw]
  exact h
theorem OW_pass {dst : Option Tmp} {op : Op} {g : Nat × Bool} (hw : wantedE ops e ⟨dst, op, ty, pos, aft, some g⟩ = false) (h : OW P ops Q rest (put e dst undef) w) :
    OW P ops Q (⟨dst, op, ty, pos, aft, some g⟩ :: rest) e w := by
  unfold OW
  rw [if_neg (by rw [hw]; simp)]
  exact h
/-- A slot that holds a test: both ways. -/
theorem OW_split {l : List Oper} (s : Nat) (b : Bool) (hs : e s = .bool b) (ht : b = true → OW P ops Q l (upd e s (.bool true)) w) (hf : b = false → OW P ops Q l (upd e s (.bool false)) w) : OW P ops Q l e w := by
  cases b with
  | true => rw [upd_self hs]; exact ht rfl
  | false => rw [upd_self hs]; exact hf rfl

theorem OW_move {x : Operand} (h : OW P ops Q rest (upd e d (ev e x)) w) : OW P ops Q (⟨some d, .move x, ty, pos, aft, none⟩ :: rest) e w := OW_val _ rfl rfl h
theorem OW_assign {x : Operand} (h : OW P ops Q rest (upd e d (ev e x)) w) : OW P ops Q (⟨some d, .assign x, ty, pos, aft, none⟩ :: rest) e w := OW_val _ rfl rfl h
theorem OW_moveV {x : Operand} (v : Value) (hx : ev e x = v) (h : OW P ops Q rest (upd e d v) w) : OW P ops Q (⟨some d, .move x, ty, pos, aft, none⟩ :: rest) e w := by subst hx; exact OW_move h
theorem OW_assignV {x : Operand} (v : Value) (hx : ev e x = v) (h : OW P ops Q rest (upd e d v) w) : OW P ops Q (⟨some d, .assign x, ty, pos, aft, none⟩ :: rest) e w := by subst hx; exact OW_assign h
theorem OW_pickT {c x y : Operand} (hc : ev e c = .bool true) (v : Value) (hx : ev e x = v) (h : OW P ops Q rest (upd e d v) w) : OW P ops Q (⟨some d, .pick c x y, ty, pos, aft, none⟩ :: rest) e w :=
  OW_val _ rfl (by simp only [execOp, hc]; rfl) (by subst hx; exact h)
theorem OW_pickF {c x y : Operand} (hc : ev e c = .bool false) (v : Value) (hy : ev e y = v) (h : OW P ops Q rest (upd e d v) w) : OW P ops Q (⟨some d, .pick c x y, ty, pos, aft, none⟩ :: rest) e w :=
  OW_val _ rfl (by simp only [execOp, hc]; rfl) (by subst hy; exact h)
theorem OW_pickB {c x y : Operand} {b r s : Bool} (hc : ev e c = .bool b) (hx : ev e x = .bool r) (hy : ev e y = .bool s) (h : OW P ops Q rest (upd e d (.bool (bif b then r else s))) w) : OW P ops Q (⟨some d, .pick c x y, ty, pos, aft, none⟩ :: rest) e w :=
  OW_val _ rfl (by simp only [execOp, hc]; rfl) (by cases b <;> simp only [hx, hy] <;> exact h)
theorem OW_pick {c x y : Operand} {b : Bool} (hc : ev e c = .bool b) (h : OW P ops Q rest (upd e d (if b then ev e x else ev e y)) w) : OW P ops Q (⟨some d, .pick c x y, ty, pos, aft, none⟩ :: rest) e w :=
  OW_val _ rfl (by simp only [execOp, hc]; rfl) h
section
variable {x y : Operand} {t t' : TypeId} {k : IntKind} {a b : Int}
theorem OW_add (hx : ev e x = .int k a) (hy : ev e y = .int k b) (h : OW P ops Q rest (upd e d (.int k (k.wrap (a + b)))) w) : OW P ops Q (⟨some d, .binOp .add t x y t', ty, pos, aft, none⟩ :: rest) e w :=
  OW_val _ rfl (by simp only [execOp, hx, hy, eqGuard, binOp]; cases k <;> rfl) h
theorem OW_sub (hx : ev e x = .int k a) (hy : ev e y = .int k b) (h : OW P ops Q rest (upd e d (.int k (k.wrap (a - b)))) w) : OW P ops Q (⟨some d, .binOp .sub t x y t', ty, pos, aft, none⟩ :: rest) e w :=
  OW_val _ rfl (by simp only [execOp, hx, hy, eqGuard, binOp]; cases k <;> rfl) h
theorem OW_mul (hx : ev e x = .int k a) (hy : ev e y = .int k b) (h : OW P ops Q rest (upd e d (.int k (k.wrap (a * b)))) w) : OW P ops Q (⟨some d, .binOp .mul t x y t', ty, pos, aft, none⟩ :: rest) e w :=
  OW_val _ rfl (by simp only [execOp, hx, hy, eqGuard, binOp]; cases k <;> rfl) h
theorem wrap64_in {n : Int} (h : -9223372036854775808 ≤ n ∧ n ≤ 9223372036854775807) : IntKind.i64.wrap n = n := by rw [IntKind.wrap_i64]; omega
theorem OW_addI (hx : ev e x = .int .i64 a) (hy : ev e y = .int .i64 b) (hb : -9223372036854775808 ≤ a + b ∧ a + b ≤ 9223372036854775807) (h : OW P ops Q rest (upd e d (.int .i64 (a + b))) w) : OW P ops Q (⟨some d, .binOp .add t x y t', ty, pos, aft, none⟩ :: rest) e w :=
  OW_add hx hy (by rw [wrap64_in hb]; exact h)
theorem OW_subI (hx : ev e x = .int .i64 a) (hy : ev e y = .int .i64 b) (hb : -9223372036854775808 ≤ a - b ∧ a - b ≤ 9223372036854775807) (h : OW P ops Q rest (upd e d (.int .i64 (a - b))) w) : OW P ops Q (⟨some d, .binOp .sub t x y t', ty, pos, aft, none⟩ :: rest) e w :=
  OW_sub hx hy (by rw [wrap64_in hb]; exact h)
theorem OW_mulI (hx : ev e x = .int .i64 a) (hy : ev e y = .int .i64 b) (hb : -9223372036854775808 ≤ a * b ∧ a * b ≤ 9223372036854775807) (h : OW P ops Q rest (upd e d (.int .i64 (a * b))) w) : OW P ops Q (⟨some d, .binOp .mul t x y t', ty, pos, aft, none⟩ :: rest) e w :=
  OW_mul hx hy (by rw [wrap64_in hb]; exact h)
theorem OW_lss (hx : ev e x = .int k a) (hy : ev e y = .int k b) (h : OW P ops Q rest (upd e d (.bool (decide (a < b)))) w) : OW P ops Q (⟨some d, .binOp .lss t x y t', ty, pos, aft, none⟩ :: rest) e w :=
  OW_val _ rfl (by simp only [execOp, hx, hy, eqGuard, binOp]; cases k <;> rfl) h
theorem OW_leq (hx : ev e x = .int k a) (hy : ev e y = .int k b) (h : OW P ops Q rest (upd e d (.bool (decide (a ≤ b)))) w) : OW P ops Q (⟨some d, .binOp .leq t x y t', ty, pos, aft, none⟩ :: rest) e w :=
  OW_val _ rfl (by simp only [execOp, hx, hy, eqGuard, binOp]; cases k <;> rfl) h
theorem OW_gtr (hx : ev e x = .int k a) (hy : ev e y = .int k b) (h : OW P ops Q rest (upd e d (.bool (decide (b < a)))) w) : OW P ops Q (⟨some d, .binOp .gtr t x y t', ty, pos, aft, none⟩ :: rest) e w :=
  OW_val _ rfl (by simp only [execOp, hx, hy, eqGuard, binOp]; cases k <;> rfl) h
theorem OW_geq (hx : ev e x = .int k a) (hy : ev e y = .int k b) (h : OW P ops Q rest (upd e d (.bool (decide (b ≤ a)))) w) : OW P ops Q (⟨some d, .binOp .geq t x y t', ty, pos, aft, none⟩ :: rest) e w :=
  OW_val _ rfl (by simp only [execOp, hx, hy, eqGuard, binOp]; cases k <;> rfl) h
theorem OW_eql (hx : ev e x = .int k a) (hy : ev e y = .int k b) (h : OW P ops Q rest (upd e d (.bool (a == b))) w) : OW P ops Q (⟨some d, .binOp .eql t x y t', ty, pos, aft, none⟩ :: rest) e w :=
  OW_val _ rfl (by simp only [execOp, hx, hy, eqGuard, binOp]; cases k <;> rfl) h
theorem OW_neq (hx : ev e x = .int k a) (hy : ev e y = .int k b) (h : OW P ops Q rest (upd e d (.bool (a != b))) w) : OW P ops Q (⟨some d, .binOp .neq t x y t', ty, pos, aft, none⟩ :: rest) e w :=
  OW_val _ rfl (by simp only [execOp, hx, hy, eqGuard, binOp]; cases k <;> rfl) h
theorem run_equal_bool {a b : Bool} (ht : P.underlying t = some .bool) : (Op.equal t (.bool a) (.bool b)).run P w = .ok (a == b) w := by
  have h : ∀ d, (Op.equalIn (d + 1) t (.bool a) (.bool b)).run P w = .ok (a == b) w := fun d => by simp [Op.equalIn, run_underlying ht]
  exact h 9999
theorem run_eql_of {u v : Value} {r : Bool} (hu : u.plainEq = true) (hv : v.plainEq = true) (hr : (Op.equal t u v).run P w = .ok r w) : (do eqGuard .eql t x y u v; binOp .eql t u v : Sem Value).run P w = .ok (.bool r) w := by
  cases u <;> simp [Value.plainEq] at hu <;> cases v <;> simp [Value.plainEq] at hv <;> (show Sem.run P (Op.equal t _ _ >>= fun r => pure (Value.bool r)) w = _; rw [Sem.run_bind, hr]; rfl)
theorem run_neq_of {u v : Value} {r : Bool} (hu : u.plainEq = true) (hv : v.plainEq = true) (hr : (Op.equal t u v).run P w = .ok r w) : (do eqGuard .neq t x y u v; binOp .neq t u v : Sem Value).run P w = .ok (.bool (!r)) w := by
  cases u <;> simp [Value.plainEq] at hu <;> cases v <;> simp [Value.plainEq] at hv <;> (show Sem.run P (Op.equal t _ _ >>= fun r => pure (Value.bool (!r))) w = _; rw [Sem.run_bind, hr]; rfl)
theorem OW_eqlB {a b : Bool} (ht : P.underlying t = some .bool) (hx : ev e x = .bool a) (hy : ev e y = .bool b) (h : OW P ops Q rest (upd e d (.bool (a == b))) w) : OW P ops Q (⟨some d, .binOp .eql t x y t', ty, pos, aft, none⟩ :: rest) e w :=
  OW_val _ rfl (by simp only [execOp, hx, hy, Sem.run_bind, run_eql_of (x := x) (y := y) (u := .bool a) (v := .bool b) rfl rfl (run_equal_bool ht)]; rfl) h
theorem OW_neqB {a b : Bool} (ht : P.underlying t = some .bool) (hx : ev e x = .bool a) (hy : ev e y = .bool b) (h : OW P ops Q rest (upd e d (.bool (!(a == b)))) w) : OW P ops Q (⟨some d, .binOp .neq t x y t', ty, pos, aft, none⟩ :: rest) e w :=
  OW_val _ rfl (by simp only [execOp, hx, hy, Sem.run_bind, run_neq_of (x := x) (y := y) (u := .bool a) (v := .bool b) rfl rfl (run_equal_bool ht)]; rfl) h
theorem OW_quo (hx : ev e x = .int k a) (hy : ev e y = .int k b) (hb : b ≠ 0) (h : OW P ops Q rest (upd e d (.int k (k.wrap (a.tdiv b)))) w) : OW P ops Q (⟨some d, .binOp .quo t x y t', ty, pos, aft, none⟩ :: rest) e w :=
  OW_val _ rfl (by simp only [execOp, hx, hy, eqGuard, binOp, Op.intDiv, if_neg hb]; cases k <;> rfl) h
theorem OW_rem (hx : ev e x = .int k a) (hy : ev e y = .int k b) (hb : b ≠ 0) (h : OW P ops Q rest (upd e d (.int k (a.tmod b))) w) : OW P ops Q (⟨some d, .binOp .rem t x y t', ty, pos, aft, none⟩ :: rest) e w :=
  OW_val _ rfl (by simp only [execOp, hx, hy, eqGuard, binOp, Op.intDiv, if_neg hb]; cases k <;> rfl) h
def bitsK (op : BinOp) (k : IntKind) (a b : Int) : Int :=
  match op with
  | .and => k.wrap (BitVec.ofInt k.bits a &&& BitVec.ofInt k.bits b).toNat
  | .or => k.wrap (BitVec.ofInt k.bits a ||| BitVec.ofInt k.bits b).toNat
  | .xor => k.wrap (BitVec.ofInt k.bits a ^^^ BitVec.ofInt k.bits b).toNat
  | _ => k.wrap (BitVec.ofInt k.bits a &&& ~~~ BitVec.ofInt k.bits b).toNat
theorem OW_and (hx : ev e x = .int k a) (hy : ev e y = .int k b) (v : Int) (hv : bitsK .and k a b = v) (h : OW P ops Q rest (upd e d (.int k v)) w) : OW P ops Q (⟨some d, .binOp .and t x y t', ty, pos, aft, none⟩ :: rest) e w := by
  subst hv
  exact OW_val (.int k (bitsK .and k a b)) rfl (by simp only [execOp, hx, hy, eqGuard, binOp]; cases k <;> rfl) h
theorem OW_or (hx : ev e x = .int k a) (hy : ev e y = .int k b) (v : Int) (hv : bitsK .or k a b = v) (h : OW P ops Q rest (upd e d (.int k v)) w) : OW P ops Q (⟨some d, .binOp .or t x y t', ty, pos, aft, none⟩ :: rest) e w := by
  subst hv
  exact OW_val (.int k (bitsK .or k a b)) rfl (by simp only [execOp, hx, hy, eqGuard, binOp]; cases k <;> rfl) h
theorem OW_xor (hx : ev e x = .int k a) (hy : ev e y = .int k b) (v : Int) (hv : bitsK .xor k a b = v) (h : OW P ops Q rest (upd e d (.int k v)) w) : OW P ops Q (⟨some d, .binOp .xor t x y t', ty, pos, aft, none⟩ :: rest) e w := by
  subst hv
  exact OW_val (.int k (bitsK .xor k a b)) rfl (by simp only [execOp, hx, hy, eqGuard, binOp]; cases k <;> rfl) h
theorem OW_andNot (hx : ev e x = .int k a) (hy : ev e y = .int k b) (v : Int) (hv : bitsK .andNot k a b = v) (h : OW P ops Q rest (upd e d (.int k v)) w) : OW P ops Q (⟨some d, .binOp .andNot t x y t', ty, pos, aft, none⟩ :: rest) e w := by
  subst hv
  exact OW_val (.int k (bitsK .andNot k a b)) rfl (by simp only [execOp, hx, hy, eqGuard, binOp]; cases k <;> rfl) h
theorem OW_shl {ky : IntKind} (hx : ev e x = .int k a) (hy : ev e y = .int ky b) (hb : 0 ≤ b) (v : Int) (hv : k.wrap (a * 2 ^ (min b.toNat k.bits)) = v) (h : OW P ops Q rest (upd e d (.int k v)) w) : OW P ops Q (⟨some d, .binOp .shl t x y t', ty, pos, aft, none⟩ :: rest) e w :=
  OW_val _ rfl (by simp only [execOp, hx, hy, eqGuard, binOp, Op.shift, if_neg (show ¬ b < 0 by omega)]; rfl) (by rw [hv]; exact h)
theorem OW_shr {ky : IntKind} (hx : ev e x = .int k a) (hy : ev e y = .int ky b) (hb : 0 ≤ b) (v : Int) (hv : a.fdiv (2 ^ (min b.toNat k.bits)) = v) (h : OW P ops Q rest (upd e d (.int k v)) w) : OW P ops Q (⟨some d, .binOp .shr t x y t', ty, pos, aft, none⟩ :: rest) e w :=
  OW_val _ rfl (by simp only [execOp, hx, hy, eqGuard, binOp, Op.shift, if_neg (show ¬ b < 0 by omega)]; rfl) (by rw [hv]; exact h)
theorem OW_not {a : Bool} (hx : ev e x = .bool a) (h : OW P ops Q rest (upd e d (.bool (!a))) w) : OW P ops Q (⟨some d, .unOp .not t x, ty, pos, aft, none⟩ :: rest) e w :=
  OW_val _ rfl (by simp only [execOp, hx]; rfl) h
theorem OW_neg (hx : ev e x = .int k a) (h : OW P ops Q rest (upd e d (.int k (k.wrap (0 - a)))) w) : OW P ops Q (⟨some d, .unOp .neg t x, ty, pos, aft, none⟩ :: rest) e w :=
  OW_val _ rfl (by simp only [execOp, hx]; rfl) h
theorem OW_convInt {s : TypeDesc} (hs : P.underlying t = some s) (ht : P.underlying t' = some (.int k)) {k' : IntKind} (hx : ev e x = .int k' a) (h : OW P ops Q rest (upd e d (.int k (k.wrap a))) w) : OW P ops Q (⟨some d, .convert t t' x, ty, pos, aft, none⟩ :: rest) e w :=
  OW_val _ rfl (by simp only [execOp, hx, convert]; simp [run_underlying hs, run_underlying ht, Conv.intToInt]) h
end
theorem OW_extract {x : Operand} {i : Nat} {vs : Array Value} {v : Value} (hx : ev e x = .tuple vs) (hv : vs[i]? = some v) (h : OW P ops Q rest (upd e d v) w) : OW P ops Q (⟨some d, .extract x i, ty, pos, aft, none⟩ :: rest) e w :=
  OW_val _ rfl (by simp only [execOp, hx, Instr.extract, hv]; rfl) h
theorem OW_call {f : FuncId} {fn : Func} {args : Array Operand} {tys : Array TypeId} {dst : Option Tmp} (hf : P.funcs[f]? = some fn) (hn : (fn.name == "runtime.NumGoroutine") = false) (hb : fn.body.isNone = false)
    (h : Calls P f (args.map (ev e)) w fun en w' => ∃ v, en = .returned v ∧ OW P ops Q rest (put e dst v) w') : OW P ops Q (⟨dst, .call { callee := .value (.func f), args := args, argTypes := tys }, ty, pos, aft, none⟩ :: rest) e w := by
  refine OW_op rfl ?_
  unfold opW
  have : (execOp (ev e) ⟨dst, .call { callee := .value (.func f), args := args, argTypes := tys }, ty, pos, aft, none⟩).run P w = .ok (.enter f (args.map (ev e))) w := by
    have h1 : (callFunc f (args.map (ev e))).run P w = .ok (.enter f (args.map (ev e))) w := by
      simp only [callFunc, program]
      show Sem.run P (match P.funcs[f]? with | none => _ | some fn => _) w = _
      simp only [hf, hn, hb]
      rfl
    simpa [execOp, resolve, ev, Deferred.ofValue, invoke] using h1
  rw [this]
  exact ⟨rfl, h⟩
/-- A call by its contract. -/
theorem OW_callC {f : FuncId} {fn : Func} {args : List Operand} {args' : List Value} {tys : Array TypeId} {dst : Option Tmp} {R : Ending → World → Prop} (hf : P.funcs[f]? = some fn) (hn : (fn.name == "runtime.NumGoroutine") = false) (hb : fn.body.isNone = false)
    (hc : Calls P f args'.toArray w R) (ha : args.map (ev e) = args') (h : ∀ en w', R en w' → ∃ v, en = .returned v ∧ OW P ops Q rest (put e dst v) w') :
    OW P ops Q (⟨dst, .call { callee := .value (.func f), args := args.toArray, argTypes := tys }, ty, pos, aft, none⟩ :: rest) e w := by
  refine OW_call hf hn hb ?_
  rw [List.map_toArray, ha]
  exact hc.mono h
/-- .. that hands back one plain value. -/
theorem OW_callV {f : FuncId} {fn : Func} {args : List Operand} {args' : List Value} {tys : Array TypeId} {v : Value} {C : World → World → Prop} (hf : P.funcs[f]? = some fn) (hn : (fn.name == "runtime.NumGoroutine") = false) (hb : fn.body.isNone = false)
    (hc : Calls P f args'.toArray w (fun en w' => en = .returned v ∧ C w w')) (ha : args.map (ev e) = args') (h : ∀ w', C w w' → OW P ops Q rest (upd e d v) w') :
    OW P ops Q (⟨some d, .call { callee := .value (.func f), args := args.toArray, argTypes := tys }, ty, pos, aft, none⟩ :: rest) e w :=
  OW_callC hf hn hb hc ha fun en w' hh => ⟨v, hh.1, h w' hh.2⟩
theorem OW_lenS {x : Operand} {t : TypeId} {el : TypeId} {A : Option Addr} {n c : Nat} (ht : P.underlying t = some (.slice el)) (hx : ev e x = .slice A n c) (h : OW P ops Q rest (upd e d (.int .i64 n)) w) :
    OW P ops Q (⟨some d, .call { callee := .builtin .len, args := #[x], argTypes := #[t] }, ty, pos, aft, none⟩ :: rest) e w :=
  OW_val _ rfl (by simp [execOp, resolve, invoke, builtin, hx, Builtin.len_, run_underlying ht, goInt]) h
theorem OW_lenT {x : Operand} {t : TypeId} {s : ByteArray} (ht : P.underlying t = some .string) (hx : ev e x = .string s) (h : OW P ops Q rest (upd e d (.int .i64 s.size)) w) :
    OW P ops Q (⟨some d, .call { callee := .builtin .len, args := #[x], argTypes := #[t] }, ty, pos, aft, none⟩ :: rest) e w :=
  OW_val _ rfl (by simp [execOp, resolve, invoke, builtin, hx, Builtin.len_, run_underlying ht, goInt]) h
theorem OW_min2 {x y : Operand} {tys : Array TypeId} {a b : Int} {k : IntKind} (hx : ev e x = .int k a) (hy : ev e y = .int k b) (h : OW P ops Q rest (upd e d (.int k (if b < a then b else a))) w) :
    OW P ops Q (⟨some d, .call { callee := .builtin .min, args := #[x, y], argTypes := tys }, ty, pos, aft, none⟩ :: rest) e w :=
  OW_val _ rfl (by simp [execOp, resolve, invoke, builtin, hx, hy, Builtin.min_, Builtin.min2]) h
theorem OW_max2 {x y : Operand} {tys : Array TypeId} {a b : Int} {k : IntKind} (hx : ev e x = .int k a) (hy : ev e y = .int k b) (h : OW P ops Q rest (upd e d (.int k (if a < b then b else a))) w) :
    OW P ops Q (⟨some d, .call { callee := .builtin .max, args := #[x, y], argTypes := tys }, ty, pos, aft, none⟩ :: rest) e w :=
  OW_val _ rfl (by simp [execOp, resolve, invoke, builtin, hx, hy, Builtin.max_, Builtin.max2]) h
end
attribute [irreducible] OW CW opW thenE inBlockE bodyE
end Go.Proofs.Ytdpomchhbbopbaa

/- Facts on memory for this claim's walks: what a slice reads as, blocks of a call's own, and one lemma for each operation on memory. No program in sight. -/
namespace Go.Proofs.Ytdpomchhbbopbaa
open Go Go.RowKit
set_option linter.unusedVariables false

/-! ## Worlds that only grew -/
abbrev Ext (w w' : World) : Prop := Below w.heap.size w w'
theorem Ext.rfl' (w : World) : Ext w w := Below.refl _ _
theorem Ext.trans' {a b c : World} (h : Ext a b) (k : Ext b c) : Ext a c := Below.trans h (k.mono h.size)
theorem below_ext {B : Nat} {a b c : World} (h : Below B a b) (hB : B ≤ b.heap.size) (k : Ext b c) : Below B a c := h.trans (k.mono hB)
theorem ext_below {B : Nat} {a b c : World} (h : Ext a b) (k : Below B b c) (hB : a.heap.size ≤ B) : Ext a c := Below.trans h (k.mono hB)
theorem Ext.drew' (w : World) : Ext w w.drew := (Below.refl _ _).drew
theorem Ext.alloc' (w : World) (o : Obj) : Ext w (w.alloc o) := (Below.refl _ _).alloc (Nat.le_refl _) o
theorem Ext.cell' {w w' : World} (h : Ext w w') {p : Addr} {v : Value} (hc : w.cell? p = some v) : w'.cell? p = some v := by
  rw [h.cell (World.block_lt_of_cell? w p hc)]; exact hc

/-! ## A slice that reads as a list of cells -/
def Rd (w : World) (A : Option Addr) (cs : List Value) : Prop := ∀ (j : Nat) (u : Value), cs[j]? = some u → ∃ ad, A = some ad ∧ w.cell? (ad.add j) = some u
theorem Rd.nil (w : World) (A : Option Addr) : Rd w A [] := fun j u h => by simp at h
theorem Rd.at_ {w : World} {A : Option Addr} {cs : List Value} (h : Rd w A cs) {j : Nat} (hj : j < cs.length) : ∃ ad, A = some ad ∧ w.cell? (ad.add j) = some cs[j] := h j _ (List.getElem?_eq_getElem hj)
theorem Rd.ext {w w' : World} {A : Option Addr} {cs : List Value} (h : Rd w A cs) (he : Ext w w') : Rd w' A cs := fun j u hu => by
  obtain ⟨ad, ha, hc⟩ := h j u hu
  exact ⟨ad, ha, he.cell' hc⟩
theorem Rd.below {w w' : World} {A : Option Addr} {cs : List Value} {B : Nat} (h : Rd w A cs) (hA : ∀ ad, A = some ad → ad.block < B) (he : Below B w w') : Rd w' A cs := fun j u hu => by
  obtain ⟨ad, ha, hc⟩ := h j u hu
  have hb : (ad.add j).block = ad.block := by unfold Addr.add; split <;> rfl
  exact ⟨ad, ha, by rw [he.cell (by rw [hb]; exact hA ad ha)]; exact hc⟩
theorem addr_add_add (a : Addr) (i j : Nat) : (a.add i).add j = a.add (i + j) := by
  unfold Addr.add
  by_cases hi : i = 0 <;> by_cases hj : j = 0 <;> simp [hi, hj, Nat.add_assoc]
theorem addr_add_block (a : Addr) (n : Nat) : (a.add n).block = a.block := by unfold Addr.add; split <;> rfl
theorem add0 (g j : Nat) : (⟨g, 0, none⟩ : Addr).add j = ⟨g, j, none⟩ := by unfold Addr.add; split <;> simp_all
theorem Rd.lt {w : World} {A : Option Addr} {cs : List Value} (h : Rd w A cs) (hn : cs ≠ []) : ∀ ad, A = some ad → ad.block < w.heap.size := by
  intro ad ha
  obtain ⟨ad', ha', hc⟩ := h.at_ (j := 0) (List.length_pos_iff.2 hn)
  rw [ha] at ha'
  cases ha'
  have := World.block_lt_of_cell? w _ hc
  rwa [addr_add_block] at this
/-- A cut. -/
def cutA (A : Option Addr) (m l : Nat) : Option Addr := if m = l then A else A.map (·.add l)
theorem Rd.cut {w : World} {A : Option Addr} {cs : List Value} (h : Rd w A cs) (m l n : Nat) (hm : l + n ≤ m) : Rd w (cutA A m l) ((cs.drop l).take n) := fun j u hu => by
  rw [List.getElem?_take] at hu
  split at hu
  · rename_i hj
    rw [List.getElem?_drop] at hu
    obtain ⟨ad, ha, hc⟩ := h _ u hu
    subst ha
    refine ⟨ad.add l, ?_, by rw [addr_add_add]; exact hc⟩
    unfold cutA
    rw [if_neg (by omega)]
    rfl
  · cases hu

/-! ## Bytes -/
def bv (b : UInt8) : Value := .int .u8 (b.toNat : Int)
def Bs (w : World) (A : Option Addr) (l : List UInt8) : Prop := Rd w A (l.map bv)
theorem Bs.ext {w w' : World} {A : Option Addr} {l : List UInt8} (h : Bs w A l) (he : Ext w w') : Bs w' A l := Rd.ext h he
theorem Bs.nil (w : World) (A : Option Addr) : Bs w A [] := Rd.nil w A
theorem Bs.at_ {w : World} {A : Option Addr} {l : List UInt8} (h : Bs w A l) {j : Nat} (hj : j < l.length) : ∃ ad, A = some ad ∧ w.cell? (ad.add j) = some (bv l[j]) := by
  obtain ⟨ad, ha, hc⟩ := Rd.at_ h (j := j) (by simpa using hj)
  exact ⟨ad, ha, by simpa using hc⟩
theorem Bs.cut {w : World} {A : Option Addr} {l : List UInt8} (h : Bs w A l) (m lo n : Nat) (hm : lo + n ≤ m) : Bs w (cutA A m lo) ((l.drop lo).take n) := by
  unfold Bs
  rw [List.map_take, List.map_drop]
  exact Rd.cut h m lo n hm

/-! ## Blocks known whole -/
def Blk (w : World) (g : Nat) (t : TypeId) (cs : Array Value) : Prop := w.heap[g]? = some (.cells cs t (0, 0))
section
variable {w w' : World} {g : Nat} {t : TypeId} {cs : Array Value}
theorem Blk.lt (h : Blk w g t cs) : g < w.heap.size := by
  rcases Nat.lt_or_ge g w.heap.size with hlt | hge
  · exact hlt
  · unfold Blk at h; rw [Array.getElem?_eq_none hge] at h; cases h
theorem Blk.cell (h : Blk w g t cs) (i : Nat) : w.cell? ⟨g, i, none⟩ = cs[i]? := cell_of_row w g i cs t (0, 0) h
theorem Blk.frozen (h : Blk w g t cs) (i : Nat) : w.frozen? ⟨g, i, none⟩ = false := by
  unfold Blk at h
  simp [World.frozen?, h]
theorem Blk.new (w : World) (t : TypeId) (cs : Array Value) : Blk (w.alloc (.cells cs t)) w.heap.size t cs := heap_alloc_new w _
theorem Blk.ext (h : Blk w g t cs) (he : Ext w w') : Blk w' g t cs := (he.block g h.lt).trans h
theorem Blk.below {B : Nat} (h : Blk w g t cs) (hb : Below B w w') (hg : g < B) : Blk w' g t cs := (hb.block g hg).trans h
theorem Blk.set_ (h : Blk w g t cs) (i : Nat) (u : Value) : Blk (w.setCell ⟨g, i, none⟩ u) g t (cs.setIfInBounds i u) := by
  unfold Blk at h ⊢
  simp [World.setCell, Array.getElem?_modify, h]
theorem Blk.only {g' : Nat} (h : Blk w g t cs) (ho : w.grownBy w' (some g')) (hne : g ≠ g') : Blk w' g t cs := (ho.block g h.lt (by simpa using hne)).trans h
theorem Blk.rd (h : Blk w g t cs) : Rd w (some ⟨g, 0, none⟩) cs.toList := fun j u hu => ⟨_, rfl, by rw [add0, h.cell]; simpa using hu⟩
/-- A block as an owned row. -/
theorem Blk.own (h : Blk w g t cs) {base : Nat} (hb : base ≤ g) (hm : cs.size ≤ maxLen) : w.ownsRow base t 1 (.slice (some ⟨g, 0, none⟩) cs.size cs.size) cs.size cs.toList :=
  ⟨by simp, .inr ⟨g, cs.size, cs, rfl, hb, h, Nat.le_refl _, hm, by simp, by rw [List.take_of_length_le (by simp)]⟩⟩
end
theorem only_set (w : World) (g i : Nat) (u : Value) : w.grownBy (w.setCell ⟨g, i, none⟩ u) (some g) :=
  ⟨rfl, rfl, rfl, by simp, fun k hk hne => heap_setCell_other w ⟨g, i, none⟩ k u (fun e => hne (by simp [e]))⟩
theorem only_below {w w' : World} {g B : Nat} (h : w.grownBy w' (some g)) (hB : B ≤ g) (hw : B ≤ w.heap.size) : Below B w w' :=
  ⟨h.os, h.tape, h.output, h.size, fun k hk => h.block k (by omega) (by simp; omega)⟩
theorem below_only {w0 w w' : World} {g B : Nat} (hb : Below B w0 w) (h : w.grownBy w' (some g)) (hB : B ≤ g) (hw : B ≤ w.heap.size) : Below B w0 w' := hb.trans (only_below h hB hw)
theorem Rd.only {w w' : World} {A : Option Addr} {cs : List Value} {g B : Nat} (h : Rd w A cs) (hA : ∀ ad, A = some ad → ad.block < B) (ho : w.grownBy w' (some g)) (hB : B ≤ g) (hw : B ≤ w.heap.size) : Rd w' A cs := h.below hA (only_below ho hB hw)

/-! ## Fresh rows -/
theorem own_rd {w : World} {base : Nat} {T : TypeId} {A : Option Addr} {n c : Nat} {xs : List Value} (h : w.ownsRow base T 1 (.slice A n c) n xs) : Rd w A xs := by
  intro j u hu
  rcases h.2 with ⟨h', h0⟩ | ⟨g, cap, cur, hv, _⟩
  · subst h0
    have := h.1
    have hx : xs = [] := List.eq_nil_of_length_eq_zero (by simpa using this)
    subst hx
    simp at hu
  · have hA : A = some ⟨g, 0, none⟩ := by injection hv
    subst hA
    exact ⟨_, rfl, h.cells (g := g) rfl j u hu⟩
theorem own_cap {w : World} {base : Nat} {T : TypeId} {A : Option Addr} {n c : Nat} {xs : List Value} (h : w.ownsRow base T 1 (.slice A n c) n xs) : n ≤ c ∧ c ≤ maxLen := by
  rcases h.2 with ⟨h', h0⟩ | ⟨g, cap, cur, hv, _, _, hn, hm, _⟩
  · injection h' with _ _ hc
    subst h0; subst hc
    exact ⟨Nat.le_refl _, by unfold maxLen; omega⟩
  · injection hv with _ _ hc
    subst hc
    exact ⟨hn, hm⟩
theorem own_ext {w w' : World} {base : Nat} {T : TypeId} {v : Value} {n : Nat} {xs : List Value} (h : w.ownsRow base T 1 v n xs) (he : Ext w w') : w'.ownsRow base T 1 v n xs := by
  refine ⟨h.1, ?_⟩
  rcases h.2 with hl | ⟨g, cap, cur, hv, hb, hg, hr⟩
  · exact .inl hl
  · exact .inr ⟨g, cap, cur, hv, hb, (Blk.ext (t := T) hg he), hr⟩
theorem own_mono {w : World} {base base' : Nat} {T : TypeId} {v : Value} {n : Nat} {xs : List Value} (h : w.ownsRow base T 1 v n xs) (hb : base' ≤ base) : w.ownsRow base' T 1 v n xs := by
  refine ⟨h.1, ?_⟩
  rcases h.2 with hl | ⟨g, cap, cur, hv, hg, hr⟩
  · exact .inl hl
  · exact .inr ⟨g, cap, cur, hv, Nat.le_trans hb hg, hr⟩
theorem own_block {w : World} {base : Nat} {T : TypeId} {A : Option Addr} {n c : Nat} {xs : List Value} (h : w.ownsRow base T 1 (.slice A n c) n xs) : ∀ ad, A = some ad → base ≤ ad.block ∧ ad.block < w.heap.size := by
  intro ad ha
  subst ha
  exact h.lt ad.block rfl
/-- What is owned and not empty: its block. -/
theorem own_blk {w : World} {base : Nat} {T : TypeId} {A : Option Addr} {n c : Nat} {xs : List Value} (h : w.ownsRow base T 1 (.slice A n c) n xs) (hn : 0 < n) :
    ∃ g cur, A = some ⟨g, 0, none⟩ ∧ base ≤ g ∧ Blk w g T cur ∧ cur.size = c ∧ n ≤ c ∧ c ≤ maxLen ∧ cur.toList.take n = xs := by
  rcases h.2 with ⟨h', h0⟩ | ⟨g, cap, cur, hv, hb, hg, hnc, hm, hs, ht⟩
  · omega
  · injection hv with hA _ hc
    subst hc
    exact ⟨g, cur, hA, hb, hg, by simpa using hs, hnc, hm, by simpa using ht⟩
theorem own_of_blk {w : World} {base : Nat} {T : TypeId} {g c n : Nat} {cur : Array Value} {xs : List Value} (hb : base ≤ g) (hg : Blk w g T cur) (hc : cur.size = c) (hn : n ≤ c) (hm : c ≤ maxLen) (ht : cur.toList.take n = xs) :
    w.ownsRow base T 1 (.slice (some ⟨g, 0, none⟩) n c) n xs := by
  refine ⟨?_, .inr ⟨g, c, cur, rfl, hb, hg, hn, hm, by simpa using hc, by simpa using ht⟩⟩
  rw [← ht, List.length_take]
  simp
  omega

/-- Fresh bytes, and a world that only grew: what a function hands back that makes bytes. -/
structure Fresh (T : TypeId) (w w' : World) (A : Option Addr) (c : Nat) (l : List UInt8) : Prop where
  own : w'.ownsRow w.heap.size T 1 (.slice A l.length c) l.length (l.map bv)
  ext : Ext w w'
theorem Fresh.bs {T : TypeId} {w w' : World} {A : Option Addr} {c : Nat} {l : List UInt8} (h : Fresh T w w' A c l) : Bs w' A l := own_rd h.own
theorem Fresh.cap {T : TypeId} {w w' : World} {A : Option Addr} {c : Nat} {l : List UInt8} (h : Fresh T w w' A c l) : l.length ≤ c := (own_cap h.own).1
theorem Fresh.back {T : TypeId} {w0 w w' : World} {A : Option Addr} {c : Nat} {l : List UInt8} (h : Fresh T w w' A c l) (he : Ext w0 w) : Fresh T w0 w' A c l := ⟨own_mono h.own he.size, he.trans' h.ext⟩
def RetBs (T : TypeId) (w : World) (l : List UInt8) : Ending → World → Prop := fun en w' => ∃ A c, en = .returned (.slice A l.length c) ∧ Fresh T w w' A c l
def RetV (w : World) (v : Value) : Ending → World → Prop := fun en w' => en = .returned v ∧ Ext w w'

/-! ## Operations -/
def OneT (P : Program) (t : TypeId) : Prop := ∃ z b, (P.info? t).map (fun i => (i.zero, i.size, i.bytes)) = some (some z, 1, b) ∧ z.cells.size = 1 ∧ (isAgg t).run P default = .ok false default
theorem OneT.agg {P : Program} {t : TypeId} (h : OneT P t) (w : World) : (isAgg t).run P w = .ok false w := by
  obtain ⟨z, b, _, _, h⟩ := h
  revert h
  simp only [isAgg, underlying, program]
  cases hu : P.underlying t with
  | none => intro h; simp [Sem.run_bind, Sem.run, hu, stuck] at h
  | some d => cases d <;> intro h <;> simp [Sem.run_bind, Sem.run, hu] at h ⊢
theorem typeInfo_run {P : Program} {t : TypeId} {i : TypeInfo} {w : World} (h : P.info? t = some i) : (typeInfo t).run P w = .ok i w := by simp [typeInfo, h]
theorem OneT.info {P : Program} {t : TypeId} (h : OneT P t) : ∃ i z, P.info? t = some i ∧ i.size = 1 ∧ i.zero = some z ∧ z.cells.size = 1 := by
  obtain ⟨z, b, h, hz, _⟩ := h
  cases hi : P.info? t with
  | none => rw [hi] at h; cases h
  | some i =>
    rw [hi] at h
    simp at h
    exact ⟨i, z, rfl, h.2.1, h.1, hz⟩
section
variable {P : Program} {ops : Array Oper} {Q : Exit → (Nat → Value) → World → Prop} {rest : List Oper} {e : Nat → Value} {w : World} {d : Tmp} {ty : TypeId} {pos : String} {aft : Array Edge}
theorem OW_load1 {x : Operand} {t : TypeId} {ad : Addr} (ht : OneT P t) (hx : ev e x = .pointer (some ad)) (v : Value) (hc : w.cell? ad = some v) (h : OW P ops Q rest (upd e d v) w) : OW P ops Q (⟨some d, .load t x, ty, pos, aft, none⟩ :: rest) e w := by
  refine OW_val v rfl ?_ h
  have hl : (loadVar t ad).run P w = .ok v w := by
    simp [loadVar, Sem.run_bind, ht.agg w, load, Sem.run, hc]
  simp [execOp, hx, Instr.loadAt, Instr.sureAddr, hl]
theorem run_store1 {t : TypeId} {ad : Addr} (ht : OneT P t) {v u : Value} (hv : v.oneCell' = true) (hc : w.cell? ad = some u) (hf : w.frozen? ad = false) : (storeVar t ad v).run P w = .ok () (w.setCell ad v) := by
  obtain ⟨i, z, hi, hs, _, _⟩ := ht.info
  have ha : ad.add 0 = ad := rfl
  cases v <;> first
    | (simp [Value.oneCell'] at hv; done)
    | (simp [storeVar, sizeOf, typeInfo, program, Sem.run, hi, hs, Value.cells, storeCells, store, ha, hc, hf])
theorem OW_store1 {x y : Operand} {t : TypeId} {ad : Addr} (ht : OneT P t) (hx : ev e x = .pointer (some ad)) (v u : Value) (hy : ev e y = v) (hv : v.oneCell' = true) (hc : w.cell? ad = some u) (hf : w.frozen? ad = false) (h : OW P ops Q rest e (w.setCell ad v)) :
    OW P ops Q (⟨none, .store t x y, ty, pos, aft, none⟩ :: rest) e w := by
  refine OW_unit _ rfl rfl ?_ h
  simp [execOp, hx, hy, Instr.storeAt, Instr.sureAddr, run_store1 ht hv hc hf]
/-- A store into a block of the call's own. -/
theorem OW_storeB {x y : Operand} {t T : TypeId} {g i : Nat} {cs : Array Value} (ht : OneT P t) (hx : ev e x = .pointer (some ⟨g, i, none⟩)) (v : Value) (hy : ev e y = v) (hv : v.oneCell' = true) (hb : Blk w g T cs) (hi : i < cs.size)
    (h : ∀ w', Blk w' g T (cs.setIfInBounds i v) → w.grownBy w' (some g) → OW P ops Q rest e w') :
    OW P ops Q (⟨none, .store t x y, ty, pos, aft, none⟩ :: rest) e w :=
  OW_store1 ht hx v cs[i] hy hv (by rw [hb.cell]; simp [hi]) (hb.frozen i) (h _ (hb.set_ i v) (only_set w g i v))
theorem OW_idxS {x y : Operand} {t el : TypeId} {ad : Addr} {n c : Nat} {k : IntKind} {j : Int} (ht : P.underlying t = some (.slice el)) (hel : OneT P el) (hx : ev e x = .slice (some ad) n c) (hy : ev e y = .int k j) (jN : Nat) (hj : j = (jN : Int)) (hn : jN < n)
    (h : OW P ops Q rest (upd e d (.pointer (some (ad.add jN)))) w) : OW P ops Q (⟨some d, .indexAddr t x y, ty, pos, aft, none⟩ :: rest) e w := by
  refine OW_val _ rfl ?_ h
  obtain ⟨i, z, hi, hs, _, _⟩ := hel.info
  subst hj
  have h1 : (0 : Int) ≤ (jN : Int) ∧ (jN : Int) < (n : Int) := by omega
  simp [execOp, hx, hy, Instr.indexAt, asIntOf, run_underlying ht, sizeOf, typeInfo, hi, hs, hn]
theorem OW_idxA {x y : Operand} {t el : TypeId} {ad : Addr} {n : Nat} {k : IntKind} {j : Int} (ht : P.underlying t = some (.array n el)) (hel : OneT P el) (hx : ev e x = .pointer (some ad)) (hy : ev e y = .int k j) (jN : Nat) (hj : j = (jN : Int)) (hn : jN < n)
    (h : OW P ops Q rest (upd e d (.pointer (some (ad.add jN)))) w) : OW P ops Q (⟨some d, .indexAddr t x y, ty, pos, aft, none⟩ :: rest) e w := by
  refine OW_val _ rfl ?_ h
  obtain ⟨i, z, hi, hs, _, _⟩ := hel.info
  subst hj
  simp [execOp, hx, hy, Instr.indexAt, Instr.sureAddr, asIntOf, run_underlying ht, sizeOf, typeInfo, hi, hs, hn]
/-- A bound of a cut. -/
def bnd (e : Nat → Value) (x : Option Operand) (dflt v : Int) : Prop := match x with | some o => ∃ k, ev e o = .int k v | none => v = dflt
theorem run_bnd {x : Operand} {v : Int} {y : Nat} {code : BoundsCode} {k : IntKind} (h : ev e x = .int k v) (h0 : 0 ≤ v ∧ v ≤ y) : (Instr.sliceBound (ev e x) y code).run P w = .ok v.toNat w := by
  simp [Instr.sliceBound, asIntOf, h, h0.1, h0.2]
theorem run_slice {t el : TypeId} {A : Option Addr} {n c : Nat} {lo hi mx : Option Operand} {lv hv mv : Int} (ht : P.underlying t = some (.slice el)) (hel : OneT P el)
    (hlo : bnd e lo 0 lv) (hhi : bnd e hi n hv) (hmx : bnd e mx c mv) (hmh : mx.isSome = true → hi.isSome = true) (hb : 0 ≤ lv ∧ lv ≤ hv ∧ hv ≤ mv ∧ mv ≤ c) :
    (Instr.sliceAt t (.slice A n c) (lo.map (ev e)) (hi.map (ev e)) (mx.map (ev e))).run P w = .ok (.slice (cutA A mv.toNat lv.toNat) (hv.toNat - lv.toNat) (mv.toNat - lv.toNat)) w := by
  obtain ⟨i, z, hi', hs, _, _⟩ := hel.info
  obtain ⟨b0, b1, b2, b3⟩ := hb
  have hvn : ((hv.toNat : Nat) : Int) = hv := by omega
  have hmn : ((mv.toNat : Nat) : Int) = mv := by omega
  have key : (Instr.sliceBounds true n c (lo.map (ev e)) (hi.map (ev e)) (mx.map (ev e))).run P w = .ok (lv.toNat, hv.toNat, mv.toNat) w := by
    cases mx with
    | none =>
      simp only [bnd] at hmx
      subst hmx
      cases hi with
      | none =>
        simp only [bnd] at hhi
        subst hhi
        cases lo with
        | none => simp only [bnd] at hlo; subst hlo; simp [Instr.sliceBounds]
        | some lo =>
          obtain ⟨k, hlo⟩ := hlo
          simp [Instr.sliceBounds, run_bnd (P := P) (w := w) (y := n) (code := .sliceB) hlo ⟨b0, by omega⟩]
      | some hi =>
        obtain ⟨k, hhi⟩ := hhi
        have r1 := run_bnd (P := P) (w := w) (y := c) (code := .sliceAcap) hhi ⟨by omega, by omega⟩
        cases lo with
        | none => simp only [bnd] at hlo; subst hlo; simp [Instr.sliceBounds, r1]
        | some lo =>
          obtain ⟨k, hlo⟩ := hlo
          simp [Instr.sliceBounds, r1, run_bnd (P := P) (w := w) (y := hv.toNat) (code := .sliceB) hlo ⟨b0, by omega⟩]
    | some mx =>
      obtain ⟨k, hmx⟩ := hmx
      have r0 := run_bnd (P := P) (w := w) (y := c) (code := .slice3Acap) hmx ⟨by omega, by omega⟩
      cases hi with
      | none => simp at hmh
      | some hi =>
        obtain ⟨k, hhi⟩ := hhi
        have r1 := run_bnd (P := P) (w := w) (y := mv.toNat) (code := .slice3B) hhi ⟨by omega, by omega⟩
        cases lo with
        | none => simp only [bnd] at hlo; subst hlo; simp [Instr.sliceBounds, r0, r1]
        | some lo =>
          obtain ⟨k, hlo⟩ := hlo
          simp [Instr.sliceBounds, r0, r1, run_bnd (P := P) (w := w) (y := hv.toNat) (code := .slice3C) hlo ⟨b0, by omega⟩]
  simp [Instr.sliceAt, Instr.slice, run_underlying ht, key, sizeOf, typeInfo, hi', hs, cutA]
theorem OW_slice {x : Operand} {t el : TypeId} {A : Option Addr} {n c : Nat} {lo hi mx : Option Operand} {lv hv mv : Int} (ht : P.underlying t = some (.slice el)) (hel : OneT P el) (hx : ev e x = .slice A n c)
    (hlo : bnd e lo 0 lv) (hhi : bnd e hi n hv) (hmx : bnd e mx c mv) (hmh : mx.isSome = true → hi.isSome = true) (hb : 0 ≤ lv ∧ lv ≤ hv ∧ hv ≤ mv ∧ mv ≤ c)
    (h : OW P ops Q rest (upd e d (.slice (cutA A mv.toNat lv.toNat) (hv.toNat - lv.toNat) (mv.toNat - lv.toNat))) w) : OW P ops Q (⟨some d, .slice t x lo hi mx, ty, pos, aft, none⟩ :: rest) e w := by
  refine OW_val _ rfl ?_ h
  simp [execOp, hx, run_slice ht hel hlo hhi hmx hmh hb]
/-- A cut of bytes that are only read: its place gets a name. -/
theorem OW_sliceBs {x : Operand} {t el : TypeId} {A : Option Addr} {n c : Nat} {l : List UInt8} {lo hi : Option Operand} {lv hv : Int} (ht : P.underlying t = some (.slice el)) (hel : OneT P el) (hbs : Bs w A l) (hn : n = l.length) (hc : n ≤ c) (hx : ev e x = .slice A n c)
    (hlo : bnd e lo 0 lv) (hhi : bnd e hi n hv) (lN hN : Nat) (hl : lv = (lN : Int)) (hh : hv = (hN : Int)) (hb : lN ≤ hN ∧ hN ≤ n)
    (h : ∀ A', Bs w A' ((l.drop lN).take (hN - lN)) → ((l.drop lN).take (hN - lN)).length = hN - lN → OW P ops Q rest (upd e d (.slice A' (hN - lN) (c - lN))) w) : OW P ops Q (⟨some d, .slice t x lo hi none, ty, pos, aft, none⟩ :: rest) e w := by
  subst hl; subst hh
  have := h (cutA A c lN) (hbs.cut c lN (hN - lN) (by omega)) (by simp; omega)
  exact OW_slice (mx := none) (mv := c) ht hel hx hlo hhi rfl (fun h => by cases h) (by omega) (by simpa using this)
/-- make([]T, n). -/
theorem OW_make {x y : Operand} {t el : TypeId} {z : Value} {b : Nat} {n : Nat} {k k' : IntKind} {j j' : Int} (ht : P.underlying t = some (.slice el)) (hinfo : (P.info? el).map (fun i => (i.zero, i.size, i.bytes)) = some (some z, 1, b)) (hz : z.cells = #[z])
    (hx : ev e x = .int k j) (hy : ev e y = .int k' j') (hj : j = (n : Int)) (hj' : j' = (n : Int)) (hb : b * n ≤ 281474976710656) (hm : n ≤ maxLen)
    (h : ∀ w' g, Blk w' g el (Array.replicate n z) → w.heap.size ≤ g → Ext w w' → OW P ops Q rest (upd e d (.slice (some ⟨g, 0, none⟩) n n)) w') : OW P ops Q (⟨some d, .makeSlice t x y, ty, pos, aft, none⟩ :: rest) e w := by
  subst hj; subst hj'
  obtain ⟨i0, hi, h1, h2, h3⟩ := info_parts hinfo
  have hr := run_make (P := P) w t el i0 z ht hi h1 k k' n n (by omega) (by omega) (by rw [h3, ← Int.natCast_mul]; omega) (by unfold maxLen at hm; omega)
  have harr : madeCells z.cells (((n : Int)).toNat * i0.size) = Array.replicate n z := by
    apply Array.ext'
    rw [hz, h2, toList_madeCells_one]
    simp
  rw [harr] at hr
  simp only [Int.toNat_natCast] at hr
  refine OW_valw (.slice (some ⟨w.heap.size, 0, none⟩) n n) (w.alloc (.cells (Array.replicate n z) el)) rfl ?_ (h _ w.heap.size (Blk.new w el _) (Nat.le_refl _) (Ext.alloc' w _))
  simp [execOp, hx, hy, hr]
/-- append of a slice onto a row of the call's own. -/
theorem OW_append {x y : Operand} {t el : TypeId} {z : Value} {b : Nat} {base : Nat} {A A' : Option Addr} {n c m c' : Nat} {xs news : List Value} (ht : P.underlying t = some (.slice el)) (hinfo : (P.info? el).map (fun i => (i.zero, i.size, i.bytes)) = some (some z, 1, b)) (hz : z.cells.size = 1)
    (hx : ev e x = .slice A n c) (hy : ev e y = .slice A' m c') (hown : w.ownsRow base el 1 (.slice A n c) n xs) (hrd : Rd w A' news) (hl : news.length = m) (h1 : ∀ u ∈ news, u.oneCell' = true)
    (hm : n + m ≤ maxLen) (hb : (n + m) * b ≤ 140737488355328) (hbase : base ≤ w.heap.size)
    (h : ∀ w' A2 c2, w'.ownsRow base el 1 (.slice A2 (n + m) c2) (n + m) (xs ++ news) → Below base w w' → OW P ops Q rest (upd e d (.slice A2 (n + m) c2)) w') :
    OW P ops Q (⟨some d, .call { callee := .builtin .append, args := #[x, y], argTypes := #[t, t] }, ty, pos, aft, none⟩ :: rest) e w := by
  obtain ⟨i0, hi, hz1, h2, h3⟩ := info_parts hinfo
  have step : ∃ v' w', (Builtin.append_ #[t, t] ty #[.slice A n c, .slice A' m c']).run P w = .ok v' w' ∧ w'.ownsRow base el 1 v' (n + m) (xs ++ news) ∧ w.grownBy w' (Value.ownBlock (.slice A n c)) := by
    cases A' with
    | none =>
      have hn0 : news = [] := by
        cases news with
        | nil => rfl
        | cons u r => obtain ⟨ad, ha, _⟩ := hrd 0 u rfl; cases ha
      subst hn0
      have hm0 : m = 0 := by simpa using hl.symm
      subst hm0
      refine ⟨.slice A n c, w, ?_, by simpa using hown, World.grownBy.refl w _⟩
      rcases hown.2 with ⟨h', h0⟩ | ⟨g, cap, cur, hv, _, _, hnc, _⟩
      · injection h' with hA _ hc
        subst hA; subst h0; subst hc
        simp [Builtin.append_, run_underlying ht, sizeOf, typeInfo, hi, Builtin.lenOf, Builtin.firstCells]
      · injection hv with hA _ hc
        subst hA; subst hc
        simp [Builtin.append_, run_underlying ht, sizeOf, typeInfo, hi, Builtin.lenOf, Builtin.firstCells, hnc, storeCells]
    | some ad =>
      obtain ⟨v', w', hrun, g1, g2, _⟩ := run_append_own (P := P) w base t ty el i0 z 1 b ht hi hz1 h2 h3 hz (by decide) (.slice A n c) n xs hown ad m c' news (by simpa using hl)
        (fun j u hu => by obtain ⟨ad', ha, hc⟩ := hrd j u hu; cases ha; exact hc) h1 hm hb hbase
      exact ⟨v', w', hrun, g1, g2⟩
  obtain ⟨v', w', hrun, g1, g2⟩ := step
  have hform : ∃ A2 c2, v' = .slice A2 (n + m) c2 := by
    rcases g1.2 with ⟨h', h0⟩ | ⟨g, cap, cur, hv, _⟩
    · exact ⟨none, 0, by rw [h', h0]⟩
    · exact ⟨_, _, hv⟩
  obtain ⟨A2, c2, rfl⟩ := hform
  refine OW_valw (.slice A2 (n + m) c2) w' rfl ?_ (h w' A2 c2 g1 ((Below.refl base w).grown g2 hbase (fun k hk => (hown.lt k hk).1)))
  simp [execOp, resolve, invoke, builtin, hx, hy, hrun]
/-- A literal slice. -/
def idxParts : List Value → Nat → List (Nat × Value)
  | [], _ => []
  | v :: l, k => (k, v) :: idxParts l (k + 1)
theorem cells_one {v : Value} (h : v.oneCell' = true) : v.cells = #[v] := by cases v <;> first | rfl | (simp [Value.oneCell'] at h)
theorem fill_parts : ∀ (vs : List Value) (k : Nat) (cs : Array Value), (∀ v ∈ vs, v.oneCell' = true) → cs.size = k + vs.length → Instr.fill (fun i => some (i * 1, 1)) cs (idxParts vs k) = some (cs.toList.take k ++ vs).toArray
  | [], k, cs, _, hs => by
    simp only [idxParts, Instr.fill, List.append_nil]
    rw [List.take_of_length_le (by simp at hs ⊢; omega)]
  | v :: vs, k, cs, h1, hs => by
    have hv := cells_one (h1 v List.mem_cons_self)
    simp only [List.length_cons] at hs
    have ih := fill_parts vs (k + 1) (cs.setIfInBounds k v) (fun u hu => h1 u (List.mem_cons_of_mem _ hu)) (by simp; omega)
    unfold idxParts Instr.fill
    simp only [hv]
    have hc : ¬ ((decide ((#[v] : Array Value).size ≠ 1) || decide (k * 1 + (#[v] : Array Value).size > cs.size)) = true) := by simp; omega
    rw [if_neg hc]
    have hf : (#[v] : Array Value).zipIdx.foldl (fun cs x => cs.setIfInBounds (k * 1 + x.2) x.1) cs = cs.setIfInBounds k v := by simp
    have : ((cs.setIfInBounds k v).toList.take (k + 1) ++ vs) = (cs.toList.take k ++ v :: vs) := by
      rw [Array.toList_setIfInBounds, List.take_succ_eq_append_getElem (by simp; omega)]
      simp [List.take_set_of_le]
    rw [this] at ih
    exact hf ▸ ih
theorem OW_lit {t el : TypeId} {n : Nat} {parts : Array (Nat × Operand)} {z : Value} {b : Nat} (vs : List Value) (ht : P.underlying t = some (.slice el)) (hinfo : (P.info? el).map (fun i => (i.zero, i.size, i.bytes)) = some (some z, 1, b))
    (hp : parts.toList.map (fun x => (x.1, ev e x.2)) = idxParts vs 0) (hn : n = vs.length) (h1 : ∀ v ∈ vs, v.oneCell' = true) (hlt : n ≤ 1000)
    (h : ∀ w' g, Blk w' g el vs.toArray → w.heap.size ≤ g → Ext w w' → OW P ops Q rest (upd e d (.slice (some ⟨g, 0, none⟩) n n)) w') : OW P ops Q (⟨some d, .buildSlice t n parts, ty, pos, aft, none⟩ :: rest) e w := by
  obtain ⟨i0, hi, hz, h2, h3⟩ := info_parts hinfo
  refine OW_valw (.slice (some ⟨w.heap.size, 0, none⟩) n n) (w.alloc (.cells vs.toArray el)) rfl ?_ (h _ w.heap.size (Blk.new w el _) (Nat.le_refl _) (Ext.alloc' w _))
  have hpp : (parts.map fun x => (x.1, ev e x.2)).toList = idxParts vs 0 := by rw [Array.toList_map]; exact hp
  have hbig : ¬ (n * 1 > 2 ^ 24) := by omega
  have key : ∀ zs : Array Value, zs.size = n → Instr.fill (fun i => some (i * 1, 1)) zs (parts.map fun x => (x.1, ev e x.2)).toList = some vs.toArray := fun zs hz => by
    rw [hpp, fill_parts vs 0 zs h1 (by rw [hz, hn]; simp)]
    simp
  have hrun : (Instr.buildSlice t n (parts.map fun x => (x.1, ev e x.2))).run P w = .ok (.slice (some ⟨w.heap.size, 0, none⟩) n n) (w.alloc (.cells vs.toArray el)) := by
    by_cases h0 : n * 1 = 0
    · simp only [Instr.buildSlice, Sem.run_bind, run_underlying ht, Result.andThen_ok, sizeOf, typeInfo_run hi, h2, Sem.run_pure, if_neg hbig, if_pos h0, key _ (show (Array.map (fun x => (#[] : Array Value)[x % (#[] : Array Value).size]!) (Array.range (n * 1))).size = n by simp)]
      rfl
    · simp only [Instr.buildSlice, Sem.run_bind, run_underlying ht, Result.andThen_ok, sizeOf, typeInfo_run hi, h2, Sem.run_pure, if_neg hbig, if_neg h0, zeroValue, hz, key _ (show (Array.map (fun x => z.cells[x % z.cells.size]!) (Array.range (n * 1))).size = n by simp)]
      rfl
  simp only [execOp, Sem.run_bind]
  rw [show (parts.map fun (x : Nat × Operand) => match x with | (i, x) => (i, ev e x)) = parts.map fun x => (x.1, ev e x.2) from rfl, hrun]
  rfl
/-- A call that hands back fresh bytes. -/
theorem OW_callBs {f : FuncId} {fn : Func} {args : List Operand} {args' : List Value} {tys : Array TypeId} {T : TypeId} {l : List UInt8} (hf : P.funcs[f]? = some fn) (hn : (fn.name == "runtime.NumGoroutine") = false) (hb : fn.body.isNone = false)
    (hc : Calls P f args'.toArray w (RetBs T w l)) (ha : args.map (ev e) = args') (h : ∀ w' A c, Fresh T w w' A c l → OW P ops Q rest (upd e d (.slice A l.length c)) w') :
    OW P ops Q (⟨some d, .call { callee := .value (.func f), args := args.toArray, argTypes := tys }, ty, pos, aft, none⟩ :: rest) e w :=
  OW_callC hf hn hb hc ha fun en w' ⟨A, c, he, hf⟩ => ⟨_, he, h w' A c hf⟩
/-- The first append, onto nil. -/
theorem OW_append0 {x y : Operand} {t el : TypeId} {z : Value} {b : Nat} {base : Nat} {A' : Option Addr} {m c' : Nat} {news : List Value} (ht : P.underlying t = some (.slice el)) (hinfo : (P.info? el).map (fun i => (i.zero, i.size, i.bytes)) = some (some z, 1, b)) (hz : z.cells.size = 1)
    (hx : ev e x = .slice none 0 0) (hy : ev e y = .slice A' m c') (hrd : Rd w A' news) (hl : news.length = m) (h1 : ∀ u ∈ news, u.oneCell' = true)
    (hm : m ≤ maxLen) (hb : m * b ≤ 140737488355328) (hbase : base ≤ w.heap.size)
    (h : ∀ w' A2 c2, w'.ownsRow base el 1 (.slice A2 m c2) m news → Below base w w' → OW P ops Q rest (upd e d (.slice A2 m c2)) w') :
    OW P ops Q (⟨some d, .call { callee := .builtin .append, args := #[x, y], argTypes := #[t, t] }, ty, pos, aft, none⟩ :: rest) e w :=
  OW_append ht hinfo hz hx hy (World.ownsRow_nil w base el 1) hrd hl h1 (by omega) (by rw [Nat.zero_add]; exact hb) hbase fun w' A2 c2 ho hb => by
    rw [Nat.zero_add, List.nil_append] at ho
    rw [Nat.zero_add]
    exact h w' A2 c2 ho hb
end
theorem bv_one (l : List UInt8) : ∀ u ∈ l.map bv, u.oneCell' = true := by
  intro u hu
  obtain ⟨b, _, rfl⟩ := List.mem_map.1 hu
  rfl
end Go.Proofs.Ytdpomchhbbopbaa
