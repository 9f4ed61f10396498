/- Several texts in one, as they stand in wip/src. -/
import Derived.RangeFuncNested
import Derived.RangeFuncCalls
import Derived.RangeFuncLeaves
import Derived.TacticsIn
import Derived.OrdersIn
import Derived.Shelf.Abstract
import Derived.Test.YtdpcahfgdpikfaaGt3
import Derived.Test.YtdpcahfgdpikfaaGt5
/- Walks of code that ranges over a function: the same calculus within a round, and behind such a loop; calls of yield; the loop itself, for iterators that turn cells of their own. No program in sight. -/
namespace Go.Proofs.Ytdpcahfgdpikfaa
open Go Go.RowKit
set_option linter.unusedVariables false

def fen : Option Nat → Fence
  | none => Fence.wide
  | some l => Fence.wide.inRound l
theorem fen_fn (rd : Option Nat) (f : FuncId) : (fen rd).fn f := by cases rd <;> trivial
theorem fen_depth (rd : Option Nat) : (fen rd).depth = none := by cases rd <;> rfl
theorem fen_round (rd : Option Nat) : (fen rd).round = rd := by cases rd <;> rfl
structure StD (n : Nat) (ds : List Deferred) (a : Act) (e : Nat → Value) : Prop where
  size : a.tmps.size = n
  def_ : a.defers = ds
  at_ : ∀ i, a.tmps.getD i undef = e i
theorem StD.st {n : Nat} {ds : List Deferred} {a : Act} {e : Nat → Value} (h : StD n ds a e) : St n { a with defers := [] } e := ⟨h.size, rfl, h.at_⟩
theorem StD.ev {n : Nat} {ds : List Deferred} {a : Act} {e : Nat → Value} (h : StD n ds a e) : a.eval = ev e := h.st.ev
theorem StD.put {n : Nat} {ds : List Deferred} {a : Act} {e : Nat → Value} (h : StD n ds a e) {d : Option Tmp} (hd : ∀ k, d = some k → k < n) (v : Value) : StD n ds (a.put d v) (put e d v) := by
  have h2 := h.st.put hd v
  cases d with
  | none => exact h
  | some d => exact ⟨h2.size, h.def_, h2.at_⟩
theorem wanted_eqD {n : Nat} {ds : List Deferred} {a : Act} {e : Nat → Value} (h : StD n ds a e) {ops : Array Oper} (o : Oper) : Region.wanted o (yielded ops a.tmps) = wantedE ops e o := wanted_eq h.st o

/-- A round that yield asks for. -/
def RoundW (P : Program) (l : Nat) (f : FuncId) (tmps : Array Value) (assign body : Code) (w : World) (R : Ending → World → Prop) : Prop := ∀ m, RoundIn Fence.wide m P l f tmps assign body w R
def opUponF (P : Program) (w0 : World) (K : Value → World → Prop) : Result Next → Prop
  | .ok (.value v) w => K v w
  | .ok .skip w => K undef w
  | .ok (.enter f args) w => w = w0 ∧ Calls P f args w fun en w' => ∃ v, en = .returned v ∧ K v w'
  | .ok (.round l f tmps assign body) w => RoundW P l f tmps assign body w fun en w' => ∃ v, en = .returned v ∧ K v w'
  | _ => False
def opWF (P : Program) (o : Oper) (e : Nat → Value) (w : World) (K : Value → World → Prop) : Prop := opUponF P w K ((execOp (ev e) o).run P w)
theorem opWF_of {P : Program} {o : Oper} {e : Nat → Value} {w : World} {K : Value → World → Prop} (h : opW P o e w K) : opWF P o e w K := by
  unfold opW at h
  unfold opWF
  generalize (execOp (ev e) o).run P w = r at *
  cases r with
  | ok x w' => cases x <;> simp only [opUpon] at h <;> simp only [opUponF] <;> exact h
  | halt x w' => simp only [opUpon] at h
theorem calls_fen {P : Program} {f : FuncId} {args : Array Value} {w : World} {R : Ending → World → Prop} (rd : Option Nat) (m : Nat) (h : Calls P f args w R) : CallsIn (fen rd) m P f args w R := by
  cases rd with
  | none => exact callsIn_wide.2 h
  | some l => exact CallsIn.inRound l (callsIn_wide.2 h)
theorem round_fen {P : Program} {l : Nat} {f : FuncId} {tmps : Array Value} {assign body : Code} {w : World} {R : Ending → World → Prop} (rd : Option Nat) (m : Nat) (h : RoundW P l f tmps assign body w R) : RoundIn (fen rd) m P l f tmps assign body w R := by
  cases rd with
  | none => exact h m
  | some k => exact h m
theorem Oper.wpIn_of_opWF {P : Program} {o : Oper} {a : Act} {n m : Nat} {rd : Option Nat} {ds : List Deferred} {e : Nat → Value} {w : World} (hs : StD n ds a e) {K : Value → World → Prop} {next : Act → World → Prop} {Q : Exit → Act → World → Prop}
    (h : opWF P o e w K) (hk : ∀ v w', K v w' → next (a.put o.dst v) w') : o.wpIn (fen rd) m P a w next Q := by
  unfold Oper.wpIn
  refine ⟨fun f _ => fen_fn rd f, ?_⟩
  unfold opWF at h
  have hnd : ∀ c, o.op ≠ .defer c := by
    intro c hc
    unfold execOp at h
    rw [hc] at h
    simp only [Sem.run_bind] at h
    generalize (resolve (ev e) c o.type).run P w = r at h
    cases r with
    | ok x w' => simp [Result.andThen, opUponF] at h
    | halt x w' => simp [Result.andThen, opUponF] at h
  rw [Oper.semAt_eq _ _ _ hnd, hs.ev]
  generalize (execOp (ev e) o).run P w = r at *
  cases r with
  | ok x w' =>
    cases x <;> simp only [opUponF] at h <;> simp only [Oper.uponIn]
    case value v => exact hk _ _ h
    case skip => exact hk _ _ h
    case enter f args =>
      refine ⟨fun hd => (by rw [fen_depth] at hd; cases hd), (calls_fen rd _ h.2).mono fun en w'' hh => ?_⟩
      obtain ⟨v, rfl, hv⟩ := hh
      exact hk _ _ hv
    case round l f tmps assign body =>
      refine ⟨fun hd => (by rw [fen_depth] at hd; cases hd), (round_fen rd _ h).mono fun en w'' hh => ?_⟩
      obtain ⟨v, rfl, hv⟩ := hh
      exact hk _ _ hv
  | halt x w' => simp only [opUponF] at h
/-- A list of operations, calls of yield among them. -/
def OWF (P : Program) (ops : Array Oper) (Q : Exit → (Nat → Value) → World → Prop) : List Oper → (Nat → Value) → World → Prop
  | [], e, w => Q .normal e w
  | o :: rest, e, w => if wantedE ops e o then opWF P o e w (fun v w' => OWF P ops Q rest (put e o.dst v) w') else OWF P ops Q rest (put e o.dst undef) w
def QD (n : Nat) (ds : List Deferred) (Q : Exit → (Nat → Value) → World → Prop) : Exit → Act → World → Prop := fun x a w => ∃ e, StD n ds a e ∧ Q x e w
theorem wpListIn_of_OWF {P : Program} {ops : Array Oper} {n m : Nat} {rd : Option Nat} {ds : List Deferred} {Q : Exit → (Nat → Value) → World → Prop} : ∀ (l : List Oper) {a : Act} {e : Nat → Value} {w : World},
    dstsIn n l = true → StD n ds a e → OWF P ops Q l e w → wpListIn (fen rd) m P ops (QD n ds Q) l a w
  | [], _, e, _, _, hs, h => ⟨e, hs, h⟩
  | o :: l, a, e, w, hd, hs, h => by
    obtain ⟨hd0, hd1⟩ := dstsIn_cons hd
    unfold wpListIn
    rw [wanted_eqD hs]
    unfold OWF at h
    split
    · rename_i hw
      rw [if_pos hw] at h
      exact Oper.wpIn_of_opWF hs h fun v w' hv => wpListIn_of_OWF l hd1 (hs.put hd0 v) hv
    · rename_i hw
      rw [if_neg hw] at h
      exact ⟨fun f _ => fen_fn rd f, wpListIn_of_OWF l hd1 (hs.put hd0 undef) h⟩
theorem OWF_of {P : Program} {ops : Array Oper} {Q : Exit → (Nat → Value) → World → Prop} : ∀ (l : List Oper) {e : Nat → Value} {w : World}, OW P ops Q l e w → OWF P ops Q l e w
  | [], e, w, h => by unfold OW at h; exact h
  | o :: l, e, w, h => by
    unfold OW at h
    unfold OWF
    split
    · rename_i hw
      rw [if_pos hw] at h
      exact opWF_of (opW_mono h fun v w' hv => OWF_of l hv)
    · rename_i hw
      rw [if_neg hw] at h
      exact OWF_of l h
theorem OWF_one {P : Program} {ops : Array Oper} {Q : Exit → (Nat → Value) → World → Prop} {o : Oper} {rest : List Oper} {e : Nat → Value} {w : World} (h : OW P ops (fun _ e' w' => OWF P ops Q rest e' w') [o] e w) : OWF P ops Q (o :: rest) e w := by
  unfold OW at h
  unfold OWF
  split
  · rename_i hw
    rw [if_pos hw] at h
    exact opWF_of (opW_mono h fun v w' hv => by unfold OW at hv; exact hv)
  · rename_i hw
    rw [if_neg hw] at h
    unfold OW at h
    exact h
theorem OWF_nil {P : Program} {ops : Array Oper} {Q : Exit → (Nat → Value) → World → Prop} {e : Nat → Value} {w : World} (h : Q .normal e w) : OWF P ops Q [] e w := h
/-- A call of yield. -/
def YieldW (P : Program) (l : Nat) (args : Array Value) (W : World) (R : Ending → World → Prop) : Prop :=
  ∃ fn tmps assign body, (Instr.yield l args).run P W = .ok (.round l fn tmps assign body) W ∧ RoundW P l fn tmps assign body W R
theorem YieldW.mono {P : Program} {l : Nat} {args : Array Value} {W : World} {R R' : Ending → World → Prop} (h : YieldW P l args W R) (hr : ∀ e w, R e w → R' e w) : YieldW P l args W R' := by
  obtain ⟨fn, tmps, assign, body, h1, h2⟩ := h
  exact ⟨fn, tmps, assign, body, h1, fun m => (h2 m).mono hr⟩
theorem OWF_yield {P : Program} {ops : Array Oper} {Q : Exit → (Nat → Value) → World → Prop} {rest : List Oper} {e : Nat → Value} {w : World} {dst : Option Tmp} {ty : TypeId} {pos : String} {aft : Array Edge} {x : Operand} {args : List Operand} {args' : List Value} {tys : Array TypeId} {l : Nat} {g : Option (Nat × Bool)}
    (hw : wantedE ops e ⟨dst, .call { callee := .value x, args := args.toArray, argTypes := tys }, ty, pos, aft, g⟩ = true) (hx : ev e x = .func (.yield l) #[] #[]) (ha : args.map (ev e) = args')
    (h : YieldW P l args'.toArray w fun en w' => ∃ v, en = .returned v ∧ OWF P ops Q rest (put e dst v) w') : OWF P ops Q (⟨dst, .call { callee := .value x, args := args.toArray, argTypes := tys }, ty, pos, aft, g⟩ :: rest) e w := by
  obtain ⟨fn, tmps, assign, body, h1, h2⟩ := h
  unfold OWF
  rw [if_pos hw]
  unfold opWF
  have : (execOp (ev e) ⟨dst, .call { callee := .value x, args := args.toArray, argTypes := tys }, ty, pos, aft, g⟩).run P w = .ok (.round l fn tmps assign body) w := by
    subst ha
    simp only [execOp, resolve, hx, Deferred.ofValue]
    simpa [invoke] using h1
  rw [this]
  exact h2

/-- Code, in a round or not, with marks among what is deferred. -/
def FW (rd : Option Nat) (ds : List Deferred) (P : Program) (n : Nat) (c : Code) (Q : Exit → (Nat → Value) → World → Prop) (e : Nat → Value) (w : World) : Prop := ∀ m a, StD n ds a e → c.wpIn (fen rd) m P (QD n ds Q) a w
section
variable {rd : Option Nat} {ds : List Deferred} {P : Program} {n : Nat} {Q : Exit → (Nat → Value) → World → Prop} {e : Nat → Value} {w : World}
theorem FW.mono {c : Code} {Q' : Exit → (Nat → Value) → World → Prop} (h : FW rd ds P n c Q e w) (hq : ∀ x e w, Q x e w → Q' x e w) : FW rd ds P n c Q' e w :=
  fun m a hs => wpIn_mono (h m a hs) fun x a w ⟨e, hs, hx⟩ => ⟨e, hs, hq _ _ _ hx⟩
theorem FW_of_CW {c : Code} (h : CW P n c Q e w) : FW none [] P n c Q e w := by
  unfold CW at h
  intro m a hs
  refine wpIn_wide.2 (wp_mono (h a ⟨hs.size, hs.def_, hs.at_⟩) ?_)
  rintro x a w ⟨e, hs, hx⟩
  exact ⟨e, ⟨hs.size, hs.def_, hs.at_⟩, hx⟩
theorem CW_of_FW {c : Code} (h : FW none [] P n c Q e w) : CW P n c Q e w := by
  unfold CW
  intro a hs
  refine wp_mono (wpIn_wide.1 (h 0 a ⟨hs.size, hs.def_, hs.at_⟩)) ?_
  rintro x a w ⟨e, hs, hx⟩
  exact ⟨e, ⟨hs.size, hs.def_, hs.at_⟩, hx⟩
theorem FW_seq {x y : Code} (h : FW rd ds P n x (thenE (FW rd ds P n y Q) Q) e w) : FW rd ds P n (.seq x y) Q e w := by
  intro m a hs
  refine wpIn_seq (wpIn_mono (h m a hs) fun x a w hx => ?_)
  obtain ⟨e, hs, hx⟩ := hx
  unfold thenE at hx
  cases x <;> first | exact hx m a hs | exact ⟨e, hs, hx⟩
theorem FW_skip (h : Q .normal e w) : FW rd ds P n .skip Q e w := fun _ _ hs => wpIn_skip ⟨e, hs, h⟩
theorem FW_exit {id : Nat} (h : Q (.exit id) e w) : FW rd ds P n (.exit id) Q e w := fun _ _ hs => wpIn_exit ⟨e, hs, h⟩
theorem FW_ret (h : Q .ret e w) : FW rd ds P n .ret Q e w := fun _ _ hs => wpIn_ret ⟨e, hs, h⟩
theorem FW_block {id : Nat} {c : Code} (h : FW rd ds P n c (inBlockE id Q) e w) : FW rd ds P n (.block id c) Q e w := by
  intro m a hs
  refine wpIn_block (wpIn_mono (h m a hs) fun x a w hx => ?_)
  obtain ⟨e, hs, hx⟩ := hx
  unfold inBlockE at hx
  cases x with
  | exit id' =>
    simp only at hx
    simp only [Exit.inBlock]
    split
    · rename_i h; rw [if_pos h] at hx; exact ⟨e, hs, hx⟩
    · rename_i h; rw [if_neg h] at hx; exact ⟨e, hs, hx⟩
  | _ => exact ⟨e, hs, hx⟩
theorem FW_cond {c : Operand} {x y : Code} (b : Bool) (hc : ev e c = .bool b) (ht : b = true → FW rd ds P n x Q e w) (hf : b = false → FW rd ds P n y Q e w) : FW rd ds P n (.cond c x y) Q e w := by
  intro m a hs
  cases b with
  | true => exact wpIn_cond_true (by rw [hs.ev]; exact hc) (ht rfl m a hs)
  | false => exact wpIn_cond_false (by rw [hs.ev]; exact hc) (hf rfl m a hs)
theorem FW_condT {c : Operand} {x y : Code} (hc : ev e c = .bool true) (h : FW rd ds P n x Q e w) : FW rd ds P n (.cond c x y) Q e w := FW_cond true hc (fun _ => h) (fun h => by cases h)
theorem FW_condF {c : Operand} {x y : Code} (hc : ev e c = .bool false) (h : FW rd ds P n y Q e w) : FW rd ds P n (.cond c x y) Q e w := FW_cond false hc (fun h => by cases h) (fun _ => h)
theorem FW_region {id : Nat} {l : List Oper} (hd : dstsIn n l = true) (h : OW P l.toArray Q l e w) : FW rd ds P n (.region id l.toArray false) Q e w :=
  fun m a hs => wpIn_region_lit (wpListIn_of_OWF l hd hs (OWF_of l h))
theorem FW_regionF {id : Nat} {l : List Oper} (hd : dstsIn n l = true) (h : OWF P l.toArray Q l e w) : FW rd ds P n (.region id l.toArray false) Q e w :=
  fun m a hs => wpIn_region_lit (wpListIn_of_OWF l hd hs h)
theorem FW_loop {c : Code} (I : (Nat → Value) → World → Prop) (μ : (Nat → Value) → World → Nat) (h0 : I e w)
    (round : ∀ e w, I e w → FW rd ds P n c (thenE (fun e' w' => I e' w' ∧ μ e' w' < μ e w) Q) e w) : FW rd ds P n (.loop c) Q e w := by
  intro m a hs
  refine wpIn_loop (fun a w => ∃ e, StD n ds a e ∧ I e w) (fun a w => μ (fun i => a.tmps.getD i undef) w) ⟨e, hs, h0⟩ fun a w ⟨e, hs, hI⟩ => wpIn_mono (round e w hI m a hs) fun x a' w' hx => ?_
  obtain ⟨e', hs', hx⟩ := hx
  have hfun : ∀ {a : Act} {e : Nat → Value}, StD n ds a e → (fun i => a.tmps.getD i undef) = e := fun h => funext h.at_
  unfold thenE at hx
  cases x with
  | normal =>
    refine ⟨⟨e', hs', hx.1⟩, ?_⟩
    simp only [hfun hs', hfun hs]
    exact hx.2
  | _ => exact ⟨e', hs', hx⟩
theorem wpAnyIn_of_OT {l : List Oper} {C : World → Prop} (hd : dstsIn n l = true) {m : Nat} : ∀ (f : Nat) (listed : Array Bool) (a : Act) (e : Nat → Value) (w : World),
    StD n ds a e → OT P l C Q f listed e w → wpAnyIn (fen rd) m P .any l.toArray (QD n ds Q) f listed a w
  | 0, listed, a, e, w, hs, h => ⟨h.1, e, hs, h.2⟩
  | f + 1, listed, a, e, w, hs, h => by
    refine ⟨fun h0 => ⟨e, hs, h.1 h0⟩, fun i hi => ?_⟩
    obtain ⟨_, o, ho, _⟩ := mem_ready.1 hi
    have ho' : l[i]? = some o := by simpa using ho
    have hh := h.2 i hi o ho'
    have hdo : ∀ k, o.dst = some k → k < n := fun k hk => by
      unfold dstsIn at hd
      rw [List.all_eq_true] at hd
      have := hd o (List.mem_iff_getElem?.2 ⟨i, ho'⟩)
      rw [hk] at this
      simpa using this
    unfold wpOpIn
    simp only [ho]
    rw [wanted_eqD hs]
    split
    · rename_i hw
      rw [if_pos hw] at hh
      exact Oper.wpIn_of_opWF hs (opWF_of hh) fun v w' hv => wpAnyIn_of_OT hd f _ _ _ _ (hs.put hdo v) hv.2
    · rename_i hw
      rw [if_neg hw] at hh
      exact ⟨fun f _ => fen_fn rd f, wpAnyIn_of_OT hd f _ _ _ _ (hs.put hdo undef) hh⟩
theorem FW_tree {id : Nat} {l : List Oper} (t : Tr) (C : World → Prop) (hm : P.follows .mixedOrders = true) (hd : dstsIn n l = true)
    (hk : (Region.noSelect l.toArray && t.ok l.toArray l.length (Array.replicate l.length false)) = true) (hC : ∀ w', Ext w w' → C w') (h : ∀ w', Ext w w' → C w' → OX false P l C Q t e w') : FW rd ds P n (.region id l.toArray true) Q e w := by
  intro m a hs
  refine wpIn_region_any hm ?_
  rw [Bool.and_eq_true] at hk
  have := wpAnyIn_of_OT (rd := rd) hd (m := m) l.length (Array.replicate l.length false) a e w.drew hs (OT_of_OX hk.1 t C l.length (Array.replicate l.length false) e w.drew hk.2 (hC _ (Ext.drew' w)) (h _ (Ext.drew' w) (hC _ (Ext.drew' w))))
  simpa using this
theorem FW_meet {c : Code} (J : (Nat → Value) → World → Prop) (h : FW rd ds P n c (nrm J) e w) (hk : ∀ e w, J e w → Q .normal e w) : FW rd ds P n c Q e w :=
  h.mono fun x e w ⟨hx, hJ⟩ => by subst hx; exact hk _ _ hJ
theorem CW_seqF {x y : Code} (h : CW P n x (thenE (FW none [] P n y Q) Q) e w) : FW none [] P n (.seq x y) Q e w := FW_seq (FW_of_CW h)
theorem FW_mk {c : Code} (h : ∀ m a, StD n ds a e → c.wpIn (fen rd) m P (QD n ds Q) a w) : FW rd ds P n c Q e w := h
theorem FW.out {c : Code} (h : FW rd ds P n c Q e w) : ∀ m a, StD n ds a e → c.wpIn (fen rd) m P (QD n ds Q) a w := h
end
attribute [irreducible] FW OWF
end Go.Proofs.Ytdpcahfgdpikfaa

/- A range over a function: the iterator's contract, the loop, and how a function leaves behind it. No program in sight. -/
namespace Go.Proofs.Ytdpcahfgdpikfaa
open Go Go.RowKit
set_option linter.unusedVariables false

/-- What an iterator promises: T: the blocks of its own that it turns; N: those that it leans on; Ok: what it knows of what it hands on. -/
structure Iter {α : Type} (P : Program) (gf : FuncId) (lb : List Value) (encs : α → List Value) (Ok : List α → α → World → Prop) (T N : Nat → Prop) (Pre : World → Prop) (S Sp : List α → Prop) : Prop where
  ok : ∀ pre x A B, Ok pre x A → Keeps A B (fun k => ¬ N k) → Ok pre x B
  run : ∀ (l : Nat) (J Jx : List α → World → Prop) (W : World), Pre W → (∀ s A B, J s A → Keeps A B T → J s B) → (∀ s A B, Jx s A → Keeps A B T → Jx s B) →
    (∀ pre x W1, J pre W1 → Ok pre x W1 → YieldW P l (encs x).toArray W1 fun en W' => (en = .returned (.bool true) ∧ J (pre ++ [x]) W' ∧ Keeps W1 W' (fun k => ¬ N k)) ∨ (en = .returned (.bool false) ∧ Jx (pre ++ [x]) W')) →
    J [] W → Calls P gf ((.func (.yield l) #[] #[] :: lb).toArray) W fun en W' => ∃ v, en = .returned v ∧ ((∃ xs, S xs ∧ J xs W') ∨ (∃ pre, Sp pre ∧ Jx pre W'))

def markD (D : Nat) : Deferred := { target := .collected D, args := #[] }
/-- How a function leaves: with nothing deferred, or with one loop's mark. -/
def leaveE (P : Program) (fn : Func) (R : Ending → World → Prop) : List Deferred → Exit → (Nat → Value) → World → Prop
  | [], x, e, w => (x = .normal ∨ x = .ret) ∧ ∃ v, (∀ tmps : Array Value, (∀ i, tmps.getD i undef = e i) → (results fn tmps).run P w = .ok v w) ∧ R (.returned v) w
  | [d], x, e, w => (x = .normal ∨ x = .ret) ∧ ∃ D, d = markD D ∧ w.heap[D]? = some (.deferred (some [])) ∧ ∃ v, (∀ tmps : Array Value, (∀ i, tmps.getD i undef = e i) → (results fn tmps).run P (w.putObj D (.deferred none)) = .ok v (w.putObj D (.deferred none))) ∧ R (.returned v) (w.putObj D (.deferred none))
  | _, _, _, _ => False
/-- The rest of a function: a list of code. -/
def PostL (m : Nat) (P : Program) (fn : Func) (R : Ending → World → Prop) : List Code → Exit → Act → World → Prop
  | [] => bodyPostM (fen none) m P fn R
  | c :: cs => Exit.then (c.wpIn (fen none) m P (PostL m P fn R cs)) (PostL m P fn R cs)
def LW (P : Program) (fn : Func) (R : Ending → World → Prop) (ds : List Deferred) (cs : List Code) (e : Nat → Value) (w : World) : Prop := ∀ m a, StD fn.ntmps ds a e → PostL m P fn R cs .normal a w
section
variable {P : Program} {fn : Func} {R : Ending → World → Prop} {ds : List Deferred} {e : Nat → Value} {w : World}
theorem leaves_of {m : Nat} {x : Exit} {a : Act} (hs : StD fn.ntmps ds a e) (h : leaveE P fn R ds x e w) : bodyPostM (fen none) m P fn R x a w := by
  match ds, h, hs with
  | [], h, hs =>
    obtain ⟨hx, v, hv, hR⟩ := h
    have : LeavesInM (fen none) m P fn a.tmps R a.defers .returning w := by
      rw [hs.def_]
      exact ⟨v, hv _ hs.at_, hR⟩
    rcases hx with rfl | rfl <;> exact this
  | [d], h, hs =>
    obtain ⟨hx, D, rfl, hD, v, hv, hR⟩ := h
    have : LeavesInM (fen none) m P fn a.tmps R a.defers .returning w := by
      rw [hs.def_]
      exact ⟨by simp, .inl ⟨D, _, rfl, run_takeDeferred hD, ⟨v, hv _ hs.at_, hR⟩⟩⟩
    rcases hx with rfl | rfl <;> exact this
  | d :: d2 :: r, h, _ => exact h.elim
theorem PostL_other {m : Nat} {x : Exit} (hx : x ≠ .normal) : ∀ (cs : List Code) {a : Act}, PostL m P fn R cs x a w = bodyPostM (fen none) m P fn R x a w
  | [], a => rfl
  | c :: cs, a => by
    rw [← PostL_other hx cs]
    cases x <;> first | rfl | exact absurd rfl hx
theorem PostL_nil {m : Nat} {x : Exit} {a : Act} : PostL m P fn R [] x a w = bodyPostM (fen none) m P fn R x a w := rfl
theorem LW_end (h : leaveE P fn R ds .normal e w) : LW P fn R ds [] e w := fun m a hs => leaves_of hs h
theorem LW_seq {x y : Code} {cs : List Code} (h : LW P fn R ds (x :: y :: cs) e w) : LW P fn R ds (.seq x y :: cs) e w := fun m a hs => wpIn_seq (h m a hs)
theorem LW_codeF {x : Code} {cs : List Code} (h : FW none ds P fn.ntmps x (thenE (fun e w => LW P fn R ds cs e w) (leaveE P fn R ds)) e w) : LW P fn R ds (x :: cs) e w := by
  intro m a hs
  refine wpIn_mono (h.out m a hs) fun x a w ⟨e, hs, hx⟩ => ?_
  unfold thenE at hx
  cases x with
  | normal => exact hx m a hs
  | ret => rw [PostL_other (by intro h; cases h)]; exact leaves_of hs hx
  | exit id => match ds, hx with
    | [], hx => rcases hx.1 with h | h <;> cases h
    | [d], hx => rcases hx.1 with h | h <;> cases h
    | d :: d2 :: r, hx => exact hx.elim
  | goto t => match ds, hx with
    | [], hx => rcases hx.1 with h | h <;> cases h
    | [d], hx => rcases hx.1 with h | h <;> cases h
    | d :: d2 :: r, hx => exact hx.elim
  | panic ch => match ds, hx with
    | [], hx => rcases hx.1 with h | h <;> cases h
    | [d], hx => rcases hx.1 with h | h <;> cases h
    | d :: d2 :: r, hx => exact hx.elim
  | outgrown => match ds, hx with
    | [], hx => rcases hx.1 with h | h <;> cases h
    | [d], hx => rcases hx.1 with h | h <;> cases h
    | d :: d2 :: r, hx => exact hx.elim
theorem LW_codeC {x : Code} {cs : List Code} (h : CW P fn.ntmps x (thenE (fun e w => LW P fn R [] cs e w) (leaveE P fn R [])) e w) : LW P fn R [] (x :: cs) e w := LW_codeF (FW_of_CW h)
theorem calls_of_LW {f : FuncId} {c : Code} {args : List Value} (hf : P.funcs[f]? = some fn) (hb : fn.body = some c) (hn : args.length ≤ fn.ntmps) (h : LW P fn R [] [c] (env0 args 0) w) : Calls P f args.toArray w R := by
  refine callsIn_wide.1 (callsIn_of_wp_marks (F := Fence.wide) (n := 0) hf hb trivial (wpIn_mono (h 0 _ ⟨by simp; omega, rfl, fun i => ?_⟩) fun x a w hx => ?_) rfl)
  · rw [env0_at, if_neg (by omega), Array.getD_eq_getD_getElem?, Array.getElem?_append]
    simp only [List.size_toArray, List.getElem?_toArray, Nat.sub_zero, List.getD_eq_getElem?_getD]
    split
    · rfl
    · rename_i hi
      rw [Array.getElem?_replicate, List.getElem?_eq_none (by omega)]
      split <;> simp
  · cases x <;> exact hx
theorem LW_regC {id : Nat} {l : Array Oper} {b : Bool} {cs : List Code} (h : CW P fn.ntmps (.region id l b) (thenE (fun e w => LW P fn R [] cs e w) (leaveE P fn R [])) e w) : LW P fn R [] (.region id l b :: cs) e w := LW_codeC h
theorem LW_condC {c : Operand} {x x' : Code} {cs : List Code} (h : CW P fn.ntmps (.cond c x x') (thenE (fun e w => LW P fn R [] cs e w) (leaveE P fn R [])) e w) : LW P fn R [] (.cond c x x' :: cs) e w := LW_codeC h
theorem LW_regF {id : Nat} {l : Array Oper} {b : Bool} {cs : List Code} (h : FW none ds P fn.ntmps (.region id l b) (thenE (fun e w => LW P fn R ds cs e w) (leaveE P fn R ds)) e w) : LW P fn R ds (.region id l b :: cs) e w := LW_codeF h
theorem LW_condF {c : Operand} {x x' : Code} {cs : List Code} (h : FW none ds P fn.ntmps (.cond c x x') (thenE (fun e w => LW P fn R ds cs e w) (leaveE P fn R ds)) e w) : LW P fn R ds (.cond c x x' :: cs) e w := LW_codeF h
theorem LW_ret {cs : List Code} (h : leaveE P fn R ds .ret e w) : LW P fn R ds (.ret :: cs) e w := LW_codeF (FW_ret (by unfold thenE; exact h))
theorem LW_skip {cs : List Code} (h : LW P fn R ds cs e w) : LW P fn R ds (.skip :: cs) e w := LW_codeF (FW_skip (by unfold thenE; exact h))

theorem leave_ret1 {t : Tmp} (hr : fn.results = #[.tmp t]) (v : Value) (hv : e t = v) (hR : R (.returned v) w) : leaveE P fn R [] .ret e w :=
  ⟨.inr rfl, v, fun tmps ht => by rw [results_tmp hr, ht, hv], hR⟩
theorem leaveM_ret1 {t : Tmp} {D : Nat} (hr : fn.results = #[.tmp t]) (v : Value) (hv : e t = v) (hD : w.heap[D]? = some (.deferred (some []))) (hR : R (.returned v) (w.putObj D (.deferred none))) : leaveE P fn R [markD D] .ret e w :=
  ⟨.inr rfl, D, rfl, hD, v, fun tmps ht => by rw [results_tmp hr, ht, hv], hR⟩
theorem leave_of {x : Exit} (h : bodyE P fn R x e w) : leaveE P fn R [] x e w := by
  unfold bodyE at h
  cases x with
  | normal => exact ⟨.inl rfl, h⟩
  | ret => exact ⟨.inr rfl, h⟩
  | _ => exact h.elim
theorem leaveM_of {D : Nat} (hD : w.heap[D]? = some (.deferred (some []))) (h : bodyE P fn R .ret e (w.putObj D (.deferred none))) : leaveE P fn R [markD D] .ret e w := by
  unfold bodyE at h
  obtain ⟨v, hv, hR⟩ := h
  exact ⟨.inr rfl, D, rfl, hD, v, hv, hR⟩
theorem Keeps.put (W : World) (l : Nat) (o : Obj) : Keeps W (W.putObj l o) (· = l) := Keeps.of_only (grownBy_putObj' W l o) rfl

/-- The loop's parameters, bound. -/
def binds (e : Nat → Value) : List Tmp → List Value → Nat → Value
  | p :: ps, v :: vs => binds (upd e p v) ps vs
  | _, _ => e
theorem StD.binds {n : Nat} : ∀ (ps : List Tmp) (vs : List Value) (t : Array Value) (e : Nat → Value), (∀ p ∈ ps, p < n) → StD n [] { tmps := t, defers := [] } e → StD n [] { tmps := (ps.zip vs).foldl (fun t (p, v) => t.setIfInBounds p v) t, defers := [] } (binds e ps vs)
  | [], vs, t, e, _, h => by simpa [Proofs.Ytdpcahfgdpikfaa.binds] using h
  | p :: ps, [], t, e, _, h => by simpa [Proofs.Ytdpcahfgdpikfaa.binds] using h
  | p :: ps, v :: vs, t, e, hp, h => by
    have h1 : StD n [] { tmps := t.setIfInBounds p v, defers := [] } (upd e p v) := h.put (d := some p) (fun k hk => by cases hk; exact hp p List.mem_cons_self) v
    simpa [Proofs.Ytdpcahfgdpikfaa.binds] using StD.binds ps vs (t.setIfInBounds p v) (upd e p v) (fun q hq => hp q (List.mem_cons_of_mem _ hq)) h1
/-- How a round may end. -/
def roundQ {α : Type} (D : Nat) (N : Nat → Prop) (I : List α → World → Prop) (Ix : Code → List α → World → Prop) (xs : List α) (W : World) : Exit → (Nat → Value) → World → Prop
  | .normal, _, W' => Keeps W W' (fun k => ¬ N k ∧ k ≠ D ∧ k ≠ D + 1) ∧ I xs W'
  | .ret, _, W' => Keeps W W' (fun k => k ≠ D ∧ k ≠ D + 1) ∧ Ix .ret xs W'
  | .exit id, _, W' => Keeps W W' (fun k => k ≠ D ∧ k ≠ D + 1) ∧ Ix (.exit id) xs W'
  | _, _, _ => False
theorem LW_range {α : Type} {id : Nat} {g : Operand} {ps : List Tmp} {assign body : Code} {rest : List Code} {gf : FuncId} {fnI : Func} {cI : Code} {lb : List Value} {encs : α → List Value} {Ok : List α → α → World → Prop} {T N : Nat → Prop} {Pre : World → Prop} {S Sp : List α → Prop}
    (hit : Iter P gf lb encs Ok T N Pre S Sp) (hf : P.funcs[gf]? = some fnI) (hn : (fnI.name == "runtime.NumGoroutine") = false) (hb : fnI.body = some cI) (hg : ev e g = .func (.func gf) #[] lb.toArray)
    (hps : ∀ x, (encs x).length = ps.length) (hpn : ∀ p ∈ ps, p < fn.ntmps) (hT : ∀ k, T k → k < w.heap.size) (hN : ∀ k, N k → k < w.heap.size) (hPre : ∀ W, Ext w W → Pre W)
    (I : List α → World → Prop) (Ix : Code → List α → World → Prop) (hI : ∀ s A B, I s A → Keeps A B (fun k => T k ∨ k = w.heap.size ∨ k = w.heap.size + 1) → I s B) (hIx : ∀ c s A B, Ix c s A → Keeps A B (fun k => T k ∨ k = w.heap.size ∨ k = w.heap.size + 1) → Ix c s B)
    (h0 : I [] w) (e₁ : α → Nat → Value)
    (hassign : ∀ x l W, FW (some l) [] P fn.ntmps assign (fun x' e' w' => x' = .normal ∧ e' = e₁ x ∧ w' = W) (binds e ps (encs x)) W)
    (hbody : ∀ l pre x W, I pre W → Ok pre x W → FW (some l) [] P fn.ntmps body (roundQ w.heap.size N I Ix (pre ++ [x]) W) (e₁ x) W)
    (hdone : ∀ xs W, S xs → I xs W → W.heap[w.heap.size]? = some (.deferred (some [])) → LW P fn R [markD w.heap.size] rest e W)
    (hstop : ∀ c pre W, Sp pre → Ix c pre W → W.heap[w.heap.size]? = some (.deferred (some [])) → c = .exit id ∧ LW P fn R [markD w.heap.size] rest e W) :
    LW P fn R [] (.block id (.rangeFunc g ps.toArray assign body) :: rest) e w := by
  intro m a hs
  refine wpIn_block (wpIn_rangeFunc ?_)
  intro fnn hfn
  rw [fen_round]
  obtain ⟨D, hD⟩ : ∃ D, w.heap.size = D := ⟨_, rfl⟩
  rw [hD] at hT hN hI hIx hbody hdone hstop
  obtain ⟨rec, hrec⟩ : ∃ rec : LoopState → Option Code → Loop, rec = fun st pe => { state := st, pending := pe, fn := fnn, tmps := a.tmps, params := ps.toArray, assign, body, defers := D } := ⟨_, rfl⟩
  obtain ⟨W1, hW1⟩ : ∃ W1, (w.alloc (.deferred (some []))).alloc (.loop (rec .ready none)) = W1 := ⟨_, rfl⟩
  have hx1 : Ext w W1 := by rw [← hW1]; exact (Ext.alloc' w _).trans' (Ext.alloc' _ _)
  have hK1 : W1.heap[D]? = some (.deferred (some [])) := by
    rw [← hW1, (Ext.alloc' (w.alloc (.deferred (some []))) (.loop (rec .ready none))).block D (by simp; omega)]
    have := heap_alloc_new w (.deferred (some []))
    rwa [hD] at this
  have hL1 : W1.heap[D + 1]? = some (.loop (rec .ready none)) := by
    rw [← hW1]
    have := heap_alloc_new (w.alloc (.deferred (some []))) (.loop (rec .ready none))
    rw [World.size_alloc, hD] at this
    exact this
  have heg : ∀ args w, (callFunc gf args).run P w = .ok (.enter gf args) w := enters_of hf hn hb
  refine ⟨D + 1, [markD D], W1, { target := .fn (.func gf) lb.toArray, args := #[.func (.yield (D + 1)) #[] #[]] }, W1, gf, #[.func (.yield (D + 1)) #[] #[]] ++ lb.toArray, W1, ?_, ?_, fun f _ => fen_fn none f, ?_, fun h => (by rw [fen_depth] at h; cases h), ?_⟩
  · have := run_enterLoop_outer (P := P) (w := w) fnn a.tmps ps.toArray assign body
    rw [hD] at this
    rw [← hW1, hrec]
    exact this
  · rw [hs.ev]
    simp only [resolve, hg]
    simp [go_sem]
    rfl
  · simp [invoke, go_sem, heg]
  refine calls_fen none _ ?_
  have hJk : ∀ {A B : World} {k : Nat} {o : Obj}, Keeps A B T → D ≤ k → A.heap[k]? = some o → B.heap[k]? = some o := fun hk hle ho => by
    rw [hk.block _ (Array.getElem?_eq_some_iff.1 ho).1 (fun ht => by have := hT _ ht; omega)]; exact ho
  have hcall := hit.run (D + 1) (fun pre W => I pre W ∧ W.heap[D + 1]? = some (.loop (rec .ready none)) ∧ W.heap[D]? = some (.deferred (some [])))
    (fun pre W => ∃ c, Ix c pre W ∧ W.heap[D + 1]? = some (.loop (rec .done (some c))) ∧ W.heap[D]? = some (.deferred (some []))) W1 (hPre W1 hx1)
    (fun s A B ⟨h1, h2, h3⟩ hk => ⟨hI s A B h1 (hk.mono fun k _ h => .inl h), hJk hk (by omega) h2, hJk hk (Nat.le_refl _) h3⟩)
    (fun s A B ⟨c, h1, h2, h3⟩ hk => ⟨c, hIx c s A B h1 (hk.mono fun k _ h => .inl h), hJk hk (by omega) h2, hJk hk (Nat.le_refl _) h3⟩) ?_ ⟨hI [] w W1 h0 (Keeps.of_ext hx1 _), hL1, hK1⟩
  · rw [show (.func (.yield (D + 1)) #[] #[] :: lb).toArray = #[.func (.yield (D + 1)) #[] #[]] ++ lb.toArray by simp] at hcall
    refine hcall.mono ?_
    rintro en W2 ⟨v, rfl, ⟨xs, hS, hi, hl, hk⟩ | ⟨pre, hSp, c, hi, hl, hk⟩⟩
    · have hr := run_endLoop (P := P) hl (by rw [hrec]; simp)
      refine ⟨none, _, by rw [hrec] at hr; exact hr, ?_⟩
      refine hdone xs _ hS (hI xs W2 _ hi ((Keeps.put W2 (D + 1) _).mono fun k _ h => .inr (.inr h))) ?_ m _ ⟨hs.size, by show [markD D] ++ a.defers = _; rw [hs.def_]; rfl, hs.at_⟩
      rw [World.putObj_heap_other (by omega)]; exact hk
    · have hr := run_endLoop (P := P) hl (by rw [hrec]; simp)
      refine ⟨some c, _, by rw [hrec] at hr; exact hr, ?_⟩
      obtain ⟨rfl, hw⟩ := hstop c pre (W2.putObj (D + 1) (.loop { rec .done (some c) with state := .exhausted })) hSp (hIx c pre W2 _ hi ((Keeps.put W2 (D + 1) _).mono fun k _ h => .inr (.inr h))) (by rw [World.putObj_heap_other (by omega)]; exact hk)
      rw [hrec] at hw
      refine wpIn_exit ?_
      simp only [Exit.inBlock, if_true]
      refine hw m _ ⟨?_, ?_, ?_⟩
      · exact hs.size
      · show [markD D] ++ a.defers = _; rw [hs.def_]; rfl
      · exact hs.at_
  · rintro pre x W ⟨hi, hl, hk⟩ hok
    have hlt := (Array.getElem?_eq_some_iff.1 hl).1
    have hy := run_yield (P := P) (args := (encs x).toArray) hl (by rw [hrec]; simpa using hps x)
    rw [hrec] at hy
    refine ⟨fnn, _, assign, body, hy, fun m2 => roundIn_of_wpIn trivial ?_⟩
    have hst : StD fn.ntmps [] { tmps := (ps.toArray.zip (encs x).toArray).foldl (fun t (p, v) => t.setIfInBounds p v) a.tmps, defers := [] } (Proofs.Ytdpcahfgdpikfaa.binds e ps (encs x)) := by
      have := StD.binds ps (encs x) a.tmps e hpn ⟨hs.size, rfl, hs.at_⟩
      simpa using this
    refine wpIn_mono ((hassign x (D + 1) W).out m2 _ hst) ?_
    rintro x1 a1 w1 ⟨e1, hs1, rfl, rfl, rfl⟩
    refine ⟨_, run_beginRound hl (by rw [hrec]), ?_⟩
    have hk2 : Keeps w1 (w1.putObj (D + 1) (.loop { rec .ready none with state := .busy })) (· = D + 1) := Keeps.put _ _ _
    have hl2 : (w1.putObj (D + 1) (.loop { rec .ready none with state := .busy })).heap[D + 1]? = some (.loop { rec .ready none with state := .busy }) := World.putObj_heap_same hlt
    have hd2 : (w1.putObj (D + 1) (.loop { rec .ready none with state := .busy })).heap[D]? = some (.deferred (some [])) := by rw [World.putObj_heap_other (by omega)]; exact hk
    have hi2 := hI pre w1 _ hi (hk2.mono fun k _ h => .inr (.inr h))
    have hok2 := hit.ok pre x w1 _ hok (hk2.mono fun k _ h hn => by have := hN k hn; omega)
    generalize w1.putObj (D + 1) (.loop { rec .ready none with state := .busy }) = W2 at *
    refine wpIn_mono ((hbody (D + 1) pre x W2 hi2 hok2).out m2 a1 hs1) ?_
    have fin : ∀ (jump : Option Code) (W3 : World), Keeps W2 W3 (fun k => k ≠ D ∧ k ≠ D + 1) →
        (Instr.endRound (D + 1) jump).run P W3 = .ok (.bool jump.isNone) (W3.putObj (D + 1) (.loop (rec (if jump.isNone then .ready else .done) jump))) ∧
        (W3.putObj (D + 1) (.loop (rec (if jump.isNone then .ready else .done) jump))).heap[D + 1]? = some (.loop (rec (if jump.isNone then .ready else .done) jump)) ∧
        (W3.putObj (D + 1) (.loop (rec (if jump.isNone then .ready else .done) jump))).heap[D]? = some (.deferred (some [])) := fun jump W3 hk3 => by
      have hl3 : W3.heap[D + 1]? = some (.loop { rec .ready none with state := .busy }) := by rw [hk3.block _ (Array.getElem?_eq_some_iff.1 hl2).1 (fun h => h.2 rfl)]; exact hl2
      have hd3 : W3.heap[D]? = some (.deferred (some [])) := by rw [hk3.block _ (Array.getElem?_eq_some_iff.1 hd2).1 (fun h => h.1 rfl)]; exact hd2
      have := run_endRound (P := P) jump hl3
      rw [hrec] at this ⊢
      exact ⟨this, World.putObj_heap_same (Array.getElem?_eq_some_iff.1 hl3).1, by rw [World.putObj_heap_other (by omega)]; exact hd3⟩
    rintro x3 a3 W3 ⟨e3, hs3, hq⟩
    cases x3 with
    | normal =>
      obtain ⟨hk3, hi3⟩ := hq
      obtain ⟨hr, hl4, hd4⟩ := fin none W3 (hk3.mono fun k _ h => h.2)
      have hk4 : Keeps W3 _ (· = D + 1) := Keeps.put W3 (D + 1) (.loop (rec .ready none))
      refine ⟨_, _, hr, .inl ⟨rfl, ⟨hI _ W3 _ hi3 (hk4.mono fun k _ h => .inr (.inr h)), hl4, hd4⟩, ?_⟩⟩
      exact (hk2.mono fun k _ h hn => by have := hN k hn; omega).trans' ((hk3.mono fun k _ h => h.1).trans' (hk4.mono fun k _ h hn => by have := hN k hn; omega))
    | ret =>
      obtain ⟨hk3, hi3⟩ := hq
      obtain ⟨hr, hl4, hd4⟩ := fin (some .ret) W3 hk3
      exact ⟨_, _, hr, .inr ⟨rfl, .ret, hIx _ _ W3 _ hi3 ((Keeps.put W3 (D + 1) _).mono fun k _ h => .inr (.inr h)), hl4, hd4⟩⟩
    | exit id2 =>
      obtain ⟨hk3, hi3⟩ := hq
      obtain ⟨hr, hl4, hd4⟩ := fin (some (.exit id2)) W3 hk3
      exact ⟨_, _, hr, .inr ⟨rfl, .exit id2, hIx _ _ W3 _ hi3 ((Keeps.put W3 (D + 1) _).mono fun k _ h => .inr (.inr h)), hl4, hd4⟩⟩
    | goto t => exact hq.elim
    | panic ch => exact hq.elim
    | outgrown => exact hq.elim
end
attribute [irreducible] LW leaveE
end Go.Proofs.Ytdpcahfgdpikfaa

/- Regions whose order is drawn, with acts behind which the class of worlds is another one: a quiet operation of the class must come ahead of them; pure operations may come anywhere. No program in sight. -/
namespace Go.Proofs.Ytdpcahfgdpikfaa
open Go Go.RowKit
set_option linter.unusedVariables false

inductive Ty
  | done
  | q (i : Nat) (t : Ty)
  | p (i : Nat) (t : Ty)
  | a (i : Nat) (t : Ty)
  | d (i : Nat) (t : Ty)
  | a2 (i : Nat) (t : Ty) (j : Nat) (u : Ty)
  | a3 (i : Nat) (t : Ty) (j : Nat) (u : Ty) (k : Nat) (v : Ty)
/-- Who stands behind 'k'. -/
def marksF (k : Nat) : List Oper → List Bool → List Bool
  | [], ms => ms
  | o :: l, ms => marksF k l (ms ++ [ms.length == k || o.after.any fun e => Region.binds .any e && ms.getD e.on false])
def behind (l : List Oper) (k j : Nat) : Bool := (marksF k l []).getD j false
theorem marksF_spec (k : Nat) (P : Nat → Prop) (listed : Nat → Bool) (hk : listed k = false) : ∀ (l pre : List Oper) (ms : List Bool), ms.length = pre.length →
    (∀ j o, (pre ++ l)[j]? = some o → listed j = true → ∀ e ∈ o.after, Region.binds .any e = true → listed e.on = true) →
    (∀ j, ms.getD j false = true → listed j = false ∧ (j = k ∨ ∃ o, (pre ++ l)[j]? = some o ∧ ∃ e ∈ o.after, Region.binds .any e = true ∧ listed e.on = false)) →
    ∀ j, (marksF k l ms).getD j false = true → listed j = false ∧ (j = k ∨ ∃ o, (pre ++ l)[j]? = some o ∧ ∃ e ∈ o.after, Region.binds .any e = true ∧ listed e.on = false)
  | [], pre, ms, _, _, hm => by unfold marksF; exact hm
  | o :: l, pre, ms, hl, hc, hm => by
    unfold marksF
    have e1 : pre ++ o :: l = (pre ++ [o]) ++ l := by simp
    rw [e1] at hc hm ⊢
    refine marksF_spec k P listed hk l (pre ++ [o]) _ (by simp [hl]) hc ?_
    intro j hj
    rcases Nat.lt_trichotomy j ms.length with h | h | h
    · rw [List.getD_eq_getElem?_getD, List.getElem?_append_left h, ← List.getD_eq_getElem?_getD] at hj
      exact hm j hj
    · subst h
      rw [List.getD_eq_getElem?_getD, List.getElem?_append_right (Nat.le_refl _)] at hj
      simp only [Nat.sub_self, List.getElem?_cons_zero, Option.getD_some, Bool.or_eq_true, beq_iff_eq, Array.any_eq_true', Bool.and_eq_true] at hj
      rcases hj with hj | ⟨e, he, hb, hme⟩
      · rw [hj]; exact ⟨hk, .inl rfl⟩
      · have hun := (hm _ hme).1
        have hoj : ((pre ++ [o]) ++ l)[ms.length]? = some o := by rw [hl]; simp
        refine ⟨?_, .inr ⟨o, hoj, e, he, hb, hun⟩⟩
        cases hlj : listed ms.length with
        | false => rfl
        | true => rw [hc _ o hoj hlj e he hb] at hun; cases hun
    · rw [List.getD_eq_getElem?_getD, List.getElem?_eq_none (by simp; omega)] at hj
      cases hj
/-- Who is listed, those ahead of him are. -/
def Closed (l : List Oper) (listed : Array Bool) : Prop := ∀ j o, l[j]? = some o → listed.getD j false = true → ∀ e ∈ o.after, Region.binds .any e = true → listed.getD e.on false = true
theorem Closed.set {l : List Oper} {listed : Array Bool} (h : Closed l listed) {i : Nat} (hr : i ∈ Region.ready .any l.toArray listed) : Closed l (listed.setIfInBounds i true) := by
  intro j o ho hl e he hb
  obtain ⟨_, o', ho', hall⟩ := mem_ready.1 hr
  by_cases hij : i = j
  · subst hij
    have : o' = o := Option.some.inj (ho'.symm.trans (by simpa using ho))
    subst this
    exact getD_set_true (hall e he hb)
  · rw [getD_set_ne false hij] at hl
    exact getD_set_true (h j o ho hl e he hb)
theorem behind_spec {l : List Oper} {listed : Array Bool} {k j : Nat} (hc : Closed l listed) (hk : listed.getD k false = false) (hb : behind l k j = true) (hne : j ≠ k) (hr : j ∈ Region.ready .any l.toArray listed) : False := by
  have := marksF_spec k (fun _ => True) (fun j => listed.getD j false) hk l [] [] rfl hc (by simp) j hb
  obtain ⟨_, h | ⟨o, ho, e, he, hb, hun⟩⟩ := this
  · exact hne h
  · obtain ⟨_, o', ho', hall⟩ := mem_ready.1 hr
    have : o' = o := Option.some.inj (ho'.symm.trans (by simpa using ho))
    subst this
    have hun' : listed.getD e.on false = false := hun
    rw [hall e he hb] at hun'; cases hun'
/-- All of the class that are listed stand ahead of 'j'. -/
def dropB (l : List Oper) (K : List Nat) (listed : Array Bool) (j : Nat) : Bool := K.all fun k => !(listed.getD k false) || behind l k j

def OT2 (P : Program) (l : List Oper) (K : List Nat) (Q : Exit → (Nat → Value) → World → Prop) : Nat → (World → Prop) → Array Bool → (Nat → Value) → World → Prop
  | 0, C, listed, e, w => Region.ready .any l.toArray listed = [] ∧ Q .normal e w
  | f + 1, C, listed, e, w => (Region.ready .any l.toArray listed = [] → Q .normal e w) ∧ ∀ i ∈ Region.ready .any l.toArray listed, ∀ o, l[i]? = some o →
      if wantedE l.toArray e o then opW P o e w (fun v w' => ∃ C' : World → Prop, (dropB l K listed i = true ∨ ∀ u, C' u → C u) ∧ C' w' ∧ OT2 P l K Q f C' (listed.setIfInBounds i true) (put e o.dst v) w') else OT2 P l K Q f C (listed.setIfInBounds i true) (put e o.dst undef) w

theorem wpAnyIn_of_OT2 {P : Program} {n : Nat} {rd : Option Nat} {ds : List Deferred} {Q : Exit → (Nat → Value) → World → Prop} {l : List Oper} {K : List Nat} (hd : dstsIn n l = true) {m : Nat} : ∀ (f : Nat) (C : World → Prop) (listed : Array Bool) (a : Act) (e : Nat → Value) (w : World),
    StD n ds a e → OT2 P l K Q f C listed e w → wpAnyIn (fen rd) m P .any l.toArray (QD n ds Q) f listed a w
  | 0, C, listed, a, e, w, hs, h => ⟨h.1, e, hs, h.2⟩
  | f + 1, C, listed, a, e, w, hs, h => by
    refine ⟨fun h0 => ⟨e, hs, h.1 h0⟩, fun i hi => ?_⟩
    obtain ⟨_, o, ho, _⟩ := mem_ready.1 hi
    have ho' : l[i]? = some o := by simpa using ho
    have hh := h.2 i hi o ho'
    have hdo : ∀ k, o.dst = some k → k < n := fun k hk => by
      unfold dstsIn at hd
      rw [List.all_eq_true] at hd
      have := hd o (List.mem_iff_getElem?.2 ⟨i, ho'⟩)
      rw [hk] at this
      simpa using this
    unfold wpOpIn
    simp only [ho]
    rw [wanted_eqD hs]
    split
    · rename_i hw
      rw [if_pos hw] at hh
      exact Oper.wpIn_of_opWF hs (opWF_of hh) fun v w' ⟨C', _, _, hv⟩ => wpAnyIn_of_OT2 hd f C' _ _ _ _ (hs.put hdo v) hv
    · rename_i hw
      rw [if_neg hw] at hh
      exact ⟨fun f _ => fen_fn rd f, wpAnyIn_of_OT2 hd f C _ _ _ _ (hs.put hdo undef) hh⟩

theorem OT2_first {P : Program} {l : List Oper} {K : List Nat} {Q : Exit → (Nat → Value) → World → Prop} {i : Nat} {oi : Oper} {v : Value} (pure : Bool) (hp : pure = false → i ∈ K) (hi : l[i]? = some oi)
    (hsel : ∀ (j : Nat) (o : Oper) cs b, l.toArray[j]? = some o → o.op ≠ .select cs b) :
    ∀ (f : Nat) (C : World → Prop) (listed : Array Bool) (e : Nat → Value) (w : World),
      (∀ j oj, l.toArray[j]? = some oj → j ≠ i → listed.getD j true = false → (∀ e ∈ oj.after, Region.binds .any e = true → e.on ≠ i) → oi.apart l.toArray oj = true) →
      i ∈ Region.ready .any l.toArray listed → Closed l listed → Quiet P l.toArray (fun u => pure = true ∨ C u) oi v e → C w →
      OT2 P l K Q f C (listed.setIfInBounds i true) (put e oi.dst v) w → OT2 P l K Q (f + 1) C listed e w := by
  intro f
  have doI : ∀ (f : Nat) (C : World → Prop) (listed : Array Bool) (e : Nat → Value) (w : World), Quiet P l.toArray (fun u => pure = true ∨ C u) oi v e → C w → OT2 P l K Q f C (listed.setIfInBounds i true) (put e oi.dst v) w →
      ∀ o, l[i]? = some o → if wantedE l.toArray e o then opW P o e w (fun v w' => ∃ C' : World → Prop, (dropB l K listed i = true ∨ ∀ u, C' u → C u) ∧ C' w' ∧ OT2 P l K Q f C' (listed.setIfInBounds i true) (put e o.dst v) w') else OT2 P l K Q f C (listed.setIfInBounds i true) (put e o.dst undef) w := by
    intro f C listed e w hq hC H o ho
    rw [hi] at ho
    cases ho
    rcases hq with ⟨hw, hr⟩ | ⟨hw, rfl⟩
    · rw [if_pos hw]
      exact opW_mono (hr w (.inr hC)) fun u w' ⟨hu, hw'⟩ => by subst hu; subst hw'; exact ⟨C, .inr fun _ h => h, hC, H⟩
    · rw [hw, if_neg (by simp)]
      exact H
  induction f with
  | zero =>
    intro C listed e w hfree hr hcl hq hC H
    refine ⟨fun h => (by rw [h] at hr; cases hr), fun j hj o ho => ?_⟩
    by_cases hji : j = i
    · subst hji; exact doI _ _ _ _ _ hq hC H o ho
    · have := ready_mono hj hji
      rw [H.1] at this
      cases this
  | succ f ih =>
    intro C listed e w hfree hr hcl hq hC H
    refine ⟨fun h => (by rw [h] at hr; cases hr), fun j hj oj hoj => ?_⟩
    by_cases hji : j = i
    · subst hji; exact doI _ _ _ _ _ hq hC H oj hoj
    · have hjr := ready_mono hj hji
      have h1 := H.2 j hjr oj hoj
      obtain ⟨hjun, oj', hoj', hall⟩ := mem_ready.1 hj
      have hojA : l.toArray[j]? = some oj := by simpa using hoj
      have : oj' = oj := Option.some.inj (hoj'.symm.trans hojA)
      subst this
      have hiun := (mem_ready.1 hr).1
      have hisz : i < listed.size := by
        rcases Nat.lt_or_ge i listed.size with h' | h'
        · exact h'
        · simp [Array.getElem?_eq_none h'] at hiun
      have hiun' : listed.getD i false = false := by simp [hisz] at hiun ⊢; exact hiun
      have hnot : ∀ e ∈ oj'.after, Region.binds .any e = true → e.on ≠ i := fun e he hb heq => by
        have h1 := hall e he hb
        rw [heq, hiun'] at h1
        cases h1
      have hap := hfree j oj' hoj' hji hjun hnot
      obtain ⟨p1, p2, p3⟩ := Oper.apart_spec hap
      have hsi : ∀ cs b, oi.op ≠ .select cs b := fun cs b => hsel i oi cs b (by simpa using hi)
      have hsj : ∀ cs b, oj'.op ≠ .select cs b := fun cs b => hsel j oj' cs b hoj'
      have hfree' : ∀ k ok, l.toArray[k]? = some ok → k ≠ i → (listed.setIfInBounds j true).getD k true = false →
          (∀ e ∈ ok.after, Region.binds .any e = true → e.on ≠ i) → oi.apart l.toArray ok = true := fun k ok hk hki hun hno => by
        refine hfree k ok hk hki ?_ hno
        by_cases hjk : j = k
        · subst hjk; exact hjun
        · rw [getD_set_ne true hjk] at hun; exact hun
      have hdrop : dropB l K (listed.setIfInBounds i true) j = true → dropB l K listed j = true ∧ pure = true := fun hd => by
        unfold dropB at hd ⊢
        rw [List.all_eq_true] at hd ⊢
        refine ⟨fun k hk => ?_, ?_⟩
        · have := hd k hk
          simp only [Bool.or_eq_true, Bool.not_eq_true'] at this ⊢
          rcases this with h | h
          · left
            by_cases hik : i = k
            · subst hik; exact hiun'
            · rwa [getD_set_ne false hik] at h
          · exact .inr h
        · cases hpp : pure with
          | true => rfl
          | false =>
            have := hd i (hp hpp)
            simp only [Bool.or_eq_true, Bool.not_eq_true'] at this
            rcases this with h | h
            · simp [hisz] at h
            · exact absurd (behind_spec hcl hiun' h hji hj) (fun h => h)
      have step : ∀ (u : Value) (w' : World) (C' : World → Prop), (dropB l K (listed.setIfInBounds i true) j = true ∨ ∀ u, C' u → C u) → C' w' → OT2 P l K Q f C' ((listed.setIfInBounds i true).setIfInBounds j true) (put (put e oi.dst v) oj'.dst u) w' →
          (dropB l K listed j = true ∨ ∀ u, C' u → C u) ∧ OT2 P l K Q (f + 1) C' (listed.setIfInBounds j true) (put e oj'.dst u) w' := fun u w' C' hor hC' h => by
        have hq' : Quiet P l.toArray (fun u => pure = true ∨ C' u) oi v e := by
          rcases hq with ⟨hw, hr⟩ | hx
          · refine .inl ⟨hw, fun w hc => hr w ?_⟩
            rcases hor with hd | hs
            · exact .inl (hdrop hd).2
            · exact hc.imp id (hs w)
          · exact .inr hx
        refine ⟨hor.imp (fun hd => (hdrop hd).1) id, ih C' (listed.setIfInBounds j true) _ _ hfree' (ready_mono hr (Ne.symm hji)) (hcl.set hj) (hq'.keep hsi p3 u) hC' ?_⟩
        rw [Array.setIfInBounds_comm _ _ hji, ← put_comm e v u p2]
        exact h
      rw [wantedE_put oj' e oi.dst v p1] at h1
      split
      · rename_i hw
        rw [if_pos hw] at h1
        have h1' : opW P oj' e w (fun u w' => ∃ C' : World → Prop, (dropB l K (listed.setIfInBounds i true) j = true ∨ ∀ u, C' u → C u) ∧ C' w' ∧ OT2 P l K Q f C' ((listed.setIfInBounds i true).setIfInBounds j true) (put (put e oi.dst v) oj'.dst u) w') := by
          unfold opW at h1 ⊢
          rw [execOp_putE oj' hsj e oi.dst v p1] at h1
          exact h1
        refine opW_mono h1' fun u w' ⟨C', hor, hc', hh⟩ => ?_
        obtain ⟨a1, a2⟩ := step u w' C' hor hc' hh
        exact ⟨C', a1, hc', a2⟩
      · rename_i hw
        rw [if_neg hw] at h1
        exact (step undef w C (.inr fun _ h => h) hC h1).2

/-- What an act is to come to. -/
def actY (P : Program) (l : List Oper) (o : Oper) (e : Nat → Value) (w : World) (keep : (World → Prop) → Prop) (next : (World → Prop) → (Nat → Value) → World → Prop) (pass : (Nat → Value) → World → Prop) : Prop :=
  if wantedE l.toArray e o then opW P o e w (fun v w' => ∃ C' : World → Prop, keep C' ∧ C' w' ∧ next C' (put e o.dst v) w') else pass (put e o.dst undef) w
/-- A walk along a tree. -/
def OY (P : Program) (l : List Oper) : (World → Prop) → (Exit → (Nat → Value) → World → Prop) → Ty → (Nat → Value) → World → Prop
  | _, Q, .done, e, w => Q .normal e w
  | C, Q, .q i t, e, w => ∀ o, nth l i = some o → ∃ v, Quiet P l.toArray C o v e ∧ OY P l C Q t (put e o.dst v) w
  | C, Q, .p i t, e, w => ∀ o, nth l i = some o → ∃ v, Quiet P l.toArray (fun _ => True) o v e ∧ OY P l C Q t (put e o.dst v) w
  | C, Q, .a i t, e, w => ∀ o, nth l i = some o → actY P l o e w (fun C' => ∀ u, C' u → C u) (fun C' e w => OY P l C' Q t e w) (OY P l C Q t)
  | C, Q, .d i t, e, w => ∀ o, nth l i = some o → actY P l o e w (fun C' => True) (fun C' e w => OY P l C' Q t e w) (OY P l C Q t)
  | C, Q, .a2 i t j u, e, w => (∀ o, nth l i = some o → actY P l o e w (fun C' => ∀ u, C' u → C u) (fun C' e w => OY P l C' Q t e w) (OY P l C Q t)) ∧ (∀ o, nth l j = some o → actY P l o e w (fun C' => ∀ u, C' u → C u) (fun C' e w => OY P l C' Q u e w) (OY P l C Q u))
  | C, Q, .a3 i t j u k v, e, w => (∀ o, nth l i = some o → actY P l o e w (fun C' => ∀ u, C' u → C u) (fun C' e w => OY P l C' Q t e w) (OY P l C Q t)) ∧ (∀ o, nth l j = some o → actY P l o e w (fun C' => ∀ u, C' u → C u) (fun C' e w => OY P l C' Q u e w) (OY P l C Q u)) ∧ (∀ o, nth l k = some o → actY P l o e w (fun C' => ∀ u, C' u → C u) (fun C' e w => OY P l C' Q v e w) (OY P l C Q v))
def Ty.graft : Ty → Ty → Ty
  | .done, s => s
  | .q i t, s => .q i (t.graft s)
  | .p i t, s => .p i (t.graft s)
  | .a i t, s => .a i (t.graft s)
  | .d i t, s => .d i (t.graft s)
  | .a2 i t j u, s => .a2 i (t.graft s) j (u.graft s)
  | .a3 i t j u k v, s => .a3 i (t.graft s) j (u.graft s) k (v.graft s)
def Ty.ok (l : List Oper) (K : List Nat) : Ty → Nat → Array Bool → Bool
  | .done, f, listed => (f == 0) && (Region.ready .any l.toArray listed).isEmpty
  | .q i t, f, listed => (f != 0) && K.contains i && (Region.ready .any l.toArray listed).contains i && Region.free .any l.toArray listed i && t.ok l K (f - 1) (listed.setIfInBounds i true)
  | .p i t, f, listed => (f != 0) && (Region.ready .any l.toArray listed).contains i && Region.free .any l.toArray listed i && t.ok l K (f - 1) (listed.setIfInBounds i true)
  | .a i t, f, listed => (f != 0) && (Region.ready .any l.toArray listed == [i]) && t.ok l K (f - 1) (listed.setIfInBounds i true)
  | .d i t, f, listed => (f != 0) && (Region.ready .any l.toArray listed == [i]) && dropB l K listed i && t.ok l K (f - 1) (listed.setIfInBounds i true)
  | .a2 i t j u, f, listed => (f != 0) && (Region.ready .any l.toArray listed == [i, j]) && t.ok l K (f - 1) (listed.setIfInBounds i true) && u.ok l K (f - 1) (listed.setIfInBounds j true)
  | .a3 i t j u k v, f, listed => (f != 0) && (Region.ready .any l.toArray listed == [i, j, k]) && t.ok l K (f - 1) (listed.setIfInBounds i true) && u.ok l K (f - 1) (listed.setIfInBounds j true) && v.ok l K (f - 1) (listed.setIfInBounds k true)
theorem actY_mono {P : Program} {l : List Oper} {o : Oper} {e : Nat → Value} {w : World} {k k' : (World → Prop) → Prop} {n n' : (World → Prop) → (Nat → Value) → World → Prop} {p p' : (Nat → Value) → World → Prop} (h : actY P l o e w k n p) (hk : ∀ C, k C → k' C) (hn : ∀ C e w, C w → n C e w → n' C e w) (hp : ∀ e, p e w → p' e w) : actY P l o e w k' n' p' := by
  unfold actY at *
  split
  · rename_i hw
    rw [if_pos hw] at h
    exact opW_mono h fun v w' ⟨C', a, b, c⟩ => ⟨C', hk _ a, b, hn _ _ _ b c⟩
  · rename_i hw
    rw [if_neg hw] at h
    exact hp _ h
theorem OT2_of_OY {P : Program} {l : List Oper} {K : List Nat} {Q : Exit → (Nat → Value) → World → Prop} (hs : Region.noSelect l.toArray = true) : ∀ (t : Ty) (C : World → Prop) (f : Nat) (listed : Array Bool) (e : Nat → Value) (w : World),
    t.ok l K f listed = true → Closed l listed → C w → OY P l C Q t e w → OT2 P l K Q f C listed e w := by
  intro t
  induction t with
  | done =>
    intro C f listed e w hk hcl hC h
    simp only [Ty.ok, Bool.and_eq_true, beq_iff_eq, List.isEmpty_iff] at hk
    obtain ⟨rfl, hr⟩ := hk
    exact ⟨hr, h⟩
  | q i t ih =>
    intro C f listed e w hk hcl hC h
    simp only [Ty.ok, Bool.and_eq_true, bne_iff_ne] at hk
    obtain ⟨⟨⟨⟨hf, hK⟩, hr⟩, hfree⟩, hk'⟩ := hk
    obtain ⟨f, rfl⟩ : ∃ g, f = g + 1 := ⟨f - 1, by omega⟩
    have hr : i ∈ Region.ready .any l.toArray listed := by simpa using hr
    obtain ⟨_, o, ho, _⟩ := mem_ready.1 hr
    have ho' : l[i]? = some o := by simpa using ho
    obtain ⟨v, hq, hrest⟩ := h o (by rw [nth_eq]; exact ho')
    refine OT2_first false (fun _ => by simpa using hK) ho' (Region.noSelect_spec hs) f C listed e w (Region.free_spec ho hfree) hr hcl ?_ hC (ih C f _ _ _ hk' (hcl.set hr) hC hrest)
    rcases hq with ⟨hw, hr⟩ | hx
    · exact .inl ⟨hw, fun w hc => hr w (hc.resolve_left (by simp))⟩
    · exact .inr hx
  | p i t ih =>
    intro C f listed e w hk hcl hC h
    simp only [Ty.ok, Bool.and_eq_true, bne_iff_ne] at hk
    obtain ⟨⟨⟨hf, hr⟩, hfree⟩, hk'⟩ := hk
    obtain ⟨f, rfl⟩ : ∃ g, f = g + 1 := ⟨f - 1, by omega⟩
    have hr : i ∈ Region.ready .any l.toArray listed := by simpa using hr
    obtain ⟨_, o, ho, _⟩ := mem_ready.1 hr
    have ho' : l[i]? = some o := by simpa using ho
    obtain ⟨v, hq, hrest⟩ := h o (by rw [nth_eq]; exact ho')
    refine OT2_first true (fun h => by cases h) ho' (Region.noSelect_spec hs) f C listed e w (Region.free_spec ho hfree) hr hcl ?_ hC (ih C f _ _ _ hk' (hcl.set hr) hC hrest)
    rcases hq with ⟨hw, hr⟩ | hx
    · exact .inl ⟨hw, fun w hc => hr w trivial⟩
    · exact .inr hx
  | a i t ih =>
    intro C f listed e w hk hcl hC h
    simp only [Ty.ok, Bool.and_eq_true, bne_iff_ne, beq_iff_eq] at hk
    obtain ⟨⟨hf, hr⟩, hk'⟩ := hk
    obtain ⟨f, rfl⟩ : ∃ g, f = g + 1 := ⟨f - 1, by omega⟩
    refine ⟨fun h0 => (by rw [h0] at hr; cases hr), fun j hj o ho => ?_⟩
    have hjr := hj
    rw [hr, List.mem_singleton] at hj
    subst hj
    have hh := h o (by rw [nth_eq]; exact ho)
    exact actY_mono hh (fun C h => .inr h) (fun C' e w hc h => ih C' f _ _ _ hk' (hcl.set hjr) hc h) (fun e h => ih C f _ _ _ hk' (hcl.set hjr) hC h)
  | d i t ih =>
    intro C f listed e w hk hcl hC h
    simp only [Ty.ok, Bool.and_eq_true, bne_iff_ne, beq_iff_eq] at hk
    obtain ⟨⟨⟨hf, hr⟩, hdr⟩, hk'⟩ := hk
    obtain ⟨f, rfl⟩ : ∃ g, f = g + 1 := ⟨f - 1, by omega⟩
    refine ⟨fun h0 => (by rw [h0] at hr; cases hr), fun j hj o ho => ?_⟩
    have hjr := hj
    rw [hr, List.mem_singleton] at hj
    subst hj
    have hh := h o (by rw [nth_eq]; exact ho)
    exact actY_mono hh (fun C h => .inl hdr) (fun C' e w hc h => ih C' f _ _ _ hk' (hcl.set hjr) hc h) (fun e h => ih C f _ _ _ hk' (hcl.set hjr) hC h)
  | a2 i t j u iht ihu =>
    intro C f listed e w hk hcl hC h
    simp only [Ty.ok, Bool.and_eq_true, bne_iff_ne, beq_iff_eq] at hk
    obtain ⟨⟨⟨hf, hr⟩, hk1⟩, hk2⟩ := hk
    obtain ⟨f, rfl⟩ : ∃ g, f = g + 1 := ⟨f - 1, by omega⟩
    refine ⟨fun h0 => (by rw [h0] at hr; cases hr), fun x hx o ho => ?_⟩
    have hxr := hx
    rw [hr, List.mem_cons, List.mem_singleton] at hx
    rcases hx with rfl | rfl
    · exact actY_mono (h.1 o (by rw [nth_eq]; exact ho)) (fun C h => .inr h) (fun C' e w hc h => iht C' f _ _ _ hk1 (hcl.set hxr) hc h) (fun e h => iht C f _ _ _ hk1 (hcl.set hxr) hC h)
    · exact actY_mono (h.2 o (by rw [nth_eq]; exact ho)) (fun C h => .inr h) (fun C' e w hc h => ihu C' f _ _ _ hk2 (hcl.set hxr) hc h) (fun e h => ihu C f _ _ _ hk2 (hcl.set hxr) hC h)
  | a3 i t j u k v iht ihu ihv =>
    intro C f listed e w hk hcl hC h
    simp only [Ty.ok, Bool.and_eq_true, bne_iff_ne, beq_iff_eq] at hk
    obtain ⟨⟨⟨⟨hf, hr⟩, hk1⟩, hk2⟩, hk3⟩ := hk
    obtain ⟨f, rfl⟩ : ∃ g, f = g + 1 := ⟨f - 1, by omega⟩
    refine ⟨fun h0 => (by rw [h0] at hr; cases hr), fun x hx o ho => ?_⟩
    have hxr := hx
    rw [hr, List.mem_cons, List.mem_cons, List.mem_singleton] at hx
    rcases hx with rfl | rfl | rfl
    · exact actY_mono (h.1 o (by rw [nth_eq]; exact ho)) (fun C h => .inr h) (fun C' e w hc h => iht C' f _ _ _ hk1 (hcl.set hxr) hc h) (fun e h => iht C f _ _ _ hk1 (hcl.set hxr) hC h)
    · exact actY_mono (h.2.1 o (by rw [nth_eq]; exact ho)) (fun C h => .inr h) (fun C' e w hc h => ihu C' f _ _ _ hk2 (hcl.set hxr) hc h) (fun e h => ihu C f _ _ _ hk2 (hcl.set hxr) hC h)
    · exact actY_mono (h.2.2 o (by rw [nth_eq]; exact ho)) (fun C h => .inr h) (fun C' e w hc h => ihv C' f _ _ _ hk3 (hcl.set hxr) hc h) (fun e h => ihv C f _ _ _ hk3 (hcl.set hxr) hC h)

section
variable {rd : Option Nat} {ds : List Deferred} {P : Program} {n : Nat} {Q : Exit → (Nat → Value) → World → Prop} {e : Nat → Value} {w : World}
theorem FW_tree2 {id : Nat} {l : List Oper} (K : List Nat) (t : Ty) (C : World → Prop) (hm : P.follows .mixedOrders = true) (hd : dstsIn n l = true)
    (hk : (Region.noSelect l.toArray && t.ok l K l.length (Array.replicate l.length false)) = true) (hC : ∀ w', Ext w w' → C w') (h : ∀ w', Ext w w' → C w' → OY P l C Q t e w') : FW rd ds P n (.region id l.toArray true) Q e w := by
  refine FW_mk fun m a hs => ?_
  refine wpIn_region_any hm ?_
  rw [Bool.and_eq_true] at hk
  have := wpAnyIn_of_OT2 (rd := rd) hd (m := m) l.length C (Array.replicate l.length false) a e w.drew hs (OT2_of_OY hk.1 t C l.length (Array.replicate l.length false) e w.drew hk.2 (fun j o _ hl => by rw [getD_replicate_false] at hl; cases hl) (hC _ (Ext.drew' w)) (h _ (Ext.drew' w) (hC _ (Ext.drew' w))))
  simpa using this
theorem CW_tree2 {id : Nat} {l : List Oper} (K : List Nat) (t : Ty) (C : World → Prop) (hm : P.follows .mixedOrders = true) (hd : dstsIn n l = true)
    (hk : (Region.noSelect l.toArray && t.ok l K l.length (Array.replicate l.length false)) = true) (hC : ∀ w', Ext w w' → C w') (h : ∀ w', Ext w w' → C w' → OY P l C Q t e w') : CW P n (.region id l.toArray true) Q e w :=
  CW_of_FW (FW_tree2 K t C hm hd hk hC h)
end
section
variable {P : Program} {l : List Oper} {C : World → Prop} {Q : Exit → (Nat → Value) → World → Prop} {e : Nat → Value} {w : World} {d : Tmp} {op : Op} {ty : TypeId} {pos : String} {aft : Array Edge}
theorem OY_done (h : Q .normal e w) : OY P l C Q .done e w := h
theorem quiet_of {C : World → Prop} {v : Value} (h1 : ∀ w, C w → OW P l.toArray (stay e d v w) [⟨some d, op, ty, pos, aft, none⟩] e w) : Quiet P l.toArray C ⟨some d, op, ty, pos, aft, none⟩ v e := by
  refine .inl ⟨rfl, fun w hw => ?_⟩
  have hh := h1 w hw
  unfold OW at hh
  rw [if_pos (by rfl)] at hh
  have hinj : ∀ u, upd e d u = upd e d v → u = v := fun u hu => by
    have := congrFun hu d
    rwa [upd_same, upd_same] at this
  exact opW_mono hh fun u w' hx => by unfold OW stay at hx; exact ⟨hinj _ hx.2.1, hx.2.2⟩
theorem quiet_take {C : World → Prop} {v : Value} {g : Nat × Bool} (hw : wantedE l.toArray e ⟨some d, op, ty, pos, aft, some g⟩ = true) (h1 : ∀ w, C w → OW P l.toArray (stay e d v w) [⟨some d, op, ty, pos, aft, none⟩] e w) : Quiet P l.toArray C ⟨some d, op, ty, pos, aft, some g⟩ v e := by
  refine .inl ⟨hw, fun w hw => ?_⟩
  have hh := h1 w hw
  unfold OW at hh
  rw [if_pos (by rfl)] at hh
  have hinj : ∀ u, upd e d u = upd e d v → u = v := fun u hu => by
    have := congrFun hu d
    rwa [upd_same, upd_same] at this
  have hh2 : opW P ⟨some d, op, ty, pos, aft, some g⟩ e w (fun u w' => OW P l.toArray (stay e d v w) [] (upd e d u) w') := by unfold opW at hh ⊢; exact hh
  exact opW_mono hh2 fun u w' hx => by unfold OW stay at hx; exact ⟨hinj _ hx.2.1, hx.2.2⟩
theorem OY_q {i : Nat} {t : Ty} (v : Value) (ho : nth l i = some ⟨some d, op, ty, pos, aft, none⟩) (h1 : ∀ w, C w → OW P l.toArray (stay e d v w) [⟨some d, op, ty, pos, aft, none⟩] e w) (h : OY P l C Q t (upd e d v) w) : OY P l C Q (.q i t) e w := by
  unfold OY
  intro o ho'
  rw [ho] at ho'
  cases ho'
  exact ⟨v, quiet_of h1, h⟩
theorem OY_p {i : Nat} {t : Ty} (v : Value) (ho : nth l i = some ⟨some d, op, ty, pos, aft, none⟩) (h1 : ∀ w, OW P l.toArray (stay e d v w) [⟨some d, op, ty, pos, aft, none⟩] e w) (h : OY P l C Q t (upd e d v) w) : OY P l C Q (.p i t) e w := by
  unfold OY
  intro o ho'
  rw [ho] at ho'
  cases ho'
  exact ⟨v, quiet_of fun w _ => h1 w, h⟩
theorem OY_qtake {i : Nat} {t : Ty} {g : Nat × Bool} (v : Value) (ho : nth l i = some ⟨some d, op, ty, pos, aft, some g⟩) (hw : wantedE l.toArray e ⟨some d, op, ty, pos, aft, some g⟩ = true) (h1 : ∀ w, C w → OW P l.toArray (stay e d v w) [⟨some d, op, ty, pos, aft, none⟩] e w) (h : OY P l C Q t (upd e d v) w) : OY P l C Q (.q i t) e w := by
  unfold OY
  intro o ho'
  rw [ho] at ho'
  cases ho'
  exact ⟨v, quiet_take hw h1, h⟩
theorem OY_ptake {i : Nat} {t : Ty} {g : Nat × Bool} (v : Value) (ho : nth l i = some ⟨some d, op, ty, pos, aft, some g⟩) (hw : wantedE l.toArray e ⟨some d, op, ty, pos, aft, some g⟩ = true) (h1 : ∀ w, OW P l.toArray (stay e d v w) [⟨some d, op, ty, pos, aft, none⟩] e w) (h : OY P l C Q t (upd e d v) w) : OY P l C Q (.p i t) e w := by
  unfold OY
  intro o ho'
  rw [ho] at ho'
  cases ho'
  exact ⟨v, quiet_take hw fun w _ => h1 w, h⟩
theorem OY_qpass {i : Nat} {t : Ty} {dst : Option Tmp} {g : Nat × Bool} (ho : nth l i = some ⟨dst, op, ty, pos, aft, some g⟩) (hw : wantedE l.toArray e ⟨dst, op, ty, pos, aft, some g⟩ = false) (h : OY P l C Q t (put e dst undef) w) : OY P l C Q (.q i t) e w := by
  unfold OY
  intro o ho'
  rw [ho] at ho'
  cases ho'
  exact ⟨undef, .inr ⟨hw, rfl⟩, h⟩
theorem OY_ppass {i : Nat} {t : Ty} {dst : Option Tmp} {g : Nat × Bool} (ho : nth l i = some ⟨dst, op, ty, pos, aft, some g⟩) (hw : wantedE l.toArray e ⟨dst, op, ty, pos, aft, some g⟩ = false) (h : OY P l C Q t (put e dst undef) w) : OY P l C Q (.p i t) e w := by
  unfold OY
  intro o ho'
  rw [ho] at ho'
  cases ho'
  exact ⟨undef, .inr ⟨hw, rfl⟩, h⟩
/-- What an act comes to: the class that lasts, and the rest. -/
def goY (P : Program) (l : List Oper) (keep : (World → Prop) → Prop) (Q : Exit → (Nat → Value) → World → Prop) (t : Ty) : Exit → (Nat → Value) → World → Prop := fun x e w => x = .normal ∧ ∃ C' : World → Prop, keep C' ∧ C' w ∧ OY P l C' Q t e w
theorem goY_mk {t : Ty} (hC : C w) (h : OY P l C Q t e w) : goY P l (fun C' => ∀ u, C' u → C u) Q t .normal e w := ⟨rfl, C, fun _ h => h, hC, h⟩
theorem goY_sub {t : Ty} (C' : World → Prop) (hs : ∀ u, C' u → C u) (hC : C' w) (h : OY P l C' Q t e w) : goY P l (fun C' => ∀ u, C' u → C u) Q t .normal e w := ⟨rfl, C', hs, hC, h⟩
theorem goY_drop {t : Ty} (C' : World → Prop) (hC : C' w) (h : OY P l C' Q t e w) : goY P l (fun _ => True) Q t .normal e w := ⟨rfl, C', trivial, hC, h⟩
theorem goY_done (h : Q .normal e w) : goY P l (fun _ => True) Q .done .normal e w := ⟨rfl, fun _ => True, trivial, trivial, h⟩
theorem actY_of {keep : (World → Prop) → Prop} {i : Nat} {t : Ty} {dst : Option Tmp} {pass : (Nat → Value) → World → Prop} (ho : nth l i = some ⟨dst, op, ty, pos, aft, none⟩) (h : OW P l.toArray (goY P l keep Q t) [⟨dst, op, ty, pos, aft, none⟩] e w) :
    ∀ o, nth l i = some o → actY P l o e w keep (fun C' e w => OY P l C' Q t e w) pass := by
  intro o ho'
  rw [ho] at ho'
  cases ho'
  unfold actY
  rw [if_pos (by rfl)]
  unfold OW at h
  rw [if_pos (by rfl)] at h
  exact opW_mono h fun v w' hx => by unfold OW goY at hx; exact hx.2
theorem actY_take {keep : (World → Prop) → Prop} {i : Nat} {t : Ty} {dst : Option Tmp} {g : Nat × Bool} {pass : (Nat → Value) → World → Prop} (ho : nth l i = some ⟨dst, op, ty, pos, aft, some g⟩) (hw : wantedE l.toArray e ⟨dst, op, ty, pos, aft, some g⟩ = true) (h : OW P l.toArray (goY P l keep Q t) [⟨dst, op, ty, pos, aft, none⟩] e w) :
    ∀ o, nth l i = some o → actY P l o e w keep (fun C' e w => OY P l C' Q t e w) pass := by
  intro o ho'
  rw [ho] at ho'
  cases ho'
  unfold actY
  rw [if_pos hw]
  unfold OW at h
  rw [if_pos (by rfl)] at h
  have h2 : opW P ⟨dst, op, ty, pos, aft, some g⟩ e w (fun v w' => OW P l.toArray (goY P l keep Q t) [] (put e dst v) w') := by unfold opW at h ⊢; exact h
  exact opW_mono h2 fun v w' hx => by unfold OW goY at hx; exact hx.2
theorem actY_pass {keep : (World → Prop) → Prop} {i : Nat} {t : Ty} {dst : Option Tmp} {g : Nat × Bool} (ho : nth l i = some ⟨dst, op, ty, pos, aft, some g⟩) (hw : wantedE l.toArray e ⟨dst, op, ty, pos, aft, some g⟩ = false) (h : OY P l C Q t (put e dst undef) w) :
    ∀ o, nth l i = some o → actY P l o e w keep (fun C' e w => OY P l C' Q t e w) (OY P l C Q t) := by
  intro o ho'
  rw [ho] at ho'
  cases ho'
  unfold actY
  rw [if_neg (by rw [hw]; simp)]
  exact h
theorem OY_a {i : Nat} {t : Ty} (h : ∀ o, nth l i = some o → actY P l o e w (fun C' => ∀ u, C' u → C u) (fun C' e w => OY P l C' Q t e w) (OY P l C Q t)) : OY P l C Q (.a i t) e w := h
theorem OY_d {i : Nat} {t : Ty} (h : ∀ o, nth l i = some o → actY P l o e w (fun _ => True) (fun C' e w => OY P l C' Q t e w) (OY P l C Q t)) : OY P l C Q (.d i t) e w := h
theorem OY_a2 {i j : Nat} {t u : Ty} (h : ∀ o, nth l i = some o → actY P l o e w (fun C' => ∀ u, C' u → C u) (fun C' e w => OY P l C' Q t e w) (OY P l C Q t)) (h2 : ∀ o, nth l j = some o → actY P l o e w (fun C' => ∀ u, C' u → C u) (fun C' e w => OY P l C' Q u e w) (OY P l C Q u)) : OY P l C Q (.a2 i t j u) e w := ⟨h, h2⟩
theorem OY_a3 {i j k : Nat} {t u v : Ty} (h : ∀ o, nth l i = some o → actY P l o e w (fun C' => ∀ u, C' u → C u) (fun C' e w => OY P l C' Q t e w) (OY P l C Q t)) (h2 : ∀ o, nth l j = some o → actY P l o e w (fun C' => ∀ u, C' u → C u) (fun C' e w => OY P l C' Q u e w) (OY P l C Q u)) (h3 : ∀ o, nth l k = some o → actY P l o e w (fun C' => ∀ u, C' u → C u) (fun C' e w => OY P l C' Q v e w) (OY P l C Q v)) : OY P l C Q (.a3 i t j u k v) e w := ⟨h, h2, h3⟩
/-- A test of the region, in both ways. -/
theorem OY_split {t : Ty} (s : Nat) (b : Bool) (hs : e s = .bool b) (ht : b = true → OY P l C Q t (upd e s (.bool true)) w) (hf : b = false → OY P l C Q t (upd e s (.bool false)) w) : OY P l C Q t e w := by
  cases b with
  | true => rw [upd_self hs]; exact ht rfl
  | false => rw [upd_self hs]; exact hf rfl
end
attribute [irreducible] OY goY actY
end Go.Proofs.Ytdpcahfgdpikfaa
