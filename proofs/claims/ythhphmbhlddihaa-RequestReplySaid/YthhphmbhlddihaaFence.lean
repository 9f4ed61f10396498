/- Walks of code that ranges over a function: the same calculus within a round, and behind such a loop; calls of yield; the loop itself, for iterators that turn cells of their own. No program in sight. -/
import Derived.Test.YthhphmbhlddihaaOrd
import Derived.Test.YthhphmbhlddihaaObj
import Derived.Test.YthhphmbhlddihaaCut
import Derived.RangeFuncNested
import Derived.RangeFuncCalls
import Derived.RangeFuncLeaves
import Derived.TacticsIn
import Derived.OrdersIn
import Derived.Shelf.Abstract
namespace Go.Proofs.Ythhphmbhlddihaa
open Go Go.RowKit
set_option linter.unusedVariables false

def fen : Option Nat → Fence
  | none => Fence.wide
  | some l => Fence.wide.inRound l
theorem fen_fn (rd : Option Nat) (f : FuncId) : (fen rd).fn f := by cases rd <;> trivial
theorem fen_depth (rd : Option Nat) : (fen rd).depth = none := by cases rd <;> rfl
theorem fen_round (rd : Option Nat) : (fen rd).round = rd := by cases rd <;> rfl
structure StD (n : Nat) (ds : List Deferred) (a : Act) (e : Nat → Value) : Prop where
  size : a.tmps.size = n
  def_ : a.defers = ds
  at_ : ∀ i, a.tmps.getD i undef = e i
theorem StD.st {n : Nat} {ds : List Deferred} {a : Act} {e : Nat → Value} (h : StD n ds a e) : St n { a with defers := [] } e := ⟨h.size, rfl, h.at_⟩
theorem StD.ev {n : Nat} {ds : List Deferred} {a : Act} {e : Nat → Value} (h : StD n ds a e) : a.eval = ev e := h.st.ev
theorem StD.put {n : Nat} {ds : List Deferred} {a : Act} {e : Nat → Value} (h : StD n ds a e) {d : Option Tmp} (hd : ∀ k, d = some k → k < n) (v : Value) : StD n ds (a.put d v) (put e d v) := by
  have h2 := h.st.put hd v
  cases d with
  | none => exact h
  | some d => exact ⟨h2.size, h.def_, h2.at_⟩
theorem wanted_eqD {n : Nat} {ds : List Deferred} {a : Act} {e : Nat → Value} (h : StD n ds a e) {ops : Array Oper} (o : Oper) : Region.wanted o (yielded ops a.tmps) = wantedE ops e o := wanted_eq h.st o

/-- A round that yield asks for. -/
def RoundW (P : Program) (l : Nat) (f : FuncId) (tmps : Array Value) (assign body : Code) (w : World) (R : Ending → World → Prop) : Prop := ∀ m, RoundIn Fence.wide m P l f tmps assign body w R
def opUponF (P : Program) (w0 : World) (K : Value → World → Prop) : Result Next → Prop
  | .ok (.value v) w => K v w
  | .ok .skip w => K undef w
  | .ok (.enter f args) w => w = w0 ∧ Calls P f args w fun en w' => ∃ v, en = .returned v ∧ K v w'
  | .ok (.round l f tmps assign body) w => RoundW P l f tmps assign body w fun en w' => ∃ v, en = .returned v ∧ K v w'
  | _ => False
def opWF (P : Program) (o : Oper) (e : Nat → Value) (w : World) (K : Value → World → Prop) : Prop := opUponF P w K ((execOp (ev e) o).run P w)
theorem opWF_of {P : Program} {o : Oper} {e : Nat → Value} {w : World} {K : Value → World → Prop} (h : opW P o e w K) : opWF P o e w K := by
  unfold opW at h
  unfold opWF
  generalize (execOp (ev e) o).run P w = r at *
  cases r with
  | ok x w' => cases x <;> simp only [opUpon] at h <;> simp only [opUponF] <;> exact h
  | halt x w' => simp only [opUpon] at h
theorem calls_fen {P : Program} {f : FuncId} {args : Array Value} {w : World} {R : Ending → World → Prop} (rd : Option Nat) (m : Nat) (h : Calls P f args w R) : CallsIn (fen rd) m P f args w R := by
  cases rd with
  | none => exact callsIn_wide.2 h
  | some l => exact CallsIn.inRound l (callsIn_wide.2 h)
theorem round_fen {P : Program} {l : Nat} {f : FuncId} {tmps : Array Value} {assign body : Code} {w : World} {R : Ending → World → Prop} (rd : Option Nat) (m : Nat) (h : RoundW P l f tmps assign body w R) : RoundIn (fen rd) m P l f tmps assign body w R := by
  cases rd with
  | none => exact h m
  | some k => exact h m
theorem Oper.wpIn_of_opWF {P : Program} {o : Oper} {a : Act} {n m : Nat} {rd : Option Nat} {ds : List Deferred} {e : Nat → Value} {w : World} (hs : StD n ds a e) {K : Value → World → Prop} {next : Act → World → Prop} {Q : Exit → Act → World → Prop}
    (h : opWF P o e w K) (hk : ∀ v w', K v w' → next (a.put o.dst v) w') : o.wpIn (fen rd) m P a w next Q := by
  unfold Oper.wpIn
  refine ⟨fun f _ => fen_fn rd f, ?_⟩
  unfold opWF at h
  have hnd : ∀ c, o.op ≠ .defer c := by
    intro c hc
    unfold execOp at h
    rw [hc] at h
    simp only [Sem.run_bind] at h
    generalize (resolve (ev e) c o.type).run P w = r at h
    cases r with
    | ok x w' => simp [Result.andThen, opUponF] at h
    | halt x w' => simp [Result.andThen, opUponF] at h
  rw [Oper.semAt_eq _ _ _ hnd, hs.ev]
  generalize (execOp (ev e) o).run P w = r at *
  cases r with
  | ok x w' =>
    cases x <;> simp only [opUponF] at h <;> simp only [Oper.uponIn]
    case value v => exact hk _ _ h
    case skip => exact hk _ _ h
    case enter f args =>
      refine ⟨fun hd => (by rw [fen_depth] at hd; cases hd), (calls_fen rd _ h.2).mono fun en w'' hh => ?_⟩
      obtain ⟨v, rfl, hv⟩ := hh
      exact hk _ _ hv
    case round l f tmps assign body =>
      refine ⟨fun hd => (by rw [fen_depth] at hd; cases hd), (round_fen rd _ h).mono fun en w'' hh => ?_⟩
      obtain ⟨v, rfl, hv⟩ := hh
      exact hk _ _ hv
  | halt x w' => simp only [opUponF] at h
/-- A list of operations, calls of yield among them. -/
def OWF (P : Program) (ops : Array Oper) (Q : Exit → (Nat → Value) → World → Prop) : List Oper → (Nat → Value) → World → Prop
  | [], e, w => Q .normal e w
  | o :: rest, e, w => if wantedE ops e o then opWF P o e w (fun v w' => OWF P ops Q rest (put e o.dst v) w') else OWF P ops Q rest (put e o.dst undef) w
def QD (n : Nat) (ds : List Deferred) (Q : Exit → (Nat → Value) → World → Prop) : Exit → Act → World → Prop := fun x a w => ∃ e, StD n ds a e ∧ Q x e w
theorem wpListIn_of_OWF {P : Program} {ops : Array Oper} {n m : Nat} {rd : Option Nat} {ds : List Deferred} {Q : Exit → (Nat → Value) → World → Prop} : ∀ (l : List Oper) {a : Act} {e : Nat → Value} {w : World},
    dstsIn n l = true → StD n ds a e → OWF P ops Q l e w → wpListIn (fen rd) m P ops (QD n ds Q) l a w
  | [], _, e, _, _, hs, h => ⟨e, hs, h⟩
  | o :: l, a, e, w, hd, hs, h => by
    obtain ⟨hd0, hd1⟩ := dstsIn_cons hd
    unfold wpListIn
    rw [wanted_eqD hs]
    unfold OWF at h
    split
    · rename_i hw
      rw [if_pos hw] at h
      exact Oper.wpIn_of_opWF hs h fun v w' hv => wpListIn_of_OWF l hd1 (hs.put hd0 v) hv
    · rename_i hw
      rw [if_neg hw] at h
      exact ⟨fun f _ => fen_fn rd f, wpListIn_of_OWF l hd1 (hs.put hd0 undef) h⟩
theorem OWF_of {P : Program} {ops : Array Oper} {Q : Exit → (Nat → Value) → World → Prop} : ∀ (l : List Oper) {e : Nat → Value} {w : World}, OW P ops Q l e w → OWF P ops Q l e w
  | [], e, w, h => by unfold OW at h; exact h
  | o :: l, e, w, h => by
    unfold OW at h
    unfold OWF
    split
    · rename_i hw
      rw [if_pos hw] at h
      exact opWF_of (opW_mono h fun v w' hv => OWF_of l hv)
    · rename_i hw
      rw [if_neg hw] at h
      exact OWF_of l h
theorem OWF_one {P : Program} {ops : Array Oper} {Q : Exit → (Nat → Value) → World → Prop} {o : Oper} {rest : List Oper} {e : Nat → Value} {w : World} (h : OW P ops (fun _ e' w' => OWF P ops Q rest e' w') [o] e w) : OWF P ops Q (o :: rest) e w := by
  unfold OW at h
  unfold OWF
  split
  · rename_i hw
    rw [if_pos hw] at h
    exact opWF_of (opW_mono h fun v w' hv => by unfold OW at hv; exact hv)
  · rename_i hw
    rw [if_neg hw] at h
    unfold OW at h
    exact h
theorem OWF_nil {P : Program} {ops : Array Oper} {Q : Exit → (Nat → Value) → World → Prop} {e : Nat → Value} {w : World} (h : Q .normal e w) : OWF P ops Q [] e w := h
/-- A call of yield. -/
def YieldW (P : Program) (l : Nat) (args : Array Value) (W : World) (R : Ending → World → Prop) : Prop :=
  ∃ fn tmps assign body, (Instr.yield l args).run P W = .ok (.round l fn tmps assign body) W ∧ RoundW P l fn tmps assign body W R
theorem YieldW.mono {P : Program} {l : Nat} {args : Array Value} {W : World} {R R' : Ending → World → Prop} (h : YieldW P l args W R) (hr : ∀ e w, R e w → R' e w) : YieldW P l args W R' := by
  obtain ⟨fn, tmps, assign, body, h1, h2⟩ := h
  exact ⟨fn, tmps, assign, body, h1, fun m => (h2 m).mono hr⟩
theorem OWF_yield {P : Program} {ops : Array Oper} {Q : Exit → (Nat → Value) → World → Prop} {rest : List Oper} {e : Nat → Value} {w : World} {dst : Option Tmp} {ty : TypeId} {pos : String} {aft : Array Edge} {x : Operand} {args : List Operand} {args' : List Value} {tys : Array TypeId} {l : Nat} {g : Option (Nat × Bool)}
    (hw : wantedE ops e ⟨dst, .call { callee := .value x, args := args.toArray, argTypes := tys }, ty, pos, aft, g⟩ = true) (hx : ev e x = .func (.yield l) #[] #[]) (ha : args.map (ev e) = args')
    (h : YieldW P l args'.toArray w fun en w' => ∃ v, en = .returned v ∧ OWF P ops Q rest (put e dst v) w') : OWF P ops Q (⟨dst, .call { callee := .value x, args := args.toArray, argTypes := tys }, ty, pos, aft, g⟩ :: rest) e w := by
  obtain ⟨fn, tmps, assign, body, h1, h2⟩ := h
  unfold OWF
  rw [if_pos hw]
  unfold opWF
  have : (execOp (ev e) ⟨dst, .call { callee := .value x, args := args.toArray, argTypes := tys }, ty, pos, aft, g⟩).run P w = .ok (.round l fn tmps assign body) w := by
    subst ha
    simp only [execOp, resolve, hx, Deferred.ofValue]
    simpa [invoke] using h1
  rw [this]
  exact h2

/-- Code, in a round or not, with marks among what is deferred. -/
def FW (rd : Option Nat) (ds : List Deferred) (P : Program) (n : Nat) (c : Code) (Q : Exit → (Nat → Value) → World → Prop) (e : Nat → Value) (w : World) : Prop := ∀ m a, StD n ds a e → c.wpIn (fen rd) m P (QD n ds Q) a w
section
variable {rd : Option Nat} {ds : List Deferred} {P : Program} {n : Nat} {Q : Exit → (Nat → Value) → World → Prop} {e : Nat → Value} {w : World}
theorem FW.mono {c : Code} {Q' : Exit → (Nat → Value) → World → Prop} (h : FW rd ds P n c Q e w) (hq : ∀ x e w, Q x e w → Q' x e w) : FW rd ds P n c Q' e w :=
  fun m a hs => wpIn_mono (h m a hs) fun x a w ⟨e, hs, hx⟩ => ⟨e, hs, hq _ _ _ hx⟩
theorem FW_of_CW {c : Code} (h : CW P n c Q e w) : FW none [] P n c Q e w := by
  unfold CW at h
  intro m a hs
  refine wpIn_wide.2 (wp_mono (h a ⟨hs.size, hs.def_, hs.at_⟩) ?_)
  rintro x a w ⟨e, hs, hx⟩
  exact ⟨e, ⟨hs.size, hs.def_, hs.at_⟩, hx⟩
theorem CW_of_FW {c : Code} (h : FW none [] P n c Q e w) : CW P n c Q e w := by
  unfold CW
  intro a hs
  refine wp_mono (wpIn_wide.1 (h 0 a ⟨hs.size, hs.def_, hs.at_⟩)) ?_
  rintro x a w ⟨e, hs, hx⟩
  exact ⟨e, ⟨hs.size, hs.def_, hs.at_⟩, hx⟩
theorem FW_seq {x y : Code} (h : FW rd ds P n x (thenE (FW rd ds P n y Q) Q) e w) : FW rd ds P n (.seq x y) Q e w := by
  intro m a hs
  refine wpIn_seq (wpIn_mono (h m a hs) fun x a w hx => ?_)
  obtain ⟨e, hs, hx⟩ := hx
  unfold thenE at hx
  cases x <;> first | exact hx m a hs | exact ⟨e, hs, hx⟩
theorem FW_skip (h : Q .normal e w) : FW rd ds P n .skip Q e w := fun _ _ hs => wpIn_skip ⟨e, hs, h⟩
theorem FW_exit {id : Nat} (h : Q (.exit id) e w) : FW rd ds P n (.exit id) Q e w := fun _ _ hs => wpIn_exit ⟨e, hs, h⟩
theorem FW_ret (h : Q .ret e w) : FW rd ds P n .ret Q e w := fun _ _ hs => wpIn_ret ⟨e, hs, h⟩
theorem FW_block {id : Nat} {c : Code} (h : FW rd ds P n c (inBlockE id Q) e w) : FW rd ds P n (.block id c) Q e w := by
  intro m a hs
  refine wpIn_block (wpIn_mono (h m a hs) fun x a w hx => ?_)
  obtain ⟨e, hs, hx⟩ := hx
  unfold inBlockE at hx
  cases x with
  | exit id' =>
    simp only at hx
    simp only [Exit.inBlock]
    split
    · rename_i h; rw [if_pos h] at hx; exact ⟨e, hs, hx⟩
    · rename_i h; rw [if_neg h] at hx; exact ⟨e, hs, hx⟩
  | _ => exact ⟨e, hs, hx⟩
theorem FW_cond {c : Operand} {x y : Code} (b : Bool) (hc : ev e c = .bool b) (ht : b = true → FW rd ds P n x Q e w) (hf : b = false → FW rd ds P n y Q e w) : FW rd ds P n (.cond c x y) Q e w := by
  intro m a hs
  cases b with
  | true => exact wpIn_cond_true (by rw [hs.ev]; exact hc) (ht rfl m a hs)
  | false => exact wpIn_cond_false (by rw [hs.ev]; exact hc) (hf rfl m a hs)
theorem FW_condT {c : Operand} {x y : Code} (hc : ev e c = .bool true) (h : FW rd ds P n x Q e w) : FW rd ds P n (.cond c x y) Q e w := FW_cond true hc (fun _ => h) (fun h => by cases h)
theorem FW_condF {c : Operand} {x y : Code} (hc : ev e c = .bool false) (h : FW rd ds P n y Q e w) : FW rd ds P n (.cond c x y) Q e w := FW_cond false hc (fun h => by cases h) (fun _ => h)
theorem FW_region {id : Nat} {l : List Oper} (hd : dstsIn n l = true) (h : OW P l.toArray Q l e w) : FW rd ds P n (.region id l.toArray false) Q e w :=
  fun m a hs => wpIn_region_lit (wpListIn_of_OWF l hd hs (OWF_of l h))
theorem FW_regionF {id : Nat} {l : List Oper} (hd : dstsIn n l = true) (h : OWF P l.toArray Q l e w) : FW rd ds P n (.region id l.toArray false) Q e w :=
  fun m a hs => wpIn_region_lit (wpListIn_of_OWF l hd hs h)
theorem FW_loop {c : Code} (I : (Nat → Value) → World → Prop) (μ : (Nat → Value) → World → Nat) (h0 : I e w)
    (round : ∀ e w, I e w → FW rd ds P n c (thenE (fun e' w' => I e' w' ∧ μ e' w' < μ e w) Q) e w) : FW rd ds P n (.loop c) Q e w := by
  intro m a hs
  refine wpIn_loop (fun a w => ∃ e, StD n ds a e ∧ I e w) (fun a w => μ (fun i => a.tmps.getD i undef) w) ⟨e, hs, h0⟩ fun a w ⟨e, hs, hI⟩ => wpIn_mono (round e w hI m a hs) fun x a' w' hx => ?_
  obtain ⟨e', hs', hx⟩ := hx
  have hfun : ∀ {a : Act} {e : Nat → Value}, StD n ds a e → (fun i => a.tmps.getD i undef) = e := fun h => funext h.at_
  unfold thenE at hx
  cases x with
  | normal =>
    refine ⟨⟨e', hs', hx.1⟩, ?_⟩
    simp only [hfun hs', hfun hs]
    exact hx.2
  | _ => exact ⟨e', hs', hx⟩
theorem wpAnyIn_of_OT {l : List Oper} {C : World → Prop} (hd : dstsIn n l = true) {m : Nat} : ∀ (f : Nat) (listed : Array Bool) (a : Act) (e : Nat → Value) (w : World),
    StD n ds a e → OT P l C Q f listed e w → wpAnyIn (fen rd) m P .any l.toArray (QD n ds Q) f listed a w
  | 0, listed, a, e, w, hs, h => ⟨h.1, e, hs, h.2⟩
  | f + 1, listed, a, e, w, hs, h => by
    refine ⟨fun h0 => ⟨e, hs, h.1 h0⟩, fun i hi => ?_⟩
    obtain ⟨_, o, ho, _⟩ := mem_ready.1 hi
    have ho' : l[i]? = some o := by simpa using ho
    have hh := h.2 i hi o ho'
    have hdo : ∀ k, o.dst = some k → k < n := fun k hk => by
      unfold dstsIn at hd
      rw [List.all_eq_true] at hd
      have := hd o (List.mem_iff_getElem?.2 ⟨i, ho'⟩)
      rw [hk] at this
      simpa using this
    unfold wpOpIn
    simp only [ho]
    rw [wanted_eqD hs]
    split
    · rename_i hw
      rw [if_pos hw] at hh
      exact Oper.wpIn_of_opWF hs (opWF_of hh) fun v w' hv => wpAnyIn_of_OT hd f _ _ _ _ (hs.put hdo v) hv.2
    · rename_i hw
      rw [if_neg hw] at hh
      exact ⟨fun f _ => fen_fn rd f, wpAnyIn_of_OT hd f _ _ _ _ (hs.put hdo undef) hh⟩
theorem FW_tree {id : Nat} {l : List Oper} (t : Tr) (C : World → Prop) (hm : P.follows .mixedOrders = true) (hd : dstsIn n l = true)
    (hk : (Region.noSelect l.toArray && t.ok l.toArray l.length (Array.replicate l.length false)) = true) (hC : ∀ w', Ext w w' → C w') (h : ∀ w', Ext w w' → C w' → OX false P l C Q t e w') : FW rd ds P n (.region id l.toArray true) Q e w := by
  intro m a hs
  refine wpIn_region_any hm ?_
  rw [Bool.and_eq_true] at hk
  have := wpAnyIn_of_OT (rd := rd) hd (m := m) l.length (Array.replicate l.length false) a e w.drew hs (OT_of_OX hk.1 t C l.length (Array.replicate l.length false) e w.drew hk.2 (hC _ (Ext.drew' w)) (h _ (Ext.drew' w) (hC _ (Ext.drew' w))))
  simpa using this
theorem FW_meet {c : Code} (J : (Nat → Value) → World → Prop) (h : FW rd ds P n c (nrm J) e w) (hk : ∀ e w, J e w → Q .normal e w) : FW rd ds P n c Q e w :=
  h.mono fun x e w ⟨hx, hJ⟩ => by subst hx; exact hk _ _ hJ
theorem CW_seqF {x y : Code} (h : CW P n x (thenE (FW none [] P n y Q) Q) e w) : FW none [] P n (.seq x y) Q e w := FW_seq (FW_of_CW h)
theorem FW_mk {c : Code} (h : ∀ m a, StD n ds a e → c.wpIn (fen rd) m P (QD n ds Q) a w) : FW rd ds P n c Q e w := h
theorem FW.out {c : Code} (h : FW rd ds P n c Q e w) : ∀ m a, StD n ds a e → c.wpIn (fen rd) m P (QD n ds Q) a w := h
end
attribute [irreducible] FW OWF
end Go.Proofs.Ythhphmbhlddihaa
