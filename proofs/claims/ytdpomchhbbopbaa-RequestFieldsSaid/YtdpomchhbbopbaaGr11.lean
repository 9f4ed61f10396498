/- Several texts in one, as they stand in wip/src. -/
import Derived.RangeFuncNested
import Derived.RangeFuncCalls
import Derived.RangeFuncLeaves
import Derived.TacticsIn
import Derived.OrdersIn
import Derived.Shelf.Abstract
import Derived.Test.YtdpomchhbbopbaaGr3
import Derived.Test.YtdpomchhbbopbaaGr4
import Derived.Test.YtdpomchhbbopbaaGr9
import Derived.Test.YtdpomchhbbopbaaGr10
/- Walks of code that ranges over a function: the same calculus within a round, and behind such a loop; calls of yield; the loop itself, for iterators that turn cells of their own. No program in sight. -/
namespace Go.Proofs.Ytdpomchhbbopbaa
open Go Go.RowKit
set_option linter.unusedVariables false

def fen : Option Nat → Fence
  | none => Fence.wide
  | some l => Fence.wide.inRound l
theorem fen_fn (rd : Option Nat) (f : FuncId) : (fen rd).fn f := by cases rd <;> trivial
theorem fen_depth (rd : Option Nat) : (fen rd).depth = none := by cases rd <;> rfl
theorem fen_round (rd : Option Nat) : (fen rd).round = rd := by cases rd <;> rfl
structure StD (n : Nat) (ds : List Deferred) (a : Act) (e : Nat → Value) : Prop where
  size : a.tmps.size = n
  def_ : a.defers = ds
  at_ : ∀ i, a.tmps.getD i undef = e i
theorem StD.st {n : Nat} {ds : List Deferred} {a : Act} {e : Nat → Value} (h : StD n ds a e) : St n { a with defers := [] } e := ⟨h.size, rfl, h.at_⟩
theorem StD.ev {n : Nat} {ds : List Deferred} {a : Act} {e : Nat → Value} (h : StD n ds a e) : a.eval = ev e := h.st.ev
theorem StD.put {n : Nat} {ds : List Deferred} {a : Act} {e : Nat → Value} (h : StD n ds a e) {d : Option Tmp} (hd : ∀ k, d = some k → k < n) (v : Value) : StD n ds (a.put d v) (put e d v) := by
  have h2 := h.st.put hd v
  cases d with
  | none => exact h
  | some d => exact ⟨h2.size, h.def_, h2.at_⟩
theorem wanted_eqD {n : Nat} {ds : List Deferred} {a : Act} {e : Nat → Value} (h : StD n ds a e) {ops : Array Oper} (o : Oper) : Region.wanted o (yielded ops a.tmps) = wantedE ops e o := wanted_eq h.st o

/-- A round that yield asks for. -/
def RoundW (P : Program) (l : Nat) (f : FuncId) (tmps : Array Value) (assign body : Code) (w : World) (R : Ending → World → Prop) : Prop := ∀ m, RoundIn Fence.wide m P l f tmps assign body w R
def opUponF (P : Program) (w0 : World) (K : Value → World → Prop) : Result Next → Prop
  | .ok (.value v) w => K v w
  | .ok .skip w => K undef w
  | .ok (.enter f args) w => w = w0 ∧ Calls P f args w fun en w' => ∃ v, en = .returned v ∧ K v w'
  | .ok (.round l f tmps assign body) w => RoundW P l f tmps assign body w fun en w' => ∃ v, en = .returned v ∧ K v w'
  | _ => False
def opWF (P : Program) (o : Oper) (e : Nat → Value) (w : World) (K : Value → World → Prop) : Prop := opUponF P w K ((execOp (ev e) o).run P w)
theorem opWF_of {P : Program} {o : Oper} {e : Nat → Value} {w : World} {K : Value → World → Prop} (h : opW P o e w K) : opWF P o e w K := by
  unfold opW at h
  unfold opWF
  generalize (execOp (ev e) o).run P w = r at *
  cases r with
  | ok x w' => cases x <;> simp only [opUpon] at h <;> simp only [opUponF] <;> exact h
  | halt x w' => simp only [opUpon] at h
theorem calls_fen {P : Program} {f : FuncId} {args : Array Value} {w : World} {R : Ending → World → Prop} (rd : Option Nat) (m : Nat) (h : Calls P f args w R) : CallsIn (fen rd) m P f args w R := by
  cases rd with
  | none => exact callsIn_wide.2 h
  | some l => exact CallsIn.inRound l (callsIn_wide.2 h)
theorem round_fen {P : Program} {l : Nat} {f : FuncId} {tmps : Array Value} {assign body : Code} {w : World} {R : Ending → World → Prop} (rd : Option Nat) (m : Nat) (h : RoundW P l f tmps assign body w R) : RoundIn (fen rd) m P l f tmps assign body w R := by
  cases rd with
  | none => exact h m
  | some k => exact h m
theorem Oper.wpIn_of_opWF {P : Program} {o : Oper} {a : Act} {n m : Nat} {rd : Option Nat} {ds : List Deferred} {e : Nat → Value} {w : World} (hs : StD n ds a e) {K : Value → World → Prop} {next : Act → World → Prop} {Q : Exit → Act → World → Prop}
    (h : opWF P o e w K) (hk : ∀ v w', K v w' → next (a.put o.dst v) w') : o.wpIn (fen rd) m P a w next Q := by
  unfold Oper.wpIn
  refine ⟨fun f _ => fen_fn rd f, ?_⟩
  unfold opWF at h
  have hnd : ∀ c, o.op ≠ .defer c := by
    intro c hc
    unfold execOp at h
    rw [hc] at h
    simp only [Sem.run_bind] at h
    generalize (resolve (ev e) c o.type).run P w = r at h
    cases r with
    | ok x w' => simp [Result.andThen, opUponF] at h
    | halt x w' => simp [Result.andThen, opUponF] at h
  rw [Oper.semAt_eq _ _ _ hnd, hs.ev]
  generalize (execOp (ev e) o).run P w = r at *
  cases r with
  | ok x w' =>
    cases x <;> simp only [opUponF] at h <;> simp only [Oper.uponIn]
    case value v => exact hk _ _ h
    case skip => exact hk _ _ h
    case enter f args =>
      refine ⟨fun hd => (by rw [fen_depth] at hd; cases hd), (calls_fen rd _ h.2).mono fun en w'' hh => ?_⟩
      obtain ⟨v, rfl, hv⟩ := hh
      exact hk _ _ hv
    case round l f tmps assign body =>
      refine ⟨fun hd => (by rw [fen_depth] at hd; cases hd), (round_fen rd _ h).mono fun en w'' hh => ?_⟩
      obtain ⟨v, rfl, hv⟩ := hh
      exact hk _ _ hv
  | halt x w' => simp only [opUponF] at h
/-- A list of operations, calls of yield among them. -/
def OWF (P : Program) (ops : Array Oper) (Q : Exit → (Nat → Value) → World → Prop) : List Oper → (Nat → Value) → World → Prop
  | [], e, w => Q .normal e w
  | o :: rest, e, w => if wantedE ops e o then opWF P o e w (fun v w' => OWF P ops Q rest (put e o.dst v) w') else OWF P ops Q rest (put e o.dst undef) w
def QD (n : Nat) (ds : List Deferred) (Q : Exit → (Nat → Value) → World → Prop) : Exit → Act → World → Prop := fun x a w => ∃ e, StD n ds a e ∧ Q x e w
theorem wpListIn_of_OWF {P : Program} {ops : Array Oper} {n m : Nat} {rd : Option Nat} {ds : List Deferred} {Q : Exit → (Nat → Value) → World → Prop} : ∀ (l : List Oper) {a : Act} {e : Nat → Value} {w : World},
    dstsIn n l = true → StD n ds a e → OWF P ops Q l e w → wpListIn (fen rd) m P ops (QD n ds Q) l a w
  | [], _, e, _, _, hs, h => ⟨e, hs, h⟩
  | o :: l, a, e, w, hd, hs, h => by
    obtain ⟨hd0, hd1⟩ := dstsIn_cons hd
    unfold wpListIn
    rw [wanted_eqD hs]
    unfold OWF at h
    split
    · rename_i hw
      rw [if_pos hw] at h
      exact Oper.wpIn_of_opWF hs h fun v w' hv => wpListIn_of_OWF l hd1 (hs.put hd0 v) hv
    · rename_i hw
      rw [if_neg hw] at h
      exact ⟨fun f _ => fen_fn rd f, wpListIn_of_OWF l hd1 (hs.put hd0 undef) h⟩
theorem OWF_of {P : Program} {ops : Array Oper} {Q : Exit → (Nat → Value) → World → Prop} : ∀ (l : List Oper) {e : Nat → Value} {w : World}, OW P ops Q l e w → OWF P ops Q l e w
  | [], e, w, h => by unfold OW at h; exact h
  | o :: l, e, w, h => by
    unfold OW at h
    unfold OWF
    split
    · rename_i hw
      rw [if_pos hw] at h
      exact opWF_of (opW_mono h fun v w' hv => OWF_of l hv)
    · rename_i hw
      rw [if_neg hw] at h
      exact OWF_of l h
theorem OWF_one {P : Program} {ops : Array Oper} {Q : Exit → (Nat → Value) → World → Prop} {o : Oper} {rest : List Oper} {e : Nat → Value} {w : World} (h : OW P ops (fun _ e' w' => OWF P ops Q rest e' w') [o] e w) : OWF P ops Q (o :: rest) e w := by
  unfold OW at h
  unfold OWF
  split
  · rename_i hw
    rw [if_pos hw] at h
    exact opWF_of (opW_mono h fun v w' hv => by unfold OW at hv; exact hv)
  · rename_i hw
    rw [if_neg hw] at h
    unfold OW at h
    exact h
theorem OWF_nil {P : Program} {ops : Array Oper} {Q : Exit → (Nat → Value) → World → Prop} {e : Nat → Value} {w : World} (h : Q .normal e w) : OWF P ops Q [] e w := h
/-- A call of yield. -/
def YieldW (P : Program) (l : Nat) (args : Array Value) (W : World) (R : Ending → World → Prop) : Prop :=
  ∃ fn tmps assign body, (Instr.yield l args).run P W = .ok (.round l fn tmps assign body) W ∧ RoundW P l fn tmps assign body W R
theorem YieldW.mono {P : Program} {l : Nat} {args : Array Value} {W : World} {R R' : Ending → World → Prop} (h : YieldW P l args W R) (hr : ∀ e w, R e w → R' e w) : YieldW P l args W R' := by
  obtain ⟨fn, tmps, assign, body, h1, h2⟩ := h
  exact ⟨fn, tmps, assign, body, h1, fun m => (h2 m).mono hr⟩
theorem OWF_yield {P : Program} {ops : Array Oper} {Q : Exit → (Nat → Value) → World → Prop} {rest : List Oper} {e : Nat → Value} {w : World} {dst : Option Tmp} {ty : TypeId} {pos : String} {aft : Array Edge} {x : Operand} {args : List Operand} {args' : List Value} {tys : Array TypeId} {l : Nat} {g : Option (Nat × Bool)}
    (hw : wantedE ops e ⟨dst, .call { callee := .value x, args := args.toArray, argTypes := tys }, ty, pos, aft, g⟩ = true) (hx : ev e x = .func (.yield l) #[] #[]) (ha : args.map (ev e) = args')
    (h : YieldW P l args'.toArray w fun en w' => ∃ v, en = .returned v ∧ OWF P ops Q rest (put e dst v) w') : OWF P ops Q (⟨dst, .call { callee := .value x, args := args.toArray, argTypes := tys }, ty, pos, aft, g⟩ :: rest) e w := by
  obtain ⟨fn, tmps, assign, body, h1, h2⟩ := h
  unfold OWF
  rw [if_pos hw]
  unfold opWF
  have : (execOp (ev e) ⟨dst, .call { callee := .value x, args := args.toArray, argTypes := tys }, ty, pos, aft, g⟩).run P w = .ok (.round l fn tmps assign body) w := by
    subst ha
    simp only [execOp, resolve, hx, Deferred.ofValue]
    simpa [invoke] using h1
  rw [this]
  exact h2

/-- Code, in a round or not, with marks among what is deferred. -/
def FW (rd : Option Nat) (ds : List Deferred) (P : Program) (n : Nat) (c : Code) (Q : Exit → (Nat → Value) → World → Prop) (e : Nat → Value) (w : World) : Prop := ∀ m a, StD n ds a e → c.wpIn (fen rd) m P (QD n ds Q) a w
section
variable {rd : Option Nat} {ds : List Deferred} {P : Program} {n : Nat} {Q : Exit → (Nat → Value) → World → Prop} {e : Nat → Value} {w : World}
theorem FW.mono {c : Code} {Q' : Exit → (Nat → Value) → World → Prop} (h : FW rd ds P n c Q e w) (hq : ∀ x e w, Q x e w → Q' x e w) : FW rd ds P n c Q' e w :=
  fun m a hs => wpIn_mono (h m a hs) fun x a w ⟨e, hs, hx⟩ => ⟨e, hs, hq _ _ _ hx⟩
theorem FW_of_CW {c : Code} (h : CW P n c Q e w) : FW none [] P n c Q e w := by
  unfold CW at h
  intro m a hs
  refine wpIn_wide.2 (wp_mono (h a ⟨hs.size, hs.def_, hs.at_⟩) ?_)
  rintro x a w ⟨e, hs, hx⟩
  exact ⟨e, ⟨hs.size, hs.def_, hs.at_⟩, hx⟩
theorem CW_of_FW {c : Code} (h : FW none [] P n c Q e w) : CW P n c Q e w := by
  unfold CW
  intro a hs
  refine wp_mono (wpIn_wide.1 (h 0 a ⟨hs.size, hs.def_, hs.at_⟩)) ?_
  rintro x a w ⟨e, hs, hx⟩
  exact ⟨e, ⟨hs.size, hs.def_, hs.at_⟩, hx⟩
theorem FW_seq {x y : Code} (h : FW rd ds P n x (thenE (FW rd ds P n y Q) Q) e w) : FW rd ds P n (.seq x y) Q e w := by
  intro m a hs
  refine wpIn_seq (wpIn_mono (h m a hs) fun x a w hx => ?_)
  obtain ⟨e, hs, hx⟩ := hx
  unfold thenE at hx
  cases x <;> first | exact hx m a hs | exact ⟨e, hs, hx⟩
theorem FW_skip (h : Q .normal e w) : FW rd ds P n .skip Q e w := fun _ _ hs => wpIn_skip ⟨e, hs, h⟩
theorem FW_exit {id : Nat} (h : Q (.exit id) e w) : FW rd ds P n (.exit id) Q e w := fun _ _ hs => wpIn_exit ⟨e, hs, h⟩
theorem FW_ret (h : Q .ret e w) : FW rd ds P n .ret Q e w := fun _ _ hs => wpIn_ret ⟨e, hs, h⟩
theorem FW_block {id : Nat} {c : Code} (h : FW rd ds P n c (inBlockE id Q) e w) : FW rd ds P n (.block id c) Q e w := by
  intro m a hs
  refine wpIn_block (wpIn_mono (h m a hs) fun x a w hx => ?_)
  obtain ⟨e, hs, hx⟩ := hx
  unfold inBlockE at hx
  cases x with
  | exit id' =>
    simp only at hx
    simp only [Exit.inBlock]
    split
    · rename_i h; rw [if_pos h] at hx; exact ⟨e, hs, hx⟩
    · rename_i h; rw [if_neg h] at hx; exact ⟨e, hs, hx⟩
  | _ => exact ⟨e, hs, hx⟩
theorem FW_cond {c : Operand} {x y : Code} (b : Bool) (hc : ev e c = .bool b) (ht : b = true → FW rd ds P n x Q e w) (hf : b = false → FW rd ds P n y Q e w) : FW rd ds P n (.cond c x y) Q e w := by
  intro m a hs
  cases b with
  | true => exact wpIn_cond_true (by rw [hs.ev]; exact hc) (ht rfl m a hs)
  | false => exact wpIn_cond_false (by rw [hs.ev]; exact hc) (hf rfl m a hs)
theorem FW_condT {c : Operand} {x y : Code} (hc : ev e c = .bool true) (h : FW rd ds P n x Q e w) : FW rd ds P n (.cond c x y) Q e w := FW_cond true hc (fun _ => h) (fun h => by cases h)
theorem FW_condF {c : Operand} {x y : Code} (hc : ev e c = .bool false) (h : FW rd ds P n y Q e w) : FW rd ds P n (.cond c x y) Q e w := FW_cond false hc (fun h => by cases h) (fun _ => h)
theorem FW_region {id : Nat} {l : List Oper} (hd : dstsIn n l = true) (h : OW P l.toArray Q l e w) : FW rd ds P n (.region id l.toArray false) Q e w :=
  fun m a hs => wpIn_region_lit (wpListIn_of_OWF l hd hs (OWF_of l h))
theorem FW_regionF {id : Nat} {l : List Oper} (hd : dstsIn n l = true) (h : OWF P l.toArray Q l e w) : FW rd ds P n (.region id l.toArray false) Q e w :=
  fun m a hs => wpIn_region_lit (wpListIn_of_OWF l hd hs h)
theorem FW_loop {c : Code} (I : (Nat → Value) → World → Prop) (μ : (Nat → Value) → World → Nat) (h0 : I e w)
    (round : ∀ e w, I e w → FW rd ds P n c (thenE (fun e' w' => I e' w' ∧ μ e' w' < μ e w) Q) e w) : FW rd ds P n (.loop c) Q e w := by
  intro m a hs
  refine wpIn_loop (fun a w => ∃ e, StD n ds a e ∧ I e w) (fun a w => μ (fun i => a.tmps.getD i undef) w) ⟨e, hs, h0⟩ fun a w ⟨e, hs, hI⟩ => wpIn_mono (round e w hI m a hs) fun x a' w' hx => ?_
  obtain ⟨e', hs', hx⟩ := hx
  have hfun : ∀ {a : Act} {e : Nat → Value}, StD n ds a e → (fun i => a.tmps.getD i undef) = e := fun h => funext h.at_
  unfold thenE at hx
  cases x with
  | normal =>
    refine ⟨⟨e', hs', hx.1⟩, ?_⟩
    simp only [hfun hs', hfun hs]
    exact hx.2
  | _ => exact ⟨e', hs', hx⟩
theorem wpAnyIn_of_OT {l : List Oper} {C : World → Prop} (hd : dstsIn n l = true) {m : Nat} : ∀ (f : Nat) (listed : Array Bool) (a : Act) (e : Nat → Value) (w : World),
    StD n ds a e → OT P l C Q f listed e w → wpAnyIn (fen rd) m P .any l.toArray (QD n ds Q) f listed a w
  | 0, listed, a, e, w, hs, h => ⟨h.1, e, hs, h.2⟩
  | f + 1, listed, a, e, w, hs, h => by
    refine ⟨fun h0 => ⟨e, hs, h.1 h0⟩, fun i hi => ?_⟩
    obtain ⟨_, o, ho, _⟩ := mem_ready.1 hi
    have ho' : l[i]? = some o := by simpa using ho
    have hh := h.2 i hi o ho'
    have hdo : ∀ k, o.dst = some k → k < n := fun k hk => by
      unfold dstsIn at hd
      rw [List.all_eq_true] at hd
      have := hd o (List.mem_iff_getElem?.2 ⟨i, ho'⟩)
      rw [hk] at this
      simpa using this
    unfold wpOpIn
    simp only [ho]
    rw [wanted_eqD hs]
    split
    · rename_i hw
      rw [if_pos hw] at hh
      exact Oper.wpIn_of_opWF hs (opWF_of hh) fun v w' hv => wpAnyIn_of_OT hd f _ _ _ _ (hs.put hdo v) hv.2
    · rename_i hw
      rw [if_neg hw] at hh
      exact ⟨fun f _ => fen_fn rd f, wpAnyIn_of_OT hd f _ _ _ _ (hs.put hdo undef) hh⟩
theorem FW_tree {id : Nat} {l : List Oper} (t : Tr) (C : World → Prop) (hm : P.follows .mixedOrders = true) (hd : dstsIn n l = true)
    (hk : (Region.noSelect l.toArray && t.ok l.toArray l.length (Array.replicate l.length false)) = true) (hC : ∀ w', Ext w w' → C w') (h : ∀ w', Ext w w' → C w' → OX false P l C Q t e w') : FW rd ds P n (.region id l.toArray true) Q e w := by
  intro m a hs
  refine wpIn_region_any hm ?_
  rw [Bool.and_eq_true] at hk
  have := wpAnyIn_of_OT (rd := rd) hd (m := m) l.length (Array.replicate l.length false) a e w.drew hs (OT_of_OX hk.1 t C l.length (Array.replicate l.length false) e w.drew hk.2 (hC _ (Ext.drew' w)) (h _ (Ext.drew' w) (hC _ (Ext.drew' w))))
  simpa using this
theorem FW_meet {c : Code} (J : (Nat → Value) → World → Prop) (h : FW rd ds P n c (nrm J) e w) (hk : ∀ e w, J e w → Q .normal e w) : FW rd ds P n c Q e w :=
  h.mono fun x e w ⟨hx, hJ⟩ => by subst hx; exact hk _ _ hJ
theorem CW_seqF {x y : Code} (h : CW P n x (thenE (FW none [] P n y Q) Q) e w) : FW none [] P n (.seq x y) Q e w := FW_seq (FW_of_CW h)
theorem FW_mk {c : Code} (h : ∀ m a, StD n ds a e → c.wpIn (fen rd) m P (QD n ds Q) a w) : FW rd ds P n c Q e w := h
theorem FW.out {c : Code} (h : FW rd ds P n c Q e w) : ∀ m a, StD n ds a e → c.wpIn (fen rd) m P (QD n ds Q) a w := h
end
attribute [irreducible] FW OWF
end Go.Proofs.Ytdpomchhbbopbaa

/- Regions whose order is drawn, with acts behind which the class of worlds is another one: a quiet operation of the class must come ahead of them; pure operations may come anywhere. No program in sight. -/
namespace Go.Proofs.Ytdpomchhbbopbaa
open Go Go.RowKit
set_option linter.unusedVariables false

inductive Ty
  | done
  | q (i : Nat) (t : Ty)
  | p (i : Nat) (t : Ty)
  | a (i : Nat) (t : Ty)
  | d (i : Nat) (t : Ty)
  | a2 (i : Nat) (t : Ty) (j : Nat) (u : Ty)
  | a3 (i : Nat) (t : Ty) (j : Nat) (u : Ty) (k : Nat) (v : Ty)
/-- Who stands behind 'k'. -/
def marksF (k : Nat) : List Oper → List Bool → List Bool
  | [], ms => ms
  | o :: l, ms => marksF k l (ms ++ [ms.length == k || o.after.any fun e => Region.binds .any e && ms.getD e.on false])
def behind (l : List Oper) (k j : Nat) : Bool := (marksF k l []).getD j false
theorem marksF_spec (k : Nat) (P : Nat → Prop) (listed : Nat → Bool) (hk : listed k = false) : ∀ (l pre : List Oper) (ms : List Bool), ms.length = pre.length →
    (∀ j o, (pre ++ l)[j]? = some o → listed j = true → ∀ e ∈ o.after, Region.binds .any e = true → listed e.on = true) →
    (∀ j, ms.getD j false = true → listed j = false ∧ (j = k ∨ ∃ o, (pre ++ l)[j]? = some o ∧ ∃ e ∈ o.after, Region.binds .any e = true ∧ listed e.on = false)) →
    ∀ j, (marksF k l ms).getD j false = true → listed j = false ∧ (j = k ∨ ∃ o, (pre ++ l)[j]? = some o ∧ ∃ e ∈ o.after, Region.binds .any e = true ∧ listed e.on = false)
  | [], pre, ms, _, _, hm => by unfold marksF; exact hm
  | o :: l, pre, ms, hl, hc, hm => by
    unfold marksF
    have e1 : pre ++ o :: l = (pre ++ [o]) ++ l := by simp
    rw [e1] at hc hm ⊢
    refine marksF_spec k P listed hk l (pre ++ [o]) _ (by simp [hl]) hc ?_
    intro j hj
    rcases Nat.lt_trichotomy j ms.length with h | h | h
    · rw [List.getD_eq_getElem?_getD, List.getElem?_append_left h, ← List.getD_eq_getElem?_getD] at hj
      exact hm j hj
    · subst h
      rw [List.getD_eq_getElem?_getD, List.getElem?_append_right (Nat.le_refl _)] at hj
      simp only [Nat.sub_self, List.getElem?_cons_zero, Option.getD_some, Bool.or_eq_true, beq_iff_eq, Array.any_eq_true', Bool.and_eq_true] at hj
      rcases hj with hj | ⟨e, he, hb, hme⟩
      · rw [hj]; exact ⟨hk, .inl rfl⟩
      · have hun := (hm _ hme).1
        have hoj : ((pre ++ [o]) ++ l)[ms.length]? = some o := by rw [hl]; simp
        refine ⟨?_, .inr ⟨o, hoj, e, he, hb, hun⟩⟩
        cases hlj : listed ms.length with
        | false => rfl
        | true => rw [hc _ o hoj hlj e he hb] at hun; cases hun
    · rw [List.getD_eq_getElem?_getD, List.getElem?_eq_none (by simp; omega)] at hj
      cases hj
/-- Who is listed, those ahead of him are. -/
def Closed (l : List Oper) (listed : Array Bool) : Prop := ∀ j o, l[j]? = some o → listed.getD j false = true → ∀ e ∈ o.after, Region.binds .any e = true → listed.getD e.on false = true
theorem Closed.set {l : List Oper} {listed : Array Bool} (h : Closed l listed) {i : Nat} (hr : i ∈ Region.ready .any l.toArray listed) : Closed l (listed.setIfInBounds i true) := by
  intro j o ho hl e he hb
  obtain ⟨_, o', ho', hall⟩ := mem_ready.1 hr
  by_cases hij : i = j
  · subst hij
    have : o' = o := Option.some.inj (ho'.symm.trans (by simpa using ho))
    subst this
    exact getD_set_true (hall e he hb)
  · rw [getD_set_ne false hij] at hl
    exact getD_set_true (h j o ho hl e he hb)
theorem behind_spec {l : List Oper} {listed : Array Bool} {k j : Nat} (hc : Closed l listed) (hk : listed.getD k false = false) (hb : behind l k j = true) (hne : j ≠ k) (hr : j ∈ Region.ready .any l.toArray listed) : False := by
  have := marksF_spec k (fun _ => True) (fun j => listed.getD j false) hk l [] [] rfl hc (by simp) j hb
  obtain ⟨_, h | ⟨o, ho, e, he, hb, hun⟩⟩ := this
  · exact hne h
  · obtain ⟨_, o', ho', hall⟩ := mem_ready.1 hr
    have : o' = o := Option.some.inj (ho'.symm.trans (by simpa using ho))
    subst this
    have hun' : listed.getD e.on false = false := hun
    rw [hall e he hb] at hun'; cases hun'
/-- All of the class that are listed stand ahead of 'j'. -/
def dropB (l : List Oper) (K : List Nat) (listed : Array Bool) (j : Nat) : Bool := K.all fun k => !(listed.getD k false) || behind l k j

def OT2 (P : Program) (l : List Oper) (K : List Nat) (Q : Exit → (Nat → Value) → World → Prop) : Nat → (World → Prop) → Array Bool → (Nat → Value) → World → Prop
  | 0, C, listed, e, w => Region.ready .any l.toArray listed = [] ∧ Q .normal e w
  | f + 1, C, listed, e, w => (Region.ready .any l.toArray listed = [] → Q .normal e w) ∧ ∀ i ∈ Region.ready .any l.toArray listed, ∀ o, l[i]? = some o →
      if wantedE l.toArray e o then opW P o e w (fun v w' => ∃ C' : World → Prop, (dropB l K listed i = true ∨ ∀ u, C' u → C u) ∧ C' w' ∧ OT2 P l K Q f C' (listed.setIfInBounds i true) (put e o.dst v) w') else OT2 P l K Q f C (listed.setIfInBounds i true) (put e o.dst undef) w

theorem wpAnyIn_of_OT2 {P : Program} {n : Nat} {rd : Option Nat} {ds : List Deferred} {Q : Exit → (Nat → Value) → World → Prop} {l : List Oper} {K : List Nat} (hd : dstsIn n l = true) {m : Nat} : ∀ (f : Nat) (C : World → Prop) (listed : Array Bool) (a : Act) (e : Nat → Value) (w : World),
    StD n ds a e → OT2 P l K Q f C listed e w → wpAnyIn (fen rd) m P .any l.toArray (QD n ds Q) f listed a w
  | 0, C, listed, a, e, w, hs, h => ⟨h.1, e, hs, h.2⟩
  | f + 1, C, listed, a, e, w, hs, h => by
    refine ⟨fun h0 => ⟨e, hs, h.1 h0⟩, fun i hi => ?_⟩
    obtain ⟨_, o, ho, _⟩ := mem_ready.1 hi
    have ho' : l[i]? = some o := by simpa using ho
    have hh := h.2 i hi o ho'
    have hdo : ∀ k, o.dst = some k → k < n := fun k hk => by
      unfold dstsIn at hd
      rw [List.all_eq_true] at hd
      have := hd o (List.mem_iff_getElem?.2 ⟨i, ho'⟩)
      rw [hk] at this
      simpa using this
    unfold wpOpIn
    simp only [ho]
    rw [wanted_eqD hs]
    split
    · rename_i hw
      rw [if_pos hw] at hh
      exact Oper.wpIn_of_opWF hs (opWF_of hh) fun v w' ⟨C', _, _, hv⟩ => wpAnyIn_of_OT2 hd f C' _ _ _ _ (hs.put hdo v) hv
    · rename_i hw
      rw [if_neg hw] at hh
      exact ⟨fun f _ => fen_fn rd f, wpAnyIn_of_OT2 hd f C _ _ _ _ (hs.put hdo undef) hh⟩

theorem OT2_first {P : Program} {l : List Oper} {K : List Nat} {Q : Exit → (Nat → Value) → World → Prop} {i : Nat} {oi : Oper} {v : Value} (pure : Bool) (hp : pure = false → i ∈ K) (hi : l[i]? = some oi)
    (hsel : ∀ (j : Nat) (o : Oper) cs b, l.toArray[j]? = some o → o.op ≠ .select cs b) :
    ∀ (f : Nat) (C : World → Prop) (listed : Array Bool) (e : Nat → Value) (w : World),
      (∀ j oj, l.toArray[j]? = some oj → j ≠ i → listed.getD j true = false → (∀ e ∈ oj.after, Region.binds .any e = true → e.on ≠ i) → oi.apart l.toArray oj = true) →
      i ∈ Region.ready .any l.toArray listed → Closed l listed → Quiet P l.toArray (fun u => pure = true ∨ C u) oi v e → C w →
      OT2 P l K Q f C (listed.setIfInBounds i true) (put e oi.dst v) w → OT2 P l K Q (f + 1) C listed e w := by
  intro f
  have doI : ∀ (f : Nat) (C : World → Prop) (listed : Array Bool) (e : Nat → Value) (w : World), Quiet P l.toArray (fun u => pure = true ∨ C u) oi v e → C w → OT2 P l K Q f C (listed.setIfInBounds i true) (put e oi.dst v) w →
      ∀ o, l[i]? = some o → if wantedE l.toArray e o then opW P o e w (fun v w' => ∃ C' : World → Prop, (dropB l K listed i = true ∨ ∀ u, C' u → C u) ∧ C' w' ∧ OT2 P l K Q f C' (listed.setIfInBounds i true) (put e o.dst v) w') else OT2 P l K Q f C (listed.setIfInBounds i true) (put e o.dst undef) w := by
    intro f C listed e w hq hC H o ho
    rw [hi] at ho
    cases ho
    rcases hq with ⟨hw, hr⟩ | ⟨hw, rfl⟩
    · rw [if_pos hw]
      exact opW_mono (hr w (.inr hC)) fun u w' ⟨hu, hw'⟩ => by subst hu; subst hw'; exact ⟨C, .inr fun _ h => h, hC, H⟩
    · rw [hw, if_neg (by simp)]
      exact H
  induction f with
  | zero =>
    intro C listed e w hfree hr hcl hq hC H
    refine ⟨fun h => (by rw [h] at hr; cases hr), fun j hj o ho => ?_⟩
    by_cases hji : j = i
    · subst hji; exact doI _ _ _ _ _ hq hC H o ho
    · have := ready_mono hj hji
      rw [H.1] at this
      cases this
  | succ f ih =>
    intro C listed e w hfree hr hcl hq hC H
    refine ⟨fun h => (by rw [h] at hr; cases hr), fun j hj oj hoj => ?_⟩
    by_cases hji : j = i
    · subst hji; exact doI _ _ _ _ _ hq hC H oj hoj
    · have hjr := ready_mono hj hji
      have h1 := H.2 j hjr oj hoj
      obtain ⟨hjun, oj', hoj', hall⟩ := mem_ready.1 hj
      have hojA : l.toArray[j]? = some oj := by simpa using hoj
      have : oj' = oj := Option.some.inj (hoj'.symm.trans hojA)
      subst this
      have hiun := (mem_ready.1 hr).1
      have hisz : i < listed.size := by
        rcases Nat.lt_or_ge i listed.size with h' | h'
        · exact h'
        · simp [Array.getElem?_eq_none h'] at hiun
      have hiun' : listed.getD i false = false := by simp [hisz] at hiun ⊢; exact hiun
      have hnot : ∀ e ∈ oj'.after, Region.binds .any e = true → e.on ≠ i := fun e he hb heq => by
        have h1 := hall e he hb
        rw [heq, hiun'] at h1
        cases h1
      have hap := hfree j oj' hoj' hji hjun hnot
      obtain ⟨p1, p2, p3⟩ := Oper.apart_spec hap
      have hsi : ∀ cs b, oi.op ≠ .select cs b := fun cs b => hsel i oi cs b (by simpa using hi)
      have hsj : ∀ cs b, oj'.op ≠ .select cs b := fun cs b => hsel j oj' cs b hoj'
      have hfree' : ∀ k ok, l.toArray[k]? = some ok → k ≠ i → (listed.setIfInBounds j true).getD k true = false →
          (∀ e ∈ ok.after, Region.binds .any e = true → e.on ≠ i) → oi.apart l.toArray ok = true := fun k ok hk hki hun hno => by
        refine hfree k ok hk hki ?_ hno
        by_cases hjk : j = k
        · subst hjk; exact hjun
        · rw [getD_set_ne true hjk] at hun; exact hun
      have hdrop : dropB l K (listed.setIfInBounds i true) j = true → dropB l K listed j = true ∧ pure = true := fun hd => by
        unfold dropB at hd ⊢
        rw [List.all_eq_true] at hd ⊢
        refine ⟨fun k hk => ?_, ?_⟩
        · have := hd k hk
          simp only [Bool.or_eq_true, Bool.not_eq_true'] at this ⊢
          rcases this with h | h
          · left
            by_cases hik : i = k
            · subst hik; exact hiun'
            · rwa [getD_set_ne false hik] at h
          · exact .inr h
        · cases hpp : pure with
          | true => rfl
          | false =>
            have := hd i (hp hpp)
            simp only [Bool.or_eq_true, Bool.not_eq_true'] at this
            rcases this with h | h
            · simp [hisz] at h
            · exact absurd (behind_spec hcl hiun' h hji hj) (fun h => h)
      have step : ∀ (u : Value) (w' : World) (C' : World → Prop), (dropB l K (listed.setIfInBounds i true) j = true ∨ ∀ u, C' u → C u) → C' w' → OT2 P l K Q f C' ((listed.setIfInBounds i true).setIfInBounds j true) (put (put e oi.dst v) oj'.dst u) w' →
          (dropB l K listed j = true ∨ ∀ u, C' u → C u) ∧ OT2 P l K Q (f + 1) C' (listed.setIfInBounds j true) (put e oj'.dst u) w' := fun u w' C' hor hC' h => by
        have hq' : Quiet P l.toArray (fun u => pure = true ∨ C' u) oi v e := by
          rcases hq with ⟨hw, hr⟩ | hx
          · refine .inl ⟨hw, fun w hc => hr w ?_⟩
            rcases hor with hd | hs
            · exact .inl (hdrop hd).2
            · exact hc.imp id (hs w)
          · exact .inr hx
        refine ⟨hor.imp (fun hd => (hdrop hd).1) id, ih C' (listed.setIfInBounds j true) _ _ hfree' (ready_mono hr (Ne.symm hji)) (hcl.set hj) (hq'.keep hsi p3 u) hC' ?_⟩
        rw [Array.setIfInBounds_comm _ _ hji, ← put_comm e v u p2]
        exact h
      rw [wantedE_put oj' e oi.dst v p1] at h1
      split
      · rename_i hw
        rw [if_pos hw] at h1
        have h1' : opW P oj' e w (fun u w' => ∃ C' : World → Prop, (dropB l K (listed.setIfInBounds i true) j = true ∨ ∀ u, C' u → C u) ∧ C' w' ∧ OT2 P l K Q f C' ((listed.setIfInBounds i true).setIfInBounds j true) (put (put e oi.dst v) oj'.dst u) w') := by
          unfold opW at h1 ⊢
          rw [execOp_putE oj' hsj e oi.dst v p1] at h1
          exact h1
        refine opW_mono h1' fun u w' ⟨C', hor, hc', hh⟩ => ?_
        obtain ⟨a1, a2⟩ := step u w' C' hor hc' hh
        exact ⟨C', a1, hc', a2⟩
      · rename_i hw
        rw [if_neg hw] at h1
        exact (step undef w C (.inr fun _ h => h) hC h1).2

/-- What an act is to come to. -/
def actY (P : Program) (l : List Oper) (o : Oper) (e : Nat → Value) (w : World) (keep : (World → Prop) → Prop) (next : (World → Prop) → (Nat → Value) → World → Prop) (pass : (Nat → Value) → World → Prop) : Prop :=
  if wantedE l.toArray e o then opW P o e w (fun v w' => ∃ C' : World → Prop, keep C' ∧ C' w' ∧ next C' (put e o.dst v) w') else pass (put e o.dst undef) w
/-- A walk along a tree. -/
def OY (P : Program) (l : List Oper) : (World → Prop) → (Exit → (Nat → Value) → World → Prop) → Ty → (Nat → Value) → World → Prop
  | _, Q, .done, e, w => Q .normal e w
  | C, Q, .q i t, e, w => ∀ o, nth l i = some o → ∃ v, Quiet P l.toArray C o v e ∧ OY P l C Q t (put e o.dst v) w
  | C, Q, .p i t, e, w => ∀ o, nth l i = some o → ∃ v, Quiet P l.toArray (fun _ => True) o v e ∧ OY P l C Q t (put e o.dst v) w
  | C, Q, .a i t, e, w => ∀ o, nth l i = some o → actY P l o e w (fun C' => ∀ u, C' u → C u) (fun C' e w => OY P l C' Q t e w) (OY P l C Q t)
  | C, Q, .d i t, e, w => ∀ o, nth l i = some o → actY P l o e w (fun C' => True) (fun C' e w => OY P l C' Q t e w) (OY P l C Q t)
  | C, Q, .a2 i t j u, e, w => (∀ o, nth l i = some o → actY P l o e w (fun C' => ∀ u, C' u → C u) (fun C' e w => OY P l C' Q t e w) (OY P l C Q t)) ∧ (∀ o, nth l j = some o → actY P l o e w (fun C' => ∀ u, C' u → C u) (fun C' e w => OY P l C' Q u e w) (OY P l C Q u))
  | C, Q, .a3 i t j u k v, e, w => (∀ o, nth l i = some o → actY P l o e w (fun C' => ∀ u, C' u → C u) (fun C' e w => OY P l C' Q t e w) (OY P l C Q t)) ∧ (∀ o, nth l j = some o → actY P l o e w (fun C' => ∀ u, C' u → C u) (fun C' e w => OY P l C' Q u e w) (OY P l C Q u)) ∧ (∀ o, nth l k = some o → actY P l o e w (fun C' => ∀ u, C' u → C u) (fun C' e w => OY P l C' Q v e w) (OY P l C Q v))
def Ty.graft : Ty → Ty → Ty
  | .done, s => s
  | .q i t, s => .q i (t.graft s)
  | .p i t, s => .p i (t.graft s)
  | .a i t, s => .a i (t.graft s)
  | .d i t, s => .d i (t.graft s)
  | .a2 i t j u, s => .a2 i (t.graft s) j (u.graft s)
  | .a3 i t j u k v, s => .a3 i (t.graft s) j (u.graft s) k (v.graft s)
def Ty.ok (l : List Oper) (K : List Nat) : Ty → Nat → Array Bool → Bool
  | .done, f, listed => (f == 0) && (Region.ready .any l.toArray listed).isEmpty
  | .q i t, f, listed => (f != 0) && K.contains i && (Region.ready .any l.toArray listed).contains i && Region.free .any l.toArray listed i && t.ok l K (f - 1) (listed.setIfInBounds i true)
  | .p i t, f, listed => (f != 0) && (Region.ready .any l.toArray listed).contains i && Region.free .any l.toArray listed i && t.ok l K (f - 1) (listed.setIfInBounds i true)
  | .a i t, f, listed => (f != 0) && (Region.ready .any l.toArray listed == [i]) && t.ok l K (f - 1) (listed.setIfInBounds i true)
  | .d i t, f, listed => (f != 0) && (Region.ready .any l.toArray listed == [i]) && dropB l K listed i && t.ok l K (f - 1) (listed.setIfInBounds i true)
  | .a2 i t j u, f, listed => (f != 0) && (Region.ready .any l.toArray listed == [i, j]) && t.ok l K (f - 1) (listed.setIfInBounds i true) && u.ok l K (f - 1) (listed.setIfInBounds j true)
  | .a3 i t j u k v, f, listed => (f != 0) && (Region.ready .any l.toArray listed == [i, j, k]) && t.ok l K (f - 1) (listed.setIfInBounds i true) && u.ok l K (f - 1) (listed.setIfInBounds j true) && v.ok l K (f - 1) (listed.setIfInBounds k true)
theorem actY_mono {P : Program} {l : List Oper} {o : Oper} {e : Nat → Value} {w : World} {k k' : (World → Prop) → Prop} {n n' : (World → Prop) → (Nat → Value) → World → Prop} {p p' : (Nat → Value) → World → Prop} (h : actY P l o e w k n p) (hk : ∀ C, k C → k' C) (hn : ∀ C e w, C w → n C e w → n' C e w) (hp : ∀ e, p e w → p' e w) : actY P l o e w k' n' p' := by
  unfold actY at *
  split
  · rename_i hw
    rw [if_pos hw] at h
    exact opW_mono h fun v w' ⟨C', a, b, c⟩ => ⟨C', hk _ a, b, hn _ _ _ b c⟩
  · rename_i hw
    rw [if_neg hw] at h
    exact hp _ h
theorem OT2_of_OY {P : Program} {l : List Oper} {K : List Nat} {Q : Exit → (Nat → Value) → World → Prop} (hs : Region.noSelect l.toArray = true) : ∀ (t : Ty) (C : World → Prop) (f : Nat) (listed : Array Bool) (e : Nat → Value) (w : World),
    t.ok l K f listed = true → Closed l listed → C w → OY P l C Q t e w → OT2 P l K Q f C listed e w := by
  intro t
  induction t with
  | done =>
    intro C f listed e w hk hcl hC h
    simp only [Ty.ok, Bool.and_eq_true, beq_iff_eq, List.isEmpty_iff] at hk
    obtain ⟨rfl, hr⟩ := hk
    exact ⟨hr, h⟩
  | q i t ih =>
    intro C f listed e w hk hcl hC h
    simp only [Ty.ok, Bool.and_eq_true, bne_iff_ne] at hk
    obtain ⟨⟨⟨⟨hf, hK⟩, hr⟩, hfree⟩, hk'⟩ := hk
    obtain ⟨f, rfl⟩ : ∃ g, f = g + 1 := ⟨f - 1, by omega⟩
    have hr : i ∈ Region.ready .any l.toArray listed := by simpa using hr
    obtain ⟨_, o, ho, _⟩ := mem_ready.1 hr
    have ho' : l[i]? = some o := by simpa using ho
    obtain ⟨v, hq, hrest⟩ := h o (by rw [nth_eq]; exact ho')
    refine OT2_first false (fun _ => by simpa using hK) ho' (Region.noSelect_spec hs) f C listed e w (Region.free_spec ho hfree) hr hcl ?_ hC (ih C f _ _ _ hk' (hcl.set hr) hC hrest)
    rcases hq with ⟨hw, hr⟩ | hx
    · exact .inl ⟨hw, fun w hc => hr w (hc.resolve_left (by simp))⟩
    · exact .inr hx
  | p i t ih =>
    intro C f listed e w hk hcl hC h
    simp only [Ty.ok, Bool.and_eq_true, bne_iff_ne] at hk
    obtain ⟨⟨⟨hf, hr⟩, hfree⟩, hk'⟩ := hk
    obtain ⟨f, rfl⟩ : ∃ g, f = g + 1 := ⟨f - 1, by omega⟩
    have hr : i ∈ Region.ready .any l.toArray listed := by simpa using hr
    obtain ⟨_, o, ho, _⟩ := mem_ready.1 hr
    have ho' : l[i]? = some o := by simpa using ho
    obtain ⟨v, hq, hrest⟩ := h o (by rw [nth_eq]; exact ho')
    refine OT2_first true (fun h => by cases h) ho' (Region.noSelect_spec hs) f C listed e w (Region.free_spec ho hfree) hr hcl ?_ hC (ih C f _ _ _ hk' (hcl.set hr) hC hrest)
    rcases hq with ⟨hw, hr⟩ | hx
    · exact .inl ⟨hw, fun w hc => hr w trivial⟩
    · exact .inr hx
  | a i t ih =>
    intro C f listed e w hk hcl hC h
    simp only [Ty.ok, Bool.and_eq_true, bne_iff_ne, beq_iff_eq] at hk
    obtain ⟨⟨hf, hr⟩, hk'⟩ := hk
    obtain ⟨f, rfl⟩ : ∃ g, f = g + 1 := ⟨f - 1, by omega⟩
    refine ⟨fun h0 => (by rw [h0] at hr; cases hr), fun j hj o ho => ?_⟩
    have hjr := hj
    rw [hr, List.mem_singleton] at hj
    subst hj
    have hh := h o (by rw [nth_eq]; exact ho)
    exact actY_mono hh (fun C h => .inr h) (fun C' e w hc h => ih C' f _ _ _ hk' (hcl.set hjr) hc h) (fun e h => ih C f _ _ _ hk' (hcl.set hjr) hC h)
  | d i t ih =>
    intro C f listed e w hk hcl hC h
    simp only [Ty.ok, Bool.and_eq_true, bne_iff_ne, beq_iff_eq] at hk
    obtain ⟨⟨⟨hf, hr⟩, hdr⟩, hk'⟩ := hk
    obtain ⟨f, rfl⟩ : ∃ g, f = g + 1 := ⟨f - 1, by omega⟩
    refine ⟨fun h0 => (by rw [h0] at hr; cases hr), fun j hj o ho => ?_⟩
    have hjr := hj
    rw [hr, List.mem_singleton] at hj
    subst hj
    have hh := h o (by rw [nth_eq]; exact ho)
    exact actY_mono hh (fun C h => .inl hdr) (fun C' e w hc h => ih C' f _ _ _ hk' (hcl.set hjr) hc h) (fun e h => ih C f _ _ _ hk' (hcl.set hjr) hC h)
  | a2 i t j u iht ihu =>
    intro C f listed e w hk hcl hC h
    simp only [Ty.ok, Bool.and_eq_true, bne_iff_ne, beq_iff_eq] at hk
    obtain ⟨⟨⟨hf, hr⟩, hk1⟩, hk2⟩ := hk
    obtain ⟨f, rfl⟩ : ∃ g, f = g + 1 := ⟨f - 1, by omega⟩
    refine ⟨fun h0 => (by rw [h0] at hr; cases hr), fun x hx o ho => ?_⟩
    have hxr := hx
    rw [hr, List.mem_cons, List.mem_singleton] at hx
    rcases hx with rfl | rfl
    · exact actY_mono (h.1 o (by rw [nth_eq]; exact ho)) (fun C h => .inr h) (fun C' e w hc h => iht C' f _ _ _ hk1 (hcl.set hxr) hc h) (fun e h => iht C f _ _ _ hk1 (hcl.set hxr) hC h)
    · exact actY_mono (h.2 o (by rw [nth_eq]; exact ho)) (fun C h => .inr h) (fun C' e w hc h => ihu C' f _ _ _ hk2 (hcl.set hxr) hc h) (fun e h => ihu C f _ _ _ hk2 (hcl.set hxr) hC h)
  | a3 i t j u k v iht ihu ihv =>
    intro C f listed e w hk hcl hC h
    simp only [Ty.ok, Bool.and_eq_true, bne_iff_ne, beq_iff_eq] at hk
    obtain ⟨⟨⟨⟨hf, hr⟩, hk1⟩, hk2⟩, hk3⟩ := hk
    obtain ⟨f, rfl⟩ : ∃ g, f = g + 1 := ⟨f - 1, by omega⟩
    refine ⟨fun h0 => (by rw [h0] at hr; cases hr), fun x hx o ho => ?_⟩
    have hxr := hx
    rw [hr, List.mem_cons, List.mem_cons, List.mem_singleton] at hx
    rcases hx with rfl | rfl | rfl
    · exact actY_mono (h.1 o (by rw [nth_eq]; exact ho)) (fun C h => .inr h) (fun C' e w hc h => iht C' f _ _ _ hk1 (hcl.set hxr) hc h) (fun e h => iht C f _ _ _ hk1 (hcl.set hxr) hC h)
    · exact actY_mono (h.2.1 o (by rw [nth_eq]; exact ho)) (fun C h => .inr h) (fun C' e w hc h => ihu C' f _ _ _ hk2 (hcl.set hxr) hc h) (fun e h => ihu C f _ _ _ hk2 (hcl.set hxr) hC h)
    · exact actY_mono (h.2.2 o (by rw [nth_eq]; exact ho)) (fun C h => .inr h) (fun C' e w hc h => ihv C' f _ _ _ hk3 (hcl.set hxr) hc h) (fun e h => ihv C f _ _ _ hk3 (hcl.set hxr) hC h)

section
variable {rd : Option Nat} {ds : List Deferred} {P : Program} {n : Nat} {Q : Exit → (Nat → Value) → World → Prop} {e : Nat → Value} {w : World}
theorem FW_tree2 {id : Nat} {l : List Oper} (K : List Nat) (t : Ty) (C : World → Prop) (hm : P.follows .mixedOrders = true) (hd : dstsIn n l = true)
    (hk : (Region.noSelect l.toArray && t.ok l K l.length (Array.replicate l.length false)) = true) (hC : ∀ w', Ext w w' → C w') (h : ∀ w', Ext w w' → C w' → OY P l C Q t e w') : FW rd ds P n (.region id l.toArray true) Q e w := by
  refine FW_mk fun m a hs => ?_
  refine wpIn_region_any hm ?_
  rw [Bool.and_eq_true] at hk
  have := wpAnyIn_of_OT2 (rd := rd) hd (m := m) l.length C (Array.replicate l.length false) a e w.drew hs (OT2_of_OY hk.1 t C l.length (Array.replicate l.length false) e w.drew hk.2 (fun j o _ hl => by rw [getD_replicate_false] at hl; cases hl) (hC _ (Ext.drew' w)) (h _ (Ext.drew' w) (hC _ (Ext.drew' w))))
  simpa using this
theorem CW_tree2 {id : Nat} {l : List Oper} (K : List Nat) (t : Ty) (C : World → Prop) (hm : P.follows .mixedOrders = true) (hd : dstsIn n l = true)
    (hk : (Region.noSelect l.toArray && t.ok l K l.length (Array.replicate l.length false)) = true) (hC : ∀ w', Ext w w' → C w') (h : ∀ w', Ext w w' → C w' → OY P l C Q t e w') : CW P n (.region id l.toArray true) Q e w :=
  CW_of_FW (FW_tree2 K t C hm hd hk hC h)
end
section
variable {P : Program} {l : List Oper} {C : World → Prop} {Q : Exit → (Nat → Value) → World → Prop} {e : Nat → Value} {w : World} {d : Tmp} {op : Op} {ty : TypeId} {pos : String} {aft : Array Edge}
theorem OY_done (h : Q .normal e w) : OY P l C Q .done e w := h
theorem quiet_of {C : World → Prop} {v : Value} (h1 : ∀ w, C w → OW P l.toArray (stay e d v w) [⟨some d, op, ty, pos, aft, none⟩] e w) : Quiet P l.toArray C ⟨some d, op, ty, pos, aft, none⟩ v e := by
  refine .inl ⟨rfl, fun w hw => ?_⟩
  have hh := h1 w hw
  unfold OW at hh
  rw [if_pos (by rfl)] at hh
  have hinj : ∀ u, upd e d u = upd e d v → u = v := fun u hu => by
    have := congrFun hu d
    rwa [upd_same, upd_same] at this
  exact opW_mono hh fun u w' hx => by unfold OW stay at hx; exact ⟨hinj _ hx.2.1, hx.2.2⟩
theorem quiet_take {C : World → Prop} {v : Value} {g : Nat × Bool} (hw : wantedE l.toArray e ⟨some d, op, ty, pos, aft, some g⟩ = true) (h1 : ∀ w, C w → OW P l.toArray (stay e d v w) [⟨some d, op, ty, pos, aft, none⟩] e w) : Quiet P l.toArray C ⟨some d, op, ty, pos, aft, some g⟩ v e := by
  refine .inl ⟨hw, fun w hw => ?_⟩
  have hh := h1 w hw
  unfold OW at hh
  rw [if_pos (by rfl)] at hh
  have hinj : ∀ u, upd e d u = upd e d v → u = v := fun u hu => by
    have := congrFun hu d
    rwa [upd_same, upd_same] at this
  have hh2 : opW P ⟨some d, op, ty, pos, aft, some g⟩ e w (fun u w' => OW P l.toArray (stay e d v w) [] (upd e d u) w') := by unfold opW at hh ⊢; exact hh
  exact opW_mono hh2 fun u w' hx => by unfold OW stay at hx; exact ⟨hinj _ hx.2.1, hx.2.2⟩
theorem OY_q {i : Nat} {t : Ty} (v : Value) (ho : nth l i = some ⟨some d, op, ty, pos, aft, none⟩) (h1 : ∀ w, C w → OW P l.toArray (stay e d v w) [⟨some d, op, ty, pos, aft, none⟩] e w) (h : OY P l C Q t (upd e d v) w) : OY P l C Q (.q i t) e w := by
  unfold OY
  intro o ho'
  rw [ho] at ho'
  cases ho'
  exact ⟨v, quiet_of h1, h⟩
theorem OY_p {i : Nat} {t : Ty} (v : Value) (ho : nth l i = some ⟨some d, op, ty, pos, aft, none⟩) (h1 : ∀ w, OW P l.toArray (stay e d v w) [⟨some d, op, ty, pos, aft, none⟩] e w) (h : OY P l C Q t (upd e d v) w) : OY P l C Q (.p i t) e w := by
  unfold OY
  intro o ho'
  rw [ho] at ho'
  cases ho'
  exact ⟨v, quiet_of fun w _ => h1 w, h⟩
theorem OY_qtake {i : Nat} {t : Ty} {g : Nat × Bool} (v : Value) (ho : nth l i = some ⟨some d, op, ty, pos, aft, some g⟩) (hw : wantedE l.toArray e ⟨some d, op, ty, pos, aft, some g⟩ = true) (h1 : ∀ w, C w → OW P l.toArray (stay e d v w) [⟨some d, op, ty, pos, aft, none⟩] e w) (h : OY P l C Q t (upd e d v) w) : OY P l C Q (.q i t) e w := by
  unfold OY
  intro o ho'
  rw [ho] at ho'
  cases ho'
  exact ⟨v, quiet_take hw h1, h⟩
theorem OY_ptake {i : Nat} {t : Ty} {g : Nat × Bool} (v : Value) (ho : nth l i = some ⟨some d, op, ty, pos, aft, some g⟩) (hw : wantedE l.toArray e ⟨some d, op, ty, pos, aft, some g⟩ = true) (h1 : ∀ w, OW P l.toArray (stay e d v w) [⟨some d, op, ty, pos, aft, none⟩] e w) (h : OY P l C Q t (upd e d v) w) : OY P l C Q (.p i t) e w := by
  unfold OY
  intro o ho'
  rw [ho] at ho'
  cases ho'
  exact ⟨v, quiet_take hw fun w _ => h1 w, h⟩
theorem OY_qpass {i : Nat} {t : Ty} {dst : Option Tmp} {g : Nat × Bool} (ho : nth l i = some ⟨dst, op, ty, pos, aft, some g⟩) (hw : wantedE l.toArray e ⟨dst, op, ty, pos, aft, some g⟩ = false) (h : OY P l C Q t (put e dst undef) w) : OY P l C Q (.q i t) e w := by
  unfold OY
  intro o ho'
  rw [ho] at ho'
  cases ho'
  exact ⟨undef, .inr ⟨hw, rfl⟩, h⟩
theorem OY_ppass {i : Nat} {t : Ty} {dst : Option Tmp} {g : Nat × Bool} (ho : nth l i = some ⟨dst, op, ty, pos, aft, some g⟩) (hw : wantedE l.toArray e ⟨dst, op, ty, pos, aft, some g⟩ = false) (h : OY P l C Q t (put e dst undef) w) : OY P l C Q (.p i t) e w := by
  unfold OY
  intro o ho'
  rw [ho] at ho'
  cases ho'
  exact ⟨undef, .inr ⟨hw, rfl⟩, h⟩
/-- What an act comes to: the class that lasts, and the rest. -/
def goY (P : Program) (l : List Oper) (keep : (World → Prop) → Prop) (Q : Exit → (Nat → Value) → World → Prop) (t : Ty) : Exit → (Nat → Value) → World → Prop := fun x e w => x = .normal ∧ ∃ C' : World → Prop, keep C' ∧ C' w ∧ OY P l C' Q t e w
theorem goY_mk {t : Ty} (hC : C w) (h : OY P l C Q t e w) : goY P l (fun C' => ∀ u, C' u → C u) Q t .normal e w := ⟨rfl, C, fun _ h => h, hC, h⟩
theorem goY_sub {t : Ty} (C' : World → Prop) (hs : ∀ u, C' u → C u) (hC : C' w) (h : OY P l C' Q t e w) : goY P l (fun C' => ∀ u, C' u → C u) Q t .normal e w := ⟨rfl, C', hs, hC, h⟩
theorem goY_drop {t : Ty} (C' : World → Prop) (hC : C' w) (h : OY P l C' Q t e w) : goY P l (fun _ => True) Q t .normal e w := ⟨rfl, C', trivial, hC, h⟩
theorem goY_done (h : Q .normal e w) : goY P l (fun _ => True) Q .done .normal e w := ⟨rfl, fun _ => True, trivial, trivial, h⟩
theorem actY_of {keep : (World → Prop) → Prop} {i : Nat} {t : Ty} {dst : Option Tmp} {pass : (Nat → Value) → World → Prop} (ho : nth l i = some ⟨dst, op, ty, pos, aft, none⟩) (h : OW P l.toArray (goY P l keep Q t) [⟨dst, op, ty, pos, aft, none⟩] e w) :
    ∀ o, nth l i = some o → actY P l o e w keep (fun C' e w => OY P l C' Q t e w) pass := by
  intro o ho'
  rw [ho] at ho'
  cases ho'
  unfold actY
  rw [if_pos (by rfl)]
  unfold OW at h
  rw [if_pos (by rfl)] at h
  exact opW_mono h fun v w' hx => by unfold OW goY at hx; exact hx.2
theorem actY_take {keep : (World → Prop) → Prop} {i : Nat} {t : Ty} {dst : Option Tmp} {g : Nat × Bool} {pass : (Nat → Value) → World → Prop} (ho : nth l i = some ⟨dst, op, ty, pos, aft, some g⟩) (hw : wantedE l.toArray e ⟨dst, op, ty, pos, aft, some g⟩ = true) (h : OW P l.toArray (goY P l keep Q t) [⟨dst, op, ty, pos, aft, none⟩] e w) :
    ∀ o, nth l i = some o → actY P l o e w keep (fun C' e w => OY P l C' Q t e w) pass := by
  intro o ho'
  rw [ho] at ho'
  cases ho'
  unfold actY
  rw [if_pos hw]
  unfold OW at h
  rw [if_pos (by rfl)] at h
  have h2 : opW P ⟨dst, op, ty, pos, aft, some g⟩ e w (fun v w' => OW P l.toArray (goY P l keep Q t) [] (put e dst v) w') := by unfold opW at h ⊢; exact h
  exact opW_mono h2 fun v w' hx => by unfold OW goY at hx; exact hx.2
theorem actY_pass {keep : (World → Prop) → Prop} {i : Nat} {t : Ty} {dst : Option Tmp} {g : Nat × Bool} (ho : nth l i = some ⟨dst, op, ty, pos, aft, some g⟩) (hw : wantedE l.toArray e ⟨dst, op, ty, pos, aft, some g⟩ = false) (h : OY P l C Q t (put e dst undef) w) :
    ∀ o, nth l i = some o → actY P l o e w keep (fun C' e w => OY P l C' Q t e w) (OY P l C Q t) := by
  intro o ho'
  rw [ho] at ho'
  cases ho'
  unfold actY
  rw [if_neg (by rw [hw]; simp)]
  exact h
theorem OY_a {i : Nat} {t : Ty} (h : ∀ o, nth l i = some o → actY P l o e w (fun C' => ∀ u, C' u → C u) (fun C' e w => OY P l C' Q t e w) (OY P l C Q t)) : OY P l C Q (.a i t) e w := h
theorem OY_d {i : Nat} {t : Ty} (h : ∀ o, nth l i = some o → actY P l o e w (fun _ => True) (fun C' e w => OY P l C' Q t e w) (OY P l C Q t)) : OY P l C Q (.d i t) e w := h
theorem OY_a2 {i j : Nat} {t u : Ty} (h : ∀ o, nth l i = some o → actY P l o e w (fun C' => ∀ u, C' u → C u) (fun C' e w => OY P l C' Q t e w) (OY P l C Q t)) (h2 : ∀ o, nth l j = some o → actY P l o e w (fun C' => ∀ u, C' u → C u) (fun C' e w => OY P l C' Q u e w) (OY P l C Q u)) : OY P l C Q (.a2 i t j u) e w := ⟨h, h2⟩
theorem OY_a3 {i j k : Nat} {t u v : Ty} (h : ∀ o, nth l i = some o → actY P l o e w (fun C' => ∀ u, C' u → C u) (fun C' e w => OY P l C' Q t e w) (OY P l C Q t)) (h2 : ∀ o, nth l j = some o → actY P l o e w (fun C' => ∀ u, C' u → C u) (fun C' e w => OY P l C' Q u e w) (OY P l C Q u)) (h3 : ∀ o, nth l k = some o → actY P l o e w (fun C' => ∀ u, C' u → C u) (fun C' e w => OY P l C' Q v e w) (OY P l C Q v)) : OY P l C Q (.a3 i t j u k v) e w := ⟨h, h2, h3⟩
/-- A test of the region, in both ways. -/
theorem OY_split {t : Ty} (s : Nat) (b : Bool) (hs : e s = .bool b) (ht : b = true → OY P l C Q t (upd e s (.bool true)) w) (hf : b = false → OY P l C Q t (upd e s (.bool false)) w) : OY P l C Q t e w := by
  cases b with
  | true => rw [upd_self hs]; exact ht rfl
  | false => rw [upd_self hs]; exact hf rfl
end
attribute [irreducible] OY goY actY
end Go.Proofs.Ytdpomchhbbopbaa

/- Drawn regions of a class of worlds that only grow: short forms. No program in sight. -/
namespace Go.Proofs.Ytdpomchhbbopbaa
open Go Go.RowKit
set_option linter.unusedVariables false
section
variable {P : Program} {l : List Oper} {C : World → Prop} {Q : Exit → (Nat → Value) → World → Prop} {e : Nat → Value} {w W : World}
theorem goY_mkE {t : Ty} (hC : C = fun v => Ext W v) (hx : Ext W w) (h : OY P l C Q t e w) : goY P l (fun C' => ∀ u, C' u → C u) Q t .normal e w := goY_mk (by rw [hC]; exact hx) h
theorem goY_dropE {t : Ty} (hC : C = fun v => Ext W v) (hx : Ext W w) (h : OY P l C Q t e w) : goY P l (fun _ => True) Q t .normal e w := goY_drop C (by rw [hC]; exact hx) h
theorem blkE {g : Nat} {T : TypeId} {cs : Array Value} (hC : C = fun v => Ext W v) (hb : Blk W g T cs) : ∀ v, C v → Blk v g T cs := fun v hv => by rw [hC] at hv; exact hb.ext hv
theorem cellE {ad : Addr} {u : Value} (hC : C = fun v => Ext W v) (hb : W.cell? ad = some u) : ∀ v, C v → v.cell? ad = some u := fun v hv => by rw [hC] at hv; exact hv.cell' hb
theorem inE (hC : C = fun v => Ext W v) : ∀ v, Ext W v → C v := fun v hv => by rw [hC]; exact hv
end
end Go.Proofs.Ytdpomchhbbopbaa

/- Literal slices whose elements have many cells. No program in sight. -/
namespace Go.Proofs.Ytdpomchhbbopbaa
open Go Go.RowKit
set_option linter.unusedVariables false
def partsM : List (List Value) → Nat → List (Nat × Value)
  | [], _ => []
  | cs :: l, k => (k, .agg cs.toArray) :: partsM l (k + 1)
theorem foldl_set (o : Nat) : ∀ (l : List Value) (j : Nat) (arr : Array Value), o + j + l.length ≤ arr.size →
    (l.zipIdx j).foldl (fun cs (x : Value × Nat) => cs.setIfInBounds (o + x.2) x.1) arr = (arr.toList.take (o + j) ++ l ++ arr.toList.drop (o + j + l.length)).toArray
  | [], j, arr, h => by simp
  | v :: l, j, arr, h => by
    simp only [List.length_cons] at h
    rw [List.zipIdx_cons, List.foldl_cons, foldl_set o l (j + 1) _ (by simp; omega)]
    apply Array.ext'
    simp only [Array.toList_setIfInBounds, List.length_cons]
    rw [show o + (j + 1) = o + j + 1 by omega, List.take_succ_eq_append_getElem (by simp; omega), List.getElem_set_self, List.take_set_of_le (Nat.le_refl _), List.drop_set_of_lt (by omega), show o + j + 1 + l.length = o + j + (l.length + 1) by omega]
    simp
theorem fill_partsM (m : Nat) : ∀ (vss : List (List Value)) (k : Nat) (cs : Array Value), (∀ v ∈ vss, v.length = m) → cs.size = (k + vss.length) * m → Instr.fill (fun i => some (i * m, m)) cs (partsM vss k) = some (cs.toList.take (k * m) ++ vss.flatten).toArray
  | [], k, cs, _, hs => by
    simp only [partsM, Instr.fill, List.flatten_nil, List.append_nil]
    rw [List.take_of_length_le (by simp at hs ⊢; omega)]
  | v :: vss, k, cs, h1, hs => by
    have hv := h1 v List.mem_cons_self
    simp only [List.length_cons] at hs
    have hkm : (k + 1) * m ≤ cs.size := by rw [hs]; exact Nat.mul_le_mul_right _ (by omega)
    rw [Nat.add_mul, Nat.one_mul] at hkm
    have hf := foldl_set (k * m) v 0 cs (by omega)
    unfold partsM Instr.fill
    have hc : ¬ ((decide ((Value.agg v.toArray).cells.size ≠ m) || decide (k * m + (Value.agg v.toArray).cells.size > cs.size)) = true) := by
      show ¬ ((decide (v.toArray.size ≠ m) || decide (k * m + v.toArray.size > cs.size)) = true)
      simp [hv]; omega
    have hz : (Value.agg v.toArray).cells.zipIdx.foldl (fun (cs : Array Value) (x : Value × Nat) => cs.setIfInBounds (k * m + x.2) x.1) cs = (cs.toList.take (k * m) ++ v ++ cs.toList.drop (k * m + v.length)).toArray := by
      rw [← Array.foldl_toList]
      show ((v.toArray.zipIdx).toList).foldl _ _ = _
      rw [Array.toList_zipIdx]
      exact hf
    have hl1 : (cs.toList.take (k * m) ++ v).length = (k + 1) * m := by simp only [List.length_append, List.length_take, Nat.add_mul, Nat.one_mul, Array.length_toList, hv]; omega
    have ih := fill_partsM m vss (k + 1) (cs.toList.take (k * m) ++ v ++ cs.toList.drop (k * m + v.length)).toArray (fun u hu => h1 u (List.mem_cons_of_mem _ hu)) (by
      rw [List.size_toArray, List.length_append, hl1, List.length_drop, Array.length_toList, hs, hv]
      have : (k + 1 + vss.length) * m = (k + (vss.length + 1)) * m := by congr 1; omega
      rw [this]
      have : k * m + m ≤ (k + (vss.length + 1)) * m := by rw [← hs]; omega
      rw [Nat.add_mul k 1 m]
      omega)
    have e : (cs.toList.take (k * m) ++ v ++ cs.toList.drop (k * m + v.length)).toArray.toList.take ((k + 1) * m) = cs.toList.take (k * m) ++ v := List.take_left' hl1
    rw [e, List.append_assoc (cs.toList.take (k * m)) v vss.flatten, ← List.flatten_cons] at ih
    simp only
    rw [if_neg hc]
    exact hz ▸ ih
section
variable {P : Program} {ops : Array Oper} {Q : Exit → (Nat → Value) → World → Prop} {rest : List Oper} {e : Nat → Value} {w : World} {d : Tmp} {ty : TypeId} {pos : String} {aft : Array Edge}
theorem OW_litM {t el : TypeId} {n : Nat} {parts : Array (Nat × Operand)} {m : Nat} {zs : List Value} (vss : List (List Value)) (ht : P.underlying t = some (.slice el)) (hel : AggT P el m zs)
    (hp : parts.toList.map (fun x => (x.1, ev e x.2)) = partsM vss 0) (hn : n = vss.length) (h1 : ∀ v ∈ vss, v.length = m) (hlt : n * m ≤ 10000)
    (h : ∀ w' g, Blk w' g el vss.flatten.toArray → w.heap.size ≤ g → g < w'.heap.size → Ext w w' → OW P ops Q rest (upd e d (.slice (some ⟨g, 0, none⟩) n n)) w') : OW P ops Q (⟨some d, .buildSlice t n parts, ty, pos, aft, none⟩ :: rest) e w := by
  refine OW_valw (.slice (some ⟨w.heap.size, 0, none⟩) n n) (w.alloc (.cells vss.flatten.toArray el)) rfl ?_ (h _ w.heap.size (Blk.new w el _) (Nat.le_refl _) (by simp) (Ext.alloc' w _))
  have hpp : (parts.map fun x => (x.1, ev e x.2)).toList = partsM vss 0 := by rw [Array.toList_map]; exact hp
  have hbig : ¬ (n * m > 2 ^ 24) := by omega
  have key : ∀ zs : Array Value, zs.size = n * m → Instr.fill (fun i => some (i * m, m)) zs (parts.map fun x => (x.1, ev e x.2)).toList = some vss.flatten.toArray := fun zs hz => by
    rw [hpp, fill_partsM m vss 0 zs h1 (by rw [hz, hn]; simp)]
    simp
  have hs : ∀ w, (sizeOf el).run P w = .ok m w := by
    obtain ⟨i, hi, hm⟩ := Option.map_eq_some_iff.1 hel.size
    intro w
    simp [sizeOf, typeInfo, hi, hm]
  have hzv : ∀ w, (zeroValue el).run P w = .ok (.agg zs.toArray) w := hel.zero
  have hrun : (Instr.buildSlice t n (parts.map fun x => (x.1, ev e x.2))).run P w = .ok (.slice (some ⟨w.heap.size, 0, none⟩) n n) (w.alloc (.cells vss.flatten.toArray el)) := by
    by_cases h0 : n * m = 0
    · simp only [Instr.buildSlice, Sem.run_bind, run_underlying ht, Result.andThen_ok, hs, Sem.run_pure, if_neg hbig, if_pos h0, key _ (show (Array.map (fun x => (#[] : Array Value)[x % (#[] : Array Value).size]!) (Array.range (n * m))).size = n * m by simp)]
      rfl
    · simp only [Instr.buildSlice, Sem.run_bind, run_underlying ht, Result.andThen_ok, hs, Sem.run_pure, if_neg hbig, if_neg h0, hzv, key _ (show (Array.map (fun x => (Value.agg zs.toArray).cells[x % (Value.agg zs.toArray).cells.size]!) (Array.range (n * m))).size = n * m by simp)]
      rfl
  simp only [execOp, Sem.run_bind]
  rw [show (parts.map fun (x : Nat × Operand) => match x with | (i, x) => (i, ev e x)) = parts.map fun x => (x.1, ev e x.2) from rfl, hrun]
  rfl
end
end Go.Proofs.Ytdpomchhbbopbaa
