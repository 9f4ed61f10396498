/- Regions whose order is drawn: one walk in the text's order serves every order, where each operation yields one value in every world that only grew; and the same ahead of a tail that must come last. -/
import Derived.Test.YthhphmbhlddihaaMem
import Derived.Deep.Quiet
import Derived.StillTail
namespace Go.Proofs.Ythhphmbhlddihaa
open Go Go.RowKit
set_option linter.unusedVariables false

/-- An operation yields 'v' in every world of a class, and leaves the world; or is a call that leaves one of the class. -/
def OD (P : Program) (ops : Array Oper) (C : World → Prop) (Q : (Nat → Value) → Prop) : List Oper → (Nat → Value) → Prop
  | [], e => Q e
  | o :: rest, e => if wantedE ops e o then ∃ v, (∀ w, C w → Oper.quietUpon P C w v ((execOp (ev e) o).run P w)) ∧ OD P ops C Q rest (put e o.dst v) else OD P ops C Q rest (put e o.dst undef)

theorem wpQuiet_of_OD {P : Program} {ops : Array Oper} {n : Nat} {C : World → Prop} {Q : (Nat → Value) → Prop} : ∀ (l : List Oper) {a : Act} {e : Nat → Value},
    dstsIn n l = true → St n a e → OD P ops C Q l e → wpQuiet P ops C (fun a => ∃ e, St n a e ∧ Q e) l a
  | [], _, e, _, hs, h => ⟨e, hs, h⟩
  | o :: l, a, e, hd, hs, h => by
    obtain ⟨hd0, hd1⟩ := dstsIn_cons hd
    unfold wpQuiet
    rw [wanted_eq hs]
    unfold OD at h
    split
    · rename_i hw
      rw [if_pos hw] at h
      obtain ⟨v, h1, h2⟩ := h
      refine ⟨v, fun w hw => ?_, wpQuiet_of_OD l hd1 (hs.put hd0 v) h2⟩
      unfold Oper.quietAt
      rw [hs.ev]
      exact h1 w hw
    · rename_i hw
      rw [if_neg hw] at h
      exact wpQuiet_of_OD l hd1 (hs.put hd0 undef) h
theorem wpStill_of_OD {P : Program} {ops : Array Oper} {n : Nat} {w : World} {Q : (Nat → Value) → Prop} : ∀ (l : List Oper) {a : Act} {e : Nat → Value},
    dstsIn n l = true → St n a e → OD P ops (fun w' => w' = w) Q l e → wpStill P ops w (fun a => ∃ e, St n a e ∧ Q e) l a
  | [], _, e, _, hs, h => ⟨e, hs, h⟩
  | o :: l, a, e, hd, hs, h => by
    obtain ⟨hd0, hd1⟩ := dstsIn_cons hd
    unfold wpStill
    rw [wanted_eq hs]
    unfold OD at h
    split
    · rename_i hw
      rw [if_pos hw] at h
      obtain ⟨v, h1, h2⟩ := h
      have h1 := h1 w rfl
      have hn := wpStill_of_OD l hd1 (hs.put hd0 v) h2
      unfold Oper.still
      rw [hs.ev]
      generalize (execOp (ev e) o).run P w = r at *
      cases r with
      | ok x w' =>
        cases x <;> simp only [Oper.quietUpon] at h1 <;> simp only [Oper.stillUpon]
        case value u => obtain ⟨rfl, rfl⟩ := h1; exact ⟨rfl, hn⟩
        case skip => obtain ⟨rfl, rfl⟩ := h1; exact ⟨rfl, hn⟩
        case enter f args => obtain ⟨rfl, hc⟩ := h1; exact ⟨rfl, v, hc, hn⟩
      | halt x w' => simp only [Oper.quietUpon] at h1
    · rename_i hw
      rw [if_neg hw] at h
      exact wpStill_of_OD l hd1 (hs.put hd0 undef) h
theorem wpStill_mono {P : Program} {ops : Array Oper} {w : World} {Q Q' : Act → Prop} (hq : ∀ a, Q a → Q' a) : ∀ (l : List Oper) {a : Act}, wpStill P ops w Q l a → wpStill P ops w Q' l a
  | [], a, h => hq a h
  | o :: l, a, h => by
    unfold wpStill at h ⊢
    split
    · rename_i hw; rw [if_pos hw] at h; exact Oper.still_mono (fun a ha => wpStill_mono hq l ha) h
    · rename_i hw; rw [if_neg hw] at h; exact wpStill_mono hq l h

section
variable {P : Program} {n : Nat} {Q : Exit → (Nat → Value) → World → Prop} {e : Nat → Value} {w : World}
theorem CW_draw {id : Nat} {l : List Oper} (hm : P.follows .mixedOrders = true) (hB : Region.lexB .any l.toArray = true) (hd : dstsIn n l = true)
    (h : OD P l.toArray (fun w' => Ext w w') (fun e' => ∀ w', Ext w w' → Q .normal e' w') l e) : CW P n (.region id l.toArray true) Q e w := by
  unfold CW
  intro a hs
  refine wp_region_quiet (C := fun w' => Ext w w') hm hB (Ext.drew' w) ?_
  have := wpQuiet_of_OD l hd hs h
  have hmono : ∀ (l : List Oper) (a : Act), wpQuiet P l.toArray (fun w' => Ext w w') (fun a => ∃ e, St n a e ∧ ∀ w', Ext w w' → Q .normal e w') l a → True := fun _ _ _ => trivial
  have key : ∀ (ops : Array Oper) (l : List Oper) (a : Act), wpQuiet P ops (fun w' => Ext w w') (fun a => ∃ e, St n a e ∧ ∀ w', Ext w w' → Q .normal e w') l a →
      wpQuiet P ops (fun w' => Ext w w') (fun a' => ∀ w', Ext w w' → QA n Q .normal a' w') l a := by
    intro ops l
    induction l with
    | nil => intro a ⟨e, hs, h⟩ w' hw; exact ⟨e, hs, h w' hw⟩
    | cons o l ih =>
      intro a h
      unfold wpQuiet at h ⊢
      split
      · rename_i hw; rw [if_pos hw] at h; exact Oper.quiet_mono (fun a ha => ih a ha) h
      · rename_i hw; rw [if_neg hw] at h; exact ih _ h
  exact key _ _ _ this
theorem CW_tail {id : Nat} {l : List Oper} (k : Nat) (hm : P.follows .mixedOrders = true) (hB : Region.lexTailB .any l.toArray k = true) (hd : dstsIn n l = true)
    (h : OD P l.toArray (fun w' => w' = w.drew) (fun e' => OW P l.toArray Q (l.drop k) e' w.drew) (l.take k) e) : CW P n (.region id l.toArray true) Q e w := by
  unfold CW
  intro a hs
  refine wp_region_still_tail k hm hB ?_
  have hd1 : dstsIn n (l.take k) = true := by
    unfold dstsIn at hd ⊢
    rw [List.all_eq_true] at hd ⊢
    exact fun o ho => hd o (List.mem_of_mem_take ho)
  have hd2 : dstsIn n (l.drop k) = true := by
    unfold dstsIn at hd ⊢
    rw [List.all_eq_true] at hd ⊢
    exact fun o ho => hd o (List.mem_of_mem_drop ho)
  refine wpStill_mono ?_ _ (wpStill_of_OD (l.take k) hd1 hs h)
  rintro a' ⟨e', hs', h'⟩
  exact wpList_of_OW _ hd2 hs' h'
end
section
variable {P : Program} {ops : Array Oper} {C : World → Prop} {Q : (Nat → Value) → Prop} {rest : List Oper} {e : Nat → Value} {d : Tmp} {ty : TypeId} {pos : String} {aft : Array Edge}
theorem OD_nil (h : Q e) : OD P ops C Q [] e := h
theorem OD_take {dst : Option Tmp} {op : Op} {g : Nat × Bool} (hw : wantedE ops e ⟨dst, op, ty, pos, aft, some g⟩ = true) (h : OD P ops C Q (⟨dst, op, ty, pos, aft, none⟩ :: rest) e) : OD P ops C Q (⟨dst, op, ty, pos, aft, some g⟩ :: rest) e := by
  unfold OD at h ⊢
  rw [if_pos (by rfl)] at h
  rw [if_pos hw]
  exact h
theorem OD_pass {dst : Option Tmp} {op : Op} {g : Nat × Bool} (hw : wantedE ops e ⟨dst, op, ty, pos, aft, some g⟩ = false) (h : OD P ops C Q rest (put e dst undef)) : OD P ops C Q (⟨dst, op, ty, pos, aft, some g⟩ :: rest) e := by
  unfold OD
  rw [if_neg (by rw [hw]; simp)]
  exact h
theorem OD_split {l : List Oper} (s : Nat) (b : Bool) (hs : e s = .bool b) (ht : b = true → OD P ops C Q l (upd e s (.bool true))) (hf : b = false → OD P ops C Q l (upd e s (.bool false))) : OD P ops C Q l e := by
  cases b with
  | true => rw [upd_self hs]; exact ht rfl
  | false => rw [upd_self hs]; exact hf rfl
/-- What one operation is to come to. -/
def stay (e : Nat → Value) (d : Tmp) (v : Value) (w : World) : Exit → (Nat → Value) → World → Prop := fun x e' w' => x = .normal ∧ e' = upd e d v ∧ w' = w
theorem stay_mk (e : Nat → Value) (d : Tmp) (v : Value) (w : World) : stay e d v w .normal (upd e d v) w := ⟨rfl, rfl, rfl⟩
theorem OD_step {op : Op} (v : Value) (h1 : ∀ w, C w → OW P ops (stay e d v w) [⟨some d, op, ty, pos, aft, none⟩] e w) (h : OD P ops C Q rest (upd e d v)) : OD P ops C Q (⟨some d, op, ty, pos, aft, none⟩ :: rest) e := by
  unfold OD
  rw [if_pos (by rfl)]
  refine ⟨v, fun w hw => ?_, h⟩
  have hh := h1 w hw
  unfold OW at hh
  rw [if_pos (by rfl)] at hh
  have hinj : ∀ u, upd e d u = upd e d v → u = v := fun u hu => by
    have := congrFun hu d
    rwa [upd_same, upd_same] at this
  unfold opW at hh
  generalize (execOp (ev e) _).run P w = r at *
  cases r with
  | ok x w' =>
    cases x <;> simp only [opUpon] at hh <;> simp only [Oper.quietUpon]
    case value u => unfold OW at hh; exact ⟨hh.2.2, hinj _ hh.2.1⟩
    case skip => unfold OW at hh; exact ⟨hh.2.2, (hinj _ hh.2.1).symm⟩
    case enter f args =>
      obtain ⟨rfl, hc⟩ := hh
      refine ⟨rfl, hc.mono fun en w'' hx => ?_⟩
      obtain ⟨u, he, hx⟩ := hx
      unfold OW at hx
      rw [he, hinj _ hx.2.1, hx.2.2]
      exact ⟨rfl, hw⟩
  | halt x w' => simp only [opUpon] at hh
/-- A call in such a region. -/
theorem OD_call {f : FuncId} {fn : Func} {args : List Operand} {args' : List Value} {tys : Array TypeId} (v : Value) (hf : P.funcs[f]? = some fn) (hn : (fn.name == "runtime.NumGoroutine") = false) (hb : fn.body.isNone = false)
    (hc : ∀ w, C w → Calls P f args'.toArray w (fun en w' => en = .returned v ∧ C w')) (ha : args.map (ev e) = args') (h : OD P ops C Q rest (upd e d v)) :
    OD P ops C Q (⟨some d, .call { callee := .value (.func f), args := args.toArray, argTypes := tys }, ty, pos, aft, none⟩ :: rest) e := by
  unfold OD
  rw [if_pos (by rfl)]
  refine ⟨v, fun w hw => ?_, h⟩
  have h1 : (execOp (ev e) ⟨some d, .call { callee := .value (.func f), args := args.toArray, argTypes := tys }, ty, pos, aft, none⟩).run P w = .ok (.enter f args'.toArray) w := by
    subst ha
    have h1 : (callFunc f (args.toArray.map (ev e))).run P w = .ok (.enter f (args.toArray.map (ev e))) w := by
      simp only [callFunc, program]
      show Sem.run P (match P.funcs[f]? with | none => _ | some fn => _) w = _
      simp only [hf, hn, hb]
      rfl
    simpa [execOp, resolve, ev, Deferred.ofValue, invoke] using h1
  rw [h1]
  exact ⟨rfl, hc w hw⟩
end
attribute [irreducible] OD stay
end Go.Proofs.Ythhphmbhlddihaa
