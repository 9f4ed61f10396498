/- Whole arrays and structs: made, read, written, given back; the array behind a slice. No program in sight. -/
import Derived.Test.YthhphmbhlddihaaObj
import Derived.Deep.MidRow
namespace Go.Proofs.Ythhphmbhlddihaa
open Go Go.RowKit
set_option linter.unusedVariables false
/-- A row or a struct of n cells, and its zero. -/
structure AggT (P : Program) (t : TypeId) (n : Nat) (zs : List Value) : Prop where
  row : ∃ d, P.underlying t = some d ∧ d.isRow = true
  size : (P.info? t).map (·.size) = some n
  zero : ∀ w, (zeroValue t).run P w = .ok (.agg zs.toArray) w
theorem addr0 (g j : Nat) : (⟨g, 0, none⟩ : Addr).add j = ⟨g, j, none⟩ := by unfold Addr.add; split <;> simp_all
theorem Blk.range {w : World} {g : Nat} {T : TypeId} {cs : List Value} (h : Blk w g T cs.toArray) : w.rangeAt g 0 cs := fun j v hv => by
  rw [Nat.zero_add, h.cell]; simpa using hv
theorem Rd.range {w : World} {A : Addr} {cs : List Value} (h : Rd w (some A) cs) (hs : A.spot = none) : w.rangeAt A.block A.off cs := fun j v hv => by
  obtain ⟨ad, ha, hc⟩ := h j v hv
  cases ha
  rw [← Addr.add_mid]
  have : A = ⟨A.block, A.off, none⟩ := by cases A; simp at hs; subst hs; rfl
  rw [← this]; exact hc
section
variable {P : Program} {ops : Array Oper} {Q : Exit → (Nat → Value) → World → Prop} {rest : List Oper} {e : Nat → Value} {w : World} {d : Tmp} {ty : TypeId} {pos : String} {aft : Array Edge}
theorem OW_allocA {t : TypeId} {n : Nat} {zs : List Value} (ht : AggT P t n zs) (h : ∀ w' g, Blk w' g t zs.toArray → w.heap.size ≤ g → g < w'.heap.size → Ext w w' → OW P ops Q rest (upd e d (.pointer (some ⟨g, 0, none⟩))) w') : OW P ops Q (⟨some d, .alloc t, ty, pos, aft, none⟩ :: rest) e w := by
  refine OW_valw (.pointer (some ⟨w.heap.size, 0, none⟩)) (w.alloc (.cells zs.toArray t)) rfl ?_ (h _ w.heap.size (Blk.new w t _) (Nat.le_refl _) (by simp) (Ext.alloc' w _))
  have hr : (Instr.alloc t true (.tuple #[])).run P w = .ok (.pointer (some ⟨w.heap.size, 0, none⟩)) (w.alloc (.cells zs.toArray t)) := by
    unfold Instr.alloc
    rw [Sem.run_bind, ht.zero w]
    rfl
  simp only [execOp, Sem.run_bind, hr]; rfl
theorem OW_loadA {x : Operand} {t : TypeId} {n b o : Nat} {zs : List Value} (ht : AggT P t n zs) (hx : ev e x = .pointer (some ⟨b, o, none⟩)) (cs : List Value) (hl : cs.length = n) (hc : w.rangeAt b o cs)
    (h : OW P ops Q rest (upd e d (.agg cs.toArray)) w) : OW P ops Q (⟨some d, .load t x, ty, pos, aft, none⟩ :: rest) e w := by
  obtain ⟨td, hu, hd⟩ := ht.row
  refine OW_val _ rfl ?_ h
  have hr := run_loadAt_mid (P := P) w b o t cs td hc hu hd (by rw [ht.size, hl])
  simp only [execOp, hx, Sem.run_bind, hr]; rfl
/-- A whole array or struct into a block of its own. -/
theorem OW_storeA {x y : Operand} {t T : TypeId} {n g : Nat} {zs : List Value} (ht : AggT P t n zs) (hx : ev e x = .pointer (some ⟨g, 0, none⟩)) (cs : List Value) (hy : ev e y = .agg cs.toArray) (hl : cs.length = n) {old : Array Value} (hb : Blk w g T old) (ho : old.size = n) (h1 : ∀ v ∈ cs, v.oneCell' = true)
    (h : ∀ w', Blk w' g T cs.toArray → w.grownBy w' (some g) → OW P ops Q rest e w') : OW P ops Q (⟨none, .store t x y, ty, pos, aft, none⟩ :: rest) e w := by
  refine OW_unit (w.setRow g cs.toArray) rfl rfl ?_ (h _ ?_ ?_)
  · have hr := run_storeVar_row (P := P) w g T t old cs.toArray hb (by rw [ht.size]; simp [hl]) (by simp [ho, hl]) (all_oneCell_toArray h1)
    simp only [execOp, hx, hy, Instr.storeAt, Instr.sureAddr, Sem.run_bind, Sem.run_pure, Result.andThen_ok, hr]
  · exact setRow_heap w g old cs.toArray T (0, 0) hb
  · exact ⟨rfl, rfl, rfl, by simp, fun k hk hn => setRow_other w g k _ (fun hh => hn (by rw [hh]))⟩
theorem OW_alloc1 {t : TypeId} (z : Value) (hz : ∀ w, (zeroValue t).run P w = .ok z w) (h : ∀ w' g, Blk w' g t z.cells → w.heap.size ≤ g → g < w'.heap.size → Ext w w' → OW P ops Q rest (upd e d (.pointer (some ⟨g, 0, none⟩))) w') : OW P ops Q (⟨some d, .alloc t, ty, pos, aft, none⟩ :: rest) e w := by
  refine OW_valw (.pointer (some ⟨w.heap.size, 0, none⟩)) (w.alloc (.cells z.cells t)) rfl ?_ (h _ w.heap.size (Blk.new w t _) (Nat.le_refl _) (by simp) (Ext.alloc' w _))
  have hr : (Instr.alloc t true (.tuple #[])).run P w = .ok (.pointer (some ⟨w.heap.size, 0, none⟩)) (w.alloc (.cells z.cells t)) := by
    unfold Instr.alloc
    rw [Sem.run_bind, hz w]
    rfl
  simp only [execOp, Sem.run_bind, hr]; rfl
theorem OW_mkFunc {f : FuncId} {caps : List Operand} (vs : List Value) (hv : caps.map (ev e) = vs) (h : OW P ops Q rest (upd e d (.func (.func f) #[] vs.toArray)) w) : OW P ops Q (⟨some d, .makeFunc (.func f) #[] caps.toArray, ty, pos, aft, none⟩ :: rest) e w := by
  refine OW_val _ rfl ?_ h
  subst hv
  simp [execOp, Instr.makeFunc]
/-- The array behind a slice that is long enough. -/
structure ArrP (P : Program) (t : TypeId) (n : Nat) : Prop where
  row : ∃ el, P.underlying t = some (.array n el)
theorem OW_arrP {x : Operand} {t : TypeId} {n m c : Nat} {A : Option Addr} (ht : ArrP P t n) (hx : ev e x = .slice A m c) (hm : n ≤ m) (h : OW P ops Q rest (upd e d (.pointer A)) w) : OW P ops Q (⟨some d, .sliceToArrayPointer t x, ty, pos, aft, none⟩ :: rest) e w := by
  obtain ⟨el, hu⟩ := ht.row
  refine OW_val _ rfl ?_ h
  have hr : (Instr.arrayAt t (.slice A m c)).run P w = .ok (.pointer A) w := by
    unfold Instr.arrayAt
    rw [Sem.run_bind, run_underlying hu w]
    have : ¬ m < n := by omega
    simp [this]
  simp only [execOp, hx, Sem.run_bind, hr]; rfl
end
/-- A result that is a variable of many cells. -/
theorem bodyE_retc {P : Program} {fn : Func} {R : Ending → World → Prop} {e : Nat → Value} {w : World} {t : Tmp} {ty : TypeId} {n b o : Nat} {zs : List Value} (hr : fn.results = #[.cell t ty]) (ht : AggT P ty n zs) (hv : e t = .pointer (some ⟨b, o, none⟩)) (cs : List Value) (hl : cs.length = n) (hc : w.rangeAt b o cs) (hR : R (.returned (.agg cs.toArray)) w) : bodyE P fn R .ret e w := by
  obtain ⟨td, hu, hd⟩ := ht.row
  unfold bodyE
  refine ⟨.agg cs.toArray, fun tmps htm => ?_, hR⟩
  have hld := run_loadVar_mid (P := P) w b o ty cs td hc hu hd (by rw [ht.size, hl])
  simp [results, hr, htm, hv, asAddr, hld]
theorem bodyE_retc2 {P : Program} {fn : Func} {R : Ending → World → Prop} {e : Nat → Value} {w : World} {t u : Tmp} {ty : TypeId} {n b o : Nat} {zs : List Value} (hr : fn.results = #[.cell t ty, .tmp u]) (ht : AggT P ty n zs) (hv : e t = .pointer (some ⟨b, o, none⟩)) (cs : List Value) (v : Value) (hu2 : e u = v) (hl : cs.length = n) (hc : w.rangeAt b o cs) (hR : R (.returned (.tuple #[.agg cs.toArray, v])) w) : bodyE P fn R .ret e w := by
  obtain ⟨td, hu, hd⟩ := ht.row
  unfold bodyE
  refine ⟨.tuple #[.agg cs.toArray, v], fun tmps htm => ?_, hR⟩
  have hld := run_loadVar_mid (P := P) w b o ty cs td hc hu hd (by rw [ht.size, hl])
  simp [results, hr, htm, hv, hu2, asAddr, hld]
end Go.Proofs.Ythhphmbhlddihaa
