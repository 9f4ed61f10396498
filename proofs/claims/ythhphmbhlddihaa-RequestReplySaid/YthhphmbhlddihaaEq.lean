/- '==' and '!=' on strings, on rows of bytes, on structs. No program in sight. -/
import Derived.Test.YthhphmbhlddihaaKd
import Derived.DeepKeys
import Derived.Laws.StructEq
import Derived.Laws.Strings
import Derived.MapKept
namespace Go.Proofs.Ythhphmbhlddihaa
open Go Go.RowKit Go.ChangeShapes Go.WideShapes
set_option linter.unusedVariables false
theorem bytes_toList_beq (a b : ByteArray) : (a.toList == b.toList) = decide (a = b) := by
  rw [← beq_toListBytes, Bool.eq_iff_iff, MapKept.bytes_beq, decide_eq_true_iff]
/-- What can be compared whole. -/
structure EqX (P : Program) (t : TypeId) : Prop where
  key : ∃ m, m ≤ 10000 ∧ P.keyTypeAt m t = true
  guard : P.eqGuardType P.depth t = false
theorem run_eqX {P : Program} {t : TypeId} (hq : EqX P t) {xs ys : List Value} {L L' : List Lit} {D D' : Nat} (fx : (Value.agg xs.toArray).formed P t = true) (fy : (Value.agg ys.toArray).formed P t = true)
    (hx : P.keyLits D t xs = some L) (hy : P.keyLits D' t ys = some L') (w : World) : ∃ r : Bool, (Op.equalIn 10000 t (.agg xs.toArray) (.agg ys.toArray)).run P w = .ok r w ∧ (r = true ↔ L = L') := by
  obtain ⟨m, hm, hk⟩ := hq.key
  obtain ⟨r, hr, hiff⟩ := run_equalIn_deep (10000 - m) m t hk w D D' (.agg xs.toArray) (.agg ys.toArray) L L' fx fy (by simpa [Value.cells] using hx) (by simpa [Value.cells] using hy)
  rw [show 10000 - m + m = 10000 by omega] at hr
  exact ⟨r, hr, hiff⟩
section
variable {P : Program} {ops : Array Oper} {Q : Exit → (Nat → Value) → World → Prop} {rest : List Oper} {e : Nat → Value} {w : World} {d : Tmp} {ty : TypeId} {pos : String} {aft : Array Edge}
theorem OW_eqlS {x y : Operand} {t t' : TypeId} {a b : ByteArray} (hx : ev e x = .string a) (hy : ev e y = .string b) (h : OW P ops Q rest (upd e d (.bool (decide (a = b)))) w) : OW P ops Q (⟨some d, .binOp .eql t x y t', ty, pos, aft, none⟩ :: rest) e w :=
  OW_val _ rfl (by simp only [execOp, hx, hy, eqGuard, binOp_string_eql, bytes_toList_beq]; rfl) h
theorem OW_neqS {x y : Operand} {t t' : TypeId} {a b : ByteArray} (hx : ev e x = .string a) (hy : ev e y = .string b) (h : OW P ops Q rest (upd e d (.bool (!decide (a = b)))) w) : OW P ops Q (⟨some d, .binOp .neq t x y t', ty, pos, aft, none⟩ :: rest) e w :=
  OW_val _ rfl (by simp only [execOp, hx, hy, eqGuard, binOp_string_neq, bytes_toList_beq]; rfl) h
theorem OW_eqlX {x y : Operand} {t t' : TypeId} (hq : EqX P t) {xs ys : List Value} {L L' : List Lit} {D D' : Nat} (hx : ev e x = .agg xs.toArray) (hy : ev e y = .agg ys.toArray) (fx : (Value.agg xs.toArray).formed P t = true) (fy : (Value.agg ys.toArray).formed P t = true)
    (kx : P.keyLits D t xs = some L) (ky : P.keyLits D' t ys = some L') (h : ∀ r : Bool, (r = true ↔ L = L') → OW P ops Q rest (upd e d (.bool r)) w) : OW P ops Q (⟨some d, .binOp .eql t x y t', ty, pos, aft, none⟩ :: rest) e w := by
  obtain ⟨r, hr, hiff⟩ := run_eqX hq fx fy kx ky w
  refine OW_val _ rfl ?_ (h r hiff)
  simp only [execOp, hx, hy, Sem.run_bind, run_eqGuard_agg w .eql t x y xs.toArray ys.toArray hq.guard, Result.andThen_ok, run_eql_struct, hr]
  rfl
theorem OW_neqX {x y : Operand} {t t' : TypeId} (hq : EqX P t) {xs ys : List Value} {L L' : List Lit} {D D' : Nat} (hx : ev e x = .agg xs.toArray) (hy : ev e y = .agg ys.toArray) (fx : (Value.agg xs.toArray).formed P t = true) (fy : (Value.agg ys.toArray).formed P t = true)
    (kx : P.keyLits D t xs = some L) (ky : P.keyLits D' t ys = some L') (h : ∀ r : Bool, (r = true ↔ L = L') → OW P ops Q rest (upd e d (.bool (!r))) w) : OW P ops Q (⟨some d, .binOp .neq t x y t', ty, pos, aft, none⟩ :: rest) e w := by
  obtain ⟨r, hr, hiff⟩ := run_eqX hq fx fy kx ky w
  refine OW_val _ rfl ?_ (h r hiff)
  simp only [execOp, hx, hy, Sem.run_bind, run_eqGuard_agg w .neq t x y xs.toArray ys.toArray hq.guard, Result.andThen_ok, run_neq_struct, hr]
  rfl
end
def litB (b : UInt8) : Lit := .int .u8 (b.toNat : Int)
theorem litB_inj {a b : UInt8} (h : litB a = litB b) : a = b := by
  unfold litB at h
  injection h with _ h
  exact UInt8.toNat_inj.1 (by omega)
theorem litsB_inj {a b : List UInt8} (h : a.map litB = b.map litB) : a = b := (List.map_inj_right (fun _ _ => litB_inj)).1 h
theorem keyLits_u8 {P : Program} {e : TypeId} (he : P.underlying e = some (.int .u8)) (D : Nat) (b : UInt8) : P.keyLits (D + 1) e [bv b] = some [litB b] := by
  unfold Program.keyLits
  rw [he]
  have hw : (Lit.int .u8 (b.toNat : Int)).wf = true := by
    have := b.toNat_lt
    simp [Lit.wf, IntKind.min, IntKind.max, IntKind.signed, IntKind.bits]; omega
  simp [bv, hw, litB]
theorem keyLits_arr {P : Program} {t e : TypeId} {n : Nat} (ht : P.underlying t = some (.array n e)) (he : P.underlying e = some (.int .u8)) (hc : P.cellsOf e = 1) (hn : P.cellsOf t = n) (D : Nat) {l : List UInt8} (hl : l.length = n) :
    P.keyLits (D + 2) t (l.map bv) = some (l.map litB) := by
  unfold Program.keyLits
  rw [ht]
  have h1 : (List.range n).mapM (fun i => P.keyLits (D + 1) e (((l.map bv).drop (i * P.cellsOf e)).take (P.cellsOf e))) = some ((List.range n).map fun i => [litB (l.getD i 0)]) := by
    refine mapM_range_of n fun i hi => ?_
    rw [hc, Nat.mul_one, List.drop_eq_getElem_cons (by simp; omega)]
    simp only [List.take_succ_cons, List.take_zero, List.getElem_map]
    rw [keyLits_u8 he, List.getD_eq_getElem?_getD, List.getElem?_eq_getElem (by omega)]
    rfl
  simp only [List.length_map, hl, hn, if_true, h1, Option.map_some]
  congr 1
  apply List.ext_getElem?
  intro i
  have hf : ((List.range n).map fun i => [litB (l.getD i 0)]).flatten = (List.range n).map fun i => litB (l.getD i 0) := by
    generalize List.range n = r
    induction r with
    | nil => rfl
    | cons a r ih => rw [List.map_cons, List.flatten_cons, ih]; rfl
  rw [hf]
  by_cases hi : i < n
  · simp [hi, hl]
  · rw [List.getElem?_eq_none (by simp; omega), List.getElem?_eq_none (by simp; omega)]
/-- A row of bytes that can be compared. -/
structure EqR (P : Program) (t : TypeId) (n : Nat) : Prop where
  eqx : EqX P t
  row : ∃ e, P.underlying t = some (.array n e) ∧ P.underlying e = some (.int .u8) ∧ P.cellsOf e = 1
  size : P.cellsOf t = n
section
variable {P : Program} {ops : Array Oper} {Q : Exit → (Nat → Value) → World → Prop} {rest : List Oper} {e : Nat → Value} {w : World} {d : Tmp} {ty : TypeId} {pos : String} {aft : Array Edge}
theorem EqR.formed {t : TypeId} {n : Nat} (hq : EqR P t n) {l : List UInt8} (hl : l.length = n) : (Value.agg (l.map bv).toArray).formed P t = true := by
  obtain ⟨el, h1, _⟩ := hq.row
  simp [Value.formed, h1, hq.size, hl]
theorem OW_eqlR {x y : Operand} {t t' : TypeId} {n : Nat} (hq : EqR P t n) {a b : List UInt8} (hx : ev e x = .agg (a.map bv).toArray) (hy : ev e y = .agg (b.map bv).toArray) (ha : a.length = n) (hb : b.length = n)
    (h : OW P ops Q rest (upd e d (.bool (decide (a = b)))) w) : OW P ops Q (⟨some d, .binOp .eql t x y t', ty, pos, aft, none⟩ :: rest) e w := by
  obtain ⟨el, h1, h2, h3⟩ := hq.row
  refine OW_eqlX hq.eqx hx hy (hq.formed ha) (hq.formed hb) (keyLits_arr h1 h2 h3 hq.size 0 ha) (keyLits_arr h1 h2 h3 hq.size 0 hb) (fun r hr => ?_)
  have : r = decide (a = b) := by rw [Bool.eq_iff_iff, hr, decide_eq_true_iff]; exact ⟨litsB_inj, fun h => by rw [h]⟩
  rw [this]
  exact h
theorem OW_neqR {x y : Operand} {t t' : TypeId} {n : Nat} (hq : EqR P t n) {a b : List UInt8} (hx : ev e x = .agg (a.map bv).toArray) (hy : ev e y = .agg (b.map bv).toArray) (ha : a.length = n) (hb : b.length = n)
    (h : OW P ops Q rest (upd e d (.bool (!decide (a = b)))) w) : OW P ops Q (⟨some d, .binOp .neq t x y t', ty, pos, aft, none⟩ :: rest) e w := by
  obtain ⟨el, h1, h2, h3⟩ := hq.row
  refine OW_neqX hq.eqx hx hy (hq.formed ha) (hq.formed hb) (keyLits_arr h1 h2 h3 hq.size 0 ha) (keyLits_arr h1 h2 h3 hq.size 0 hb) (fun r hr => ?_)
  have : r = decide (a = b) := by rw [Bool.eq_iff_iff, hr, decide_eq_true_iff]; exact ⟨litsB_inj, fun h => by rw [h]⟩
  rw [this]
  exact h
end
end Go.Proofs.Ythhphmbhlddihaa
