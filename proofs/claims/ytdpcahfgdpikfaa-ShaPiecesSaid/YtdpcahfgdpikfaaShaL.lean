/- For the laws of SHA: hashes side by side; tags compared. -/
import Derived.Test.YtdpcahfgdpikfaaShaW
import Derived.Test.YtdpcahfgdpikfaaFrame
namespace Go.Proofs.Ytdpcahfgdpikfaa
open Go Go.RowKit
set_option linter.unusedVariables false
section
variable {P : Program} {ops : Array Oper} {Q : Exit → (Nat → Value) → World → Prop} {rest : List Oper} {e : Nat → Value} {w : World} {d : Tmp} {ty : TypeId} {pos : String} {aft : Array Edge}
theorem OW_loadT {x : Operand} {t T : TypeId} {zs : List Value} {g : Nat} {l : List UInt8} (ht : AggT P t 32 zs) (hx : ev e x = .pointer (some ⟨g, 0, none⟩)) (hb : Blk w g T (l.map bv).toArray) (hl : l.length = 32)
    (h : OW P ops Q rest (upd e d (.agg (l.map bv).toArray)) w) : OW P ops Q (⟨some d, .load t x, ty, pos, aft, none⟩ :: rest) e w :=
  OW_loadAB ht hx (l.map bv) hb (by rw [List.length_map, hl]) h
theorem OW_eqlRT {x y : Operand} {t t' : TypeId} {n : Nat} (hq : EqR P t n) {a : List UInt8} (hx : ev e x = .agg (a.map bv).toArray) (hy : ev e y = .agg (a.map bv).toArray) (ha : a.length = n)
    (h : OW P ops Q rest (upd e d (.bool true)) w) : OW P ops Q (⟨some d, .binOp .eql t x y t', ty, pos, aft, none⟩ :: rest) e w :=
  OW_eqlR hq hx hy ha ha (by rw [decide_eq_true rfl]; exact h)
theorem OW_neqRF {x y : Operand} {t t' : TypeId} {n : Nat} (hq : EqR P t n) {a : List UInt8} (hx : ev e x = .agg (a.map bv).toArray) (hy : ev e y = .agg (a.map bv).toArray) (ha : a.length = n)
    (h : OW P ops Q rest (upd e d (.bool false)) w) : OW P ops Q (⟨some d, .binOp .neq t x y t', ty, pos, aft, none⟩ :: rest) e w :=
  OW_neqR hq hx hy ha ha (by rw [decide_eq_true rfl]; exact h)
end
/-- What a call of its own blocks leaves. -/
structure Own (w0 w : World) (S : Nat → Prop) : Prop where
  ext : Ext w0 w
  lo : ∀ k, S k → w0.heap.size ≤ k
theorem Own.step {w0 w w' : World} {S : Nat → Prop} (h : Own w0 w S) (hk : Keeps w w' S) : Own w0 w' (more S w w') :=
  ⟨hk.ext h.ext h.lo, fun k hk2 => by
    rcases hk2 with h1 | h1
    · exact h.lo k h1
    · have := h.ext.size; omega⟩
theorem Own.to {w0 w w' : World} {S : Nat → Prop} (h : Own w0 w S) (hx : Ext w w') : Own w0 w' S := ⟨h.ext.trans' hx, h.lo⟩
theorem Own.new {w0 w w' : World} (h : Ext w0 w) (hx : Ext w w') : Own w0 w' (more (fun _ => False) w w') := ⟨h.trans' hx, fun k hk => by
  rcases hk with h1 | h1
  · exact h1.elim
  · have := h.size; omega⟩
theorem HR.beside {w w' : World} {S1 S2 : Nat → Prop} {g2 : Nat} {l2 : List UInt8} (h : HR w g2 S2 l2) (hk : Keeps w w' S1) (hd : ∀ k, S2 k → ¬ S1 k) : HR w' g2 S2 l2 := h.keeps hk hd
theorem more_apart {w w' : World} {S1 S2 : Nat → Prop} (hb : ∀ k, S2 k → k < w.heap.size) (hd : ∀ k, S2 k → ¬ S1 k) : ∀ k, S2 k → ¬ more S1 w w' k := fun k hk hm => by
  rcases hm with h | h
  · exact hd k hk h
  · have := hb k hk; omega
theorem more_apart' {w1 w2 w3 : World} {S : Nat → Prop} (hb : ∀ k, more S w1 w2 k → k < w2.heap.size) : ∀ k, more (fun _ => False) w2 w3 k → ¬ more S w1 w2 k := fun k hk hm => by
  rcases hk with h | h
  · exact h
  · have := hb k hm; omega
theorem apart_symm {S1 S2 : Nat → Prop} (hd : ∀ k, S2 k → ¬ S1 k) : ∀ k, S1 k → ¬ S2 k := fun k h1 h2 => hd k h2 h1
end Go.Proofs.Ytdpcahfgdpikfaa
