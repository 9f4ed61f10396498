/- Laws that add one to each byte of what they were told: what such a loop keeps. -/
import Derived.Test.YthhphmbhlddihaaTypes
import Derived.Test.YthhphmbhlddihaaPlain1
import Derived.Test.YthhphmbhlddihaaAny
namespace Go.Proofs.Ythhphmbhlddihaa
open Go Go.RowKit
set_option linter.unusedVariables false
theorem inc_u8 (x : UInt8) : IntKind.u8.wrap ((x.toNat : Int) + 1) = ((x + 1).toNat : Int) := by
  rw [show (x.toNat : Int) + 1 = ((x.toNat + 1 : Nat) : Int) by omega, wrap_u8, UInt8.toNat_add]
  rfl
theorem grown_trans' {a b c : World} {row : Option Nat} (h : a.grownBy b row) (k : b.grownBy c row) : a.grownBy c row :=
  ⟨k.os.trans h.os, k.tape.trans h.tape, k.output.trans h.output, Nat.le_trans h.size k.size, fun i hi hne => (k.block i (Nat.lt_of_lt_of_le hi h.size) hne).trans (h.block i hi hne)⟩
theorem ext_grown {T : TypeId} {w0 wS wX : World} {v : Value} {n : Nat} {xs : List Value} (h : Ext w0 wS) (ho : wS.ownsRow w0.heap.size T 1 v n xs) (hg : wS.grownBy wX v.ownBlock) : Ext w0 wX :=
  Below.grown h hg h.size (fun k hk => (ho.lt k hk).1)
theorem keep_own {T : TypeId} {wS wX : World} {v1 v2 : Value} {n2 base2 : Nat} {xs2 : List Value} (h2 : wS.ownsRow base2 T 1 v2 n2 xs2) (hg : wS.grownBy wX v1.ownBlock) (hlt : ∀ k, v1.ownBlock = some k → k < base2) : wX.ownsRow base2 T 1 v2 n2 xs2 := by
  refine h2.kept hg ?_
  cases hv : v2.ownBlock with
  | none => exact .inl rfl
  | some k2 =>
    right
    intro h
    have h3 := h2.lt k2 hv
    have h4 := hlt k2 h.symm
    omega
theorem own_lt {T : TypeId} {w w' : World} {base : Nat} {v : Value} {n : Nat} {xs : List Value} (h : w.ownsRow base T 1 v n xs) (hw : Ext w w') : ∀ k, v.ownBlock = some k → k < w'.heap.size := fun k hk => by
  have := (h.lt k hk).2
  have := hw.size
  omega
theorem inc_cell {T : TypeId} {w : World} {base g n c k : Nat} {zs : List UInt8} (ho : w.ownsRow base T 1 (.slice (some ⟨g, 0, none⟩) n c) n (zs.map bv)) (hz : zs.length = n) (hk : k < n) : w.cell? ((⟨g, 0, none⟩ : Addr).add k) = some (bv (zs[k]'(by omega))) := by
  rw [add0, ho.cellAt k (by omega), List.getElem?_map, List.getElem?_eq_getElem (by omega)]
  rfl
theorem inc_step {T : TypeId} {w : World} {base g n c k : Nat} {zs : List UInt8} (ho : w.ownsRow base T 1 (.slice (some ⟨g, 0, none⟩) n c) n (zs.map bv)) (hz : zs.length = n) (hk : k < n) (x : UInt8) :
    (w.setCell ⟨g, k, none⟩ (bv x)).ownsRow base T 1 (.slice (some ⟨g, 0, none⟩) n c) n ((zs.set k x).map bv) ∧ w.grownBy (w.setCell ⟨g, k, none⟩ (bv x)) (some g) := by
  have := ho.stored k (bv x)
  rw [List.map_set]
  exact this
theorem Bs.cellAt {w : World} {ad : Addr} {l : List UInt8} (h : Bs w (some ad) l) (j : Nat) (hj : j < l.length) : w.cell? (ad.add j) = some (bv l[j]) := by
  obtain ⟨ad', ha, hc⟩ := h.at_ hj
  cases ha
  exact hc
theorem Bs.some_ {w : World} {A : Option Addr} {l : List UInt8} (h : Bs w A l) (hl : 0 < l.length) : ∃ ad, A = some ad := by
  obtain ⟨ad, ha, _⟩ := h.at_ hl
  exact ⟨ad, ha⟩
theorem bs_lit {w : World} {g : Nat} {T : TypeId} (l : List UInt8) (vs : List Value) (hb : Blk w g T vs.toArray) (he : vs = l.map bv) : Bs w (some ⟨g, 0, none⟩) l := by
  subst he
  unfold Bs
  simpa using hb.rd
theorem keepsF_bsN (e : Nat → Value) (d : Tmp) (A : Option Addr) (n c : Nat) (l : List UInt8) (w w' : World) (hn : l.length = n) (hw : Ext w w') (hc : n ≤ c) (hb : Bs w' A l) : keepsF d w (isBs l) .normal (upd e d (.slice A n c)) w' := by
  subst hn; exact keepsF_bs e d A c l w w' hw hc hb
/-- Where ways meet again. -/
theorem CW_cut {P : Program} {n : Nat} {c : Code} {K : (Nat → Value) → World → Prop} {Q : Exit → (Nat → Value) → World → Prop} {e : Nat → Value} {w : World} (J : (Nat → Value) → World → Prop) (h : CW P n c (thenE J Q) e w) (hk : ∀ e w, J e w → K e w) : CW P n c (thenE K Q) e w :=
  h.mono fun x e w hx => by
    cases x <;> unfold thenE at hx ⊢ <;> first | exact hk _ _ hx | exact hx
section
variable {P : Program} {ops : Array Oper} {Q : Exit → (Nat → Value) → World → Prop} {rest : List Oper} {e : Nat → Value} {w : World} {d : Tmp} {ty : TypeId} {pos : String} {aft : Array Edge}
/-- An index that is a literal. -/
theorem OW_idxL {x : Operand} {t el : TypeId} {ad : Addr} {n c : Nat} {k : IntKind} {j : Int} (jN : Nat) (ht : P.underlying t = some (.slice el)) (hel : OneT P el) (hx : ev e x = .slice (some ad) n c) (hj : j = (jN : Int)) (hn : jN < n)
    (h : OW P ops Q rest (upd e d (.pointer (some (ad.add jN)))) w) : OW P ops Q (⟨some d, .indexAddr t x (.const (.int k j)), ty, pos, aft, none⟩ :: rest) e w := OW_idxS (y := .const (.int k j)) ht hel hx rfl jN hj hn h
end
end Go.Proofs.Ythhphmbhlddihaa
