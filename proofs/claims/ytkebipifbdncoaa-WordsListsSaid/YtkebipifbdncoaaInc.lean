/- Laws that add one to each byte of what they were told: what such a loop keeps. -/
import Derived.Test.YtkebipifbdncoaaTypes
import Derived.Test.YtkebipifbdncoaaPlain1
namespace Go.Proofs.Ytkebipifbdncoaa
open Go Go.RowKit
set_option linter.unusedVariables false
theorem inc_u8 (x : UInt8) : IntKind.u8.wrap ((x.toNat : Int) + 1) = ((x + 1).toNat : Int) := by
  rw [show (x.toNat : Int) + 1 = ((x.toNat + 1 : Nat) : Int) by omega, wrap_u8, UInt8.toNat_add]
  rfl
theorem grown_trans' {a b c : World} {row : Option Nat} (h : a.grownBy b row) (k : b.grownBy c row) : a.grownBy c row :=
  ⟨k.os.trans h.os, k.tape.trans h.tape, k.output.trans h.output, Nat.le_trans h.size k.size, fun i hi hne => (k.block i (Nat.lt_of_lt_of_le hi h.size) hne).trans (h.block i hi hne)⟩
theorem ext_grown {T : TypeId} {w0 wS wX : World} {v : Value} {n : Nat} {xs : List Value} (h : Ext w0 wS) (ho : wS.ownsRow w0.heap.size T 1 v n xs) (hg : wS.grownBy wX v.ownBlock) : Ext w0 wX :=
  Below.grown h hg h.size (fun k hk => (ho.lt k hk).1)
theorem keep_own {T : TypeId} {wS wX : World} {v1 v2 : Value} {n2 base2 : Nat} {xs2 : List Value} (h2 : wS.ownsRow base2 T 1 v2 n2 xs2) (hg : wS.grownBy wX v1.ownBlock) (hlt : ∀ k, v1.ownBlock = some k → k < base2) : wX.ownsRow base2 T 1 v2 n2 xs2 := by
  refine h2.kept hg ?_
  cases hv : v2.ownBlock with
  | none => exact .inl rfl
  | some k2 =>
    right
    intro h
    have h3 := h2.lt k2 hv
    have h4 := hlt k2 h.symm
    omega
theorem own_lt {T : TypeId} {w w' : World} {base : Nat} {v : Value} {n : Nat} {xs : List Value} (h : w.ownsRow base T 1 v n xs) (hw : Ext w w') : ∀ k, v.ownBlock = some k → k < w'.heap.size := fun k hk => by
  have := (h.lt k hk).2
  have := hw.size
  omega
theorem inc_cell {T : TypeId} {w : World} {base g n c k : Nat} {zs : List UInt8} (ho : w.ownsRow base T 1 (.slice (some ⟨g, 0, none⟩) n c) n (zs.map bv)) (hz : zs.length = n) (hk : k < n) : w.cell? ((⟨g, 0, none⟩ : Addr).add k) = some (bv (zs[k]'(by omega))) := by
  rw [add0, ho.cellAt k (by omega), List.getElem?_map, List.getElem?_eq_getElem (by omega)]
  rfl
theorem inc_step {T : TypeId} {w : World} {base g n c k : Nat} {zs : List UInt8} (ho : w.ownsRow base T 1 (.slice (some ⟨g, 0, none⟩) n c) n (zs.map bv)) (hz : zs.length = n) (hk : k < n) (x : UInt8) :
    (w.setCell ⟨g, k, none⟩ (bv x)).ownsRow base T 1 (.slice (some ⟨g, 0, none⟩) n c) n ((zs.set k x).map bv) ∧ w.grownBy (w.setCell ⟨g, k, none⟩ (bv x)) (some g) := by
  have := ho.stored k (bv x)
  rw [List.map_set]
  exact this
end Go.Proofs.Ytkebipifbdncoaa
