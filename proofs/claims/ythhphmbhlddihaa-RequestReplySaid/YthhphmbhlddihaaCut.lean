/- Where ways meet again, whatever stands behind. No program in sight. -/
import Derived.Test.YthhphmbhlddihaaOrd
namespace Go.Proofs.Ythhphmbhlddihaa
open Go Go.RowKit
/-- It ends in its normal way, and so. -/
def nrm (J : (Nat → Value) → World → Prop) : Exit → (Nat → Value) → World → Prop := fun x e w => x = .normal ∧ J e w
theorem CW_meet {P : Program} {n : Nat} {c : Code} {Q : Exit → (Nat → Value) → World → Prop} {e : Nat → Value} {w : World} (J : (Nat → Value) → World → Prop) (h : CW P n c (nrm J) e w) (hk : ∀ e w, J e w → Q .normal e w) : CW P n c Q e w :=
  h.mono fun x e w ⟨hx, hJ⟩ => by subst hx; exact hk _ _ hJ
/-- The same around a block's inside. -/
theorem CW_meetB {P : Program} {n id : Nat} {c : Code} {Q : Exit → (Nat → Value) → World → Prop} {e : Nat → Value} {w : World} (J : (Nat → Value) → World → Prop) (h : CW P n c (inBlockE id (nrm J)) e w) (hk : ∀ e w, J e w → Q .normal e w) : CW P n c (inBlockE id Q) e w :=
  h.mono fun x e w hx => by
    cases x with
    | normal => unfold inBlockE at hx ⊢; exact hk _ _ hx.2
    | exit id' =>
      unfold inBlockE at hx ⊢
      simp only at hx ⊢
      split
      · rename_i hh; rw [if_pos hh] at hx; exact hk _ _ hx.2
      · rename_i hh; rw [if_neg hh] at hx; cases hx.1
    | ret => unfold inBlockE at hx; cases hx.1
    | goto t => unfold inBlockE at hx; cases hx.1
    | panic ch => unfold inBlockE at hx; cases hx.1
    | outgrown => unfold inBlockE at hx; cases hx.1
theorem OW.mono {P : Program} {ops : Array Oper} {Q Q' : Exit → (Nat → Value) → World → Prop} : ∀ (l : List Oper) {e : Nat → Value} {w : World}, OW P ops Q l e w → (∀ e w, Q .normal e w → Q' .normal e w) → OW P ops Q' l e w
  | [], e, w, h, hq => by unfold OW at h ⊢; exact hq _ _ h
  | o :: l, e, w, h, hq => by
    unfold OW at h ⊢
    split
    · rename_i hw
      rw [if_pos hw] at h
      exact opW_mono h fun v w' hv => OW.mono l hv hq
    · rename_i hw
      rw [if_neg hw] at h
      exact OW.mono l h hq
/-- Where the ways of one region meet again. -/
theorem OW_meet {P : Program} {ops : Array Oper} {Q : Exit → (Nat → Value) → World → Prop} {l : List Oper} {e : Nat → Value} {w : World} (J : (Nat → Value) → World → Prop) (h : OW P ops (nrm J) l e w) (hk : ∀ e w, J e w → Q .normal e w) : OW P ops Q l e w :=
  OW.mono l h fun e w ⟨_, hJ⟩ => hk e w hJ
end Go.Proofs.Ythhphmbhlddihaa
