/- Drawn regions of a class of worlds that only grow: short forms. No program in sight. -/
import Derived.Test.YthhphmbhlddihaaOrd2
import Derived.Test.YthhphmbhlddihaaU32
namespace Go.Proofs.Ythhphmbhlddihaa
open Go Go.RowKit
set_option linter.unusedVariables false
section
variable {P : Program} {l : List Oper} {C : World → Prop} {Q : Exit → (Nat → Value) → World → Prop} {e : Nat → Value} {w W : World}
theorem goY_mkE {t : Ty} (hC : C = fun v => Ext W v) (hx : Ext W w) (h : OY P l C Q t e w) : goY P l (fun C' => ∀ u, C' u → C u) Q t .normal e w := goY_mk (by rw [hC]; exact hx) h
theorem goY_dropE {t : Ty} (hC : C = fun v => Ext W v) (hx : Ext W w) (h : OY P l C Q t e w) : goY P l (fun _ => True) Q t .normal e w := goY_drop C (by rw [hC]; exact hx) h
theorem blkE {g : Nat} {T : TypeId} {cs : Array Value} (hC : C = fun v => Ext W v) (hb : Blk W g T cs) : ∀ v, C v → Blk v g T cs := fun v hv => by rw [hC] at hv; exact hb.ext hv
theorem cellE {ad : Addr} {u : Value} (hC : C = fun v => Ext W v) (hb : W.cell? ad = some u) : ∀ v, C v → v.cell? ad = some u := fun v hv => by rw [hC] at hv; exact hv.cell' hb
theorem inE (hC : C = fun v => Ext W v) : ∀ v, Ext W v → C v := fun v hv => by rw [hC]; exact hv
end
end Go.Proofs.Ythhphmbhlddihaa
