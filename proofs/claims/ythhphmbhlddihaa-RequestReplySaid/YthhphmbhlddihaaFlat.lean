/- Lists of slices of bytes. -/
import Derived.Test.YthhphmbhlddihaaMem
namespace Go.Proofs.Ythhphmbhlddihaa
open Go Go.RowKit
/-- Slices of bytes, as values. -/
abbrev BV := Option Addr × Nat × List UInt8
def sv (x : BV) : Value := .slice x.1 x.2.2.length x.2.1
def flat (vs : List BV) : List UInt8 := (vs.map (·.2.2)).flatten
theorem flat_cons (x : BV) (vs : List BV) : flat (x :: vs) = x.2.2 ++ flat vs := by simp [flat]
theorem flat_nil : flat [] = [] := rfl
theorem flat_app (a b : List BV) : flat (a ++ b) = flat a ++ flat b := by simp [flat]
theorem flat_take_succ {vs : List BV} {k : Nat} (h : k < vs.length) : flat (vs.take (k + 1)) = flat (vs.take k) ++ (vs[k]).2.2 := by
  rw [List.take_succ_eq_append_getElem h, flat_app, flat_cons, flat_nil, List.append_nil]
theorem flat_le (vs : List BV) (k : Nat) : (flat (vs.take k)).length ≤ (flat vs).length := by
  have h := congrArg (fun l => (flat l).length) (List.take_append_drop k vs)
  simp only [flat_app, List.length_append] at h
  omega
end Go.Proofs.Ythhphmbhlddihaa
