/-
  No cell of these rows narrows 'for every input' (looked for: loops, veiled, ifaces, maps, wideKeys, modest, calm, conditions, laid).
  DERIVED. THE GIVEN ROWS OF THIS SEAT. 8 by the template 'for every input the law returns true; each argument reads behind the call as it read before'; 0 by the template 'total and deterministic' (their statements: YtnaflojlmgnkgaaTotals.lean).
  GIVEN WITH THE SEED: the statements are not yours to turn. If you find one false, say at which input.
  Laid BY PROGRAM, IN A SANDBOX (cutbox-rows.mjs): the forced cells as the released guide's own fill.sh prints them over the translation 624bca79004a60e5… (all of the seat's roots in one cut). By AI agents, Wed Nov 11 2026. No macro, syntax, notation, axiom, sorry.
-/
import Derived.Test.YtnaflojlmgnkgaaChecked
import GoSem.Claim
import GoSem.ClaimJoined
import GoSem.ClaimMapViews
import Derived.JoinedTies
import Derived.KernelRfl
namespace Go.Proofs.Ytnaflojlmgnkgaa
/- THE CELL 'sum', in the pinned program and in every row, IS THE sha256 OF THE DUMP (.gsa) THAT YtnaflojlmgnkgaaProg.lean LOADS. Nothing in Lean hashes anything: it is a label: what it is worth is what the hold of that sum in a sandbox is worth. -/
noncomputable def Try.pinned : Pinned := { name := "ytnaflojlmgnkgaa", sum := "624bca79004a60e5311452046a40bddab9148dedac45d018125d8fbcb325f59c", checked := Try.checked }
namespace Rows
def none {H : Type} : Left H := { results := [], args := [] }

/-- 'seneschallaw04.WireWrite': WHATEVER THE INPUT: true; the input reads as it did. -/
def wireWriteSpec : ChangeSpec := { name := "wireWrite", fn := fun _ => fun
  | [d] => { results := [.lit (.bool true)], args := [d] }
  | _ => none }
def wireWriteRow : OpenClaim := { program := "ytnaflojlmgnkgaa", sum := "624bca79004a60e5311452046a40bddab9148dedac45d018125d8fbcb325f59c", func := "seneschal/seneschallaw04.WireWrite", spec := "wireWrite", apart := false }
def WireWriteSaid : Prop := wireWriteRow.holds Try.pinned (OpenSpec.ofChange wireWriteSpec)

/-- ITS FALSE NEIGHBOUR: 'it returns false'. Refute it at one input. -/
def wireWriteWrong : ChangeSpec := { name := "wireWrite", fn := fun _ => fun
  | [d] => { results := [.lit (.bool false)], args := [d] }
  | _ => none }
def WireWriteWrongFalsely : Prop := wireWriteRow.holds Try.pinned (OpenSpec.ofChange wireWriteWrong)

/-- 'seneschallaw04.WireLimits': WHATEVER THE INPUT: true; the input reads as it did. -/
def wireLimitsSpec : ChangeSpec := { name := "wireLimits", fn := fun _ => fun
  | [d] => { results := [.lit (.bool true)], args := [d] }
  | _ => none }
def wireLimitsRow : OpenClaim := { program := "ytnaflojlmgnkgaa", sum := "624bca79004a60e5311452046a40bddab9148dedac45d018125d8fbcb325f59c", func := "seneschal/seneschallaw04.WireLimits", spec := "wireLimits", unfollowed := true, recurses := true, apart := false }
def WireLimitsSaid : Prop := wireLimitsRow.holds Try.pinned (OpenSpec.ofChange wireLimitsSpec)

/-- ITS FALSE NEIGHBOUR: 'it returns false'. Refute it at one input. -/
def wireLimitsWrong : ChangeSpec := { name := "wireLimits", fn := fun _ => fun
  | [d] => { results := [.lit (.bool false)], args := [d] }
  | _ => none }
def WireLimitsWrongFalsely : Prop := wireLimitsRow.holds Try.pinned (OpenSpec.ofChange wireLimitsWrong)

/-- 'seneschallaw04.WireRead': WHATEVER THE INPUT: true; the input reads as it did. -/
def wireReadSpec : ChangeSpec := { name := "wireRead", fn := fun _ => fun
  | [d1, d2] => { results := [.lit (.bool true)], args := [d1, d2] }
  | _ => none }
def wireReadRow : OpenClaim := { program := "ytnaflojlmgnkgaa", sum := "624bca79004a60e5311452046a40bddab9148dedac45d018125d8fbcb325f59c", func := "seneschal/seneschallaw04.WireRead", spec := "wireRead", unfollowed := true, recurses := true, apart := false }
def WireReadSaid : Prop := wireReadRow.holds Try.pinned (OpenSpec.ofChange wireReadSpec)

/-- ITS FALSE NEIGHBOUR: 'it returns false'. Refute it at one input. -/
def wireReadWrong : ChangeSpec := { name := "wireRead", fn := fun _ => fun
  | [d1, d2] => { results := [.lit (.bool false)], args := [d1, d2] }
  | _ => none }
def WireReadWrongFalsely : Prop := wireReadRow.holds Try.pinned (OpenSpec.ofChange wireReadWrong)

/-- 'seneschallaw04.WireNil': WHATEVER THE INPUT: true; the input reads as it did. -/
def wireNilSpec : ChangeSpec := { name := "wireNil", fn := fun _ => fun
  | [d] => { results := [.lit (.bool true)], args := [d] }
  | _ => none }
def wireNilRow : OpenClaim := { program := "ytnaflojlmgnkgaa", sum := "624bca79004a60e5311452046a40bddab9148dedac45d018125d8fbcb325f59c", func := "seneschal/seneschallaw04.WireNil", spec := "wireNil", unfollowed := true, recurses := true, apart := false }
def WireNilSaid : Prop := wireNilRow.holds Try.pinned (OpenSpec.ofChange wireNilSpec)

/-- ITS FALSE NEIGHBOUR: 'it returns false'. Refute it at one input. -/
def wireNilWrong : ChangeSpec := { name := "wireNil", fn := fun _ => fun
  | [d] => { results := [.lit (.bool false)], args := [d] }
  | _ => none }
def WireNilWrongFalsely : Prop := wireNilRow.holds Try.pinned (OpenSpec.ofChange wireNilWrong)

/-- 'seneschallaw04.WireCount': WHATEVER THE INPUT: true; the input reads as it did. -/
def wireCountSpec : ChangeSpec := { name := "wireCount", fn := fun _ => fun
  | [d1, d2, d3] => { results := [.lit (.bool true)], args := [d1, d2, d3] }
  | _ => none }
def wireCountRow : OpenClaim := { program := "ytnaflojlmgnkgaa", sum := "624bca79004a60e5311452046a40bddab9148dedac45d018125d8fbcb325f59c", func := "seneschal/seneschallaw04.WireCount", spec := "wireCount", unfollowed := true, recurses := true, apart := false }
def WireCountSaid : Prop := wireCountRow.holds Try.pinned (OpenSpec.ofChange wireCountSpec)

/-- ITS FALSE NEIGHBOUR: 'it returns false'. Refute it at one input. -/
def wireCountWrong : ChangeSpec := { name := "wireCount", fn := fun _ => fun
  | [d1, d2, d3] => { results := [.lit (.bool false)], args := [d1, d2, d3] }
  | _ => none }
def WireCountWrongFalsely : Prop := wireCountRow.holds Try.pinned (OpenSpec.ofChange wireCountWrong)

/-- 'seneschallaw04.WireBack': WHATEVER THE INPUT: true; the input reads as it did. -/
def wireBackSpec : ChangeSpec := { name := "wireBack", fn := fun _ => fun
  | [d1, d2] => { results := [.lit (.bool true)], args := [d1, d2] }
  | _ => none }
def wireBackRow : OpenClaim := { program := "ytnaflojlmgnkgaa", sum := "624bca79004a60e5311452046a40bddab9148dedac45d018125d8fbcb325f59c", func := "seneschal/seneschallaw04.WireBack", spec := "wireBack", unfollowed := true, recurses := true, apart := false }
def WireBackSaid : Prop := wireBackRow.holds Try.pinned (OpenSpec.ofChange wireBackSpec)

/-- ITS FALSE NEIGHBOUR: 'it returns false'. Refute it at one input. -/
def wireBackWrong : ChangeSpec := { name := "wireBack", fn := fun _ => fun
  | [d1, d2] => { results := [.lit (.bool false)], args := [d1, d2] }
  | _ => none }
def WireBackWrongFalsely : Prop := wireBackRow.holds Try.pinned (OpenSpec.ofChange wireBackWrong)

/-- 'seneschallaw04.WireAgain': WHATEVER THE INPUT: true; the input reads as it did. -/
def wireAgainSpec : ChangeSpec := { name := "wireAgain", fn := fun _ => fun
  | [d1, d2] => { results := [.lit (.bool true)], args := [d1, d2] }
  | _ => none }
def wireAgainRow : OpenClaim := { program := "ytnaflojlmgnkgaa", sum := "624bca79004a60e5311452046a40bddab9148dedac45d018125d8fbcb325f59c", func := "seneschal/seneschallaw04.WireAgain", spec := "wireAgain", unfollowed := true, recurses := true, apart := false }
def WireAgainSaid : Prop := wireAgainRow.holds Try.pinned (OpenSpec.ofChange wireAgainSpec)

/-- ITS FALSE NEIGHBOUR: 'it returns false'. Refute it at one input. -/
def wireAgainWrong : ChangeSpec := { name := "wireAgain", fn := fun _ => fun
  | [d1, d2] => { results := [.lit (.bool false)], args := [d1, d2] }
  | _ => none }
def WireAgainWrongFalsely : Prop := wireAgainRow.holds Try.pinned (OpenSpec.ofChange wireAgainWrong)

/-- 'seneschallaw04.WireBad': WHATEVER THE INPUT: true; the input reads as it did. -/
def wireBadSpec : ChangeSpec := { name := "wireBad", fn := fun _ => fun
  | [d1, d2, d3] => { results := [.lit (.bool true)], args := [d1, d2, d3] }
  | _ => none }
def wireBadRow : OpenClaim := { program := "ytnaflojlmgnkgaa", sum := "624bca79004a60e5311452046a40bddab9148dedac45d018125d8fbcb325f59c", func := "seneschal/seneschallaw04.WireBad", spec := "wireBad", unfollowed := true, recurses := true, apart := false }
def WireBadSaid : Prop := wireBadRow.holds Try.pinned (OpenSpec.ofChange wireBadSpec)

/-- ITS FALSE NEIGHBOUR: 'it returns false'. Refute it at one input. -/
def wireBadWrong : ChangeSpec := { name := "wireBad", fn := fun _ => fun
  | [d1, d2, d3] => { results := [.lit (.bool false)], args := [d1, d2, d3] }
  | _ => none }
def WireBadWrongFalsely : Prop := wireBadRow.holds Try.pinned (OpenSpec.ofChange wireBadWrong)

/- THE SECOND FORM. 'bulk': how many values and letters a reading holds, each counted each time it is reached (what is shared counts as often as it is met; a slice's spare places count too). A statement '..UptoSaid' is the law's where the arguments, and the package variables that the reading takes, are together of bulk at most 1048576: NARROWER than '..Said'. Prove '..Said' where nothing that the law and all that it calls make is longer than what came in: it says more and counts as full. Else prove '..UptoSaid'. A law counts once. -/
mutual
def uptoBulk {H : Type} : DataW H → Nat
  | .lit (.string bytes) => bytes.length + 1
  | .lit _ => 1
  | .nil => 1
  | .ptr d => uptoBulk d + 1
  | .slice elems spare => uptoBulkAll elems + uptoBulkAll spare + 1
  | .agg parts => uptoBulkAll parts + 1
  | .iface _ d => uptoBulk d + 1
  | .map entries => uptoBulkEntries entries + 1
  | .held _ => 1
def uptoBulkAll {H : Type} : List (DataW H) → Nat
  | [] => 0
  | d :: r => uptoBulk d + uptoBulkAll r
def uptoBulkEntries {H : Type} : List (Lit × DataW H) → Nat
  | [] => 0
  | x :: r => uptoBulkEntry x + uptoBulkEntries r
def uptoBulkEntry {H : Type} : Lit × DataW H → Nat
  | (.string bytes, d) => bytes.length + uptoBulk d + 1
  | (_, d) => uptoBulk d + 1
 end
def uptoSmall : (H : Type) → List (DataW H) → Bool := fun _ ds => decide (uptoBulkAll ds ≤ 1048576)
def OpenSpec.upto (s : _root_.Go.ChangeSpec) : _root_.Go.OpenSpec := { _root_.Go.OpenSpec.ofChange s with cond := some uptoSmall }

/-- 'seneschallaw04.WireWrite', WHERE WHAT IT READS IS OF BULK AT MOST 1048576: true; the input reads as it did. -/
def wireWriteUptoRow : OpenClaim := { program := "ytnaflojlmgnkgaa", sum := "624bca79004a60e5311452046a40bddab9148dedac45d018125d8fbcb325f59c", func := "seneschal/seneschallaw04.WireWrite", spec := "wireWrite", apart := false, narrowed := true }
def WireWriteUptoSaid : Prop := wireWriteUptoRow.holds Try.pinned (OpenSpec.upto wireWriteSpec)

/-- 'seneschallaw04.WireLimits', WHERE WHAT IT READS IS OF BULK AT MOST 1048576: true; the input reads as it did. -/
def wireLimitsUptoRow : OpenClaim := { program := "ytnaflojlmgnkgaa", sum := "624bca79004a60e5311452046a40bddab9148dedac45d018125d8fbcb325f59c", func := "seneschal/seneschallaw04.WireLimits", spec := "wireLimits", unfollowed := true, recurses := true, apart := false, narrowed := true }
def WireLimitsUptoSaid : Prop := wireLimitsUptoRow.holds Try.pinned (OpenSpec.upto wireLimitsSpec)

/-- 'seneschallaw04.WireRead', WHERE WHAT IT READS IS OF BULK AT MOST 1048576: true; the input reads as it did. -/
def wireReadUptoRow : OpenClaim := { program := "ytnaflojlmgnkgaa", sum := "624bca79004a60e5311452046a40bddab9148dedac45d018125d8fbcb325f59c", func := "seneschal/seneschallaw04.WireRead", spec := "wireRead", unfollowed := true, recurses := true, apart := false, narrowed := true }
def WireReadUptoSaid : Prop := wireReadUptoRow.holds Try.pinned (OpenSpec.upto wireReadSpec)

/-- 'seneschallaw04.WireNil', WHERE WHAT IT READS IS OF BULK AT MOST 1048576: true; the input reads as it did. -/
def wireNilUptoRow : OpenClaim := { program := "ytnaflojlmgnkgaa", sum := "624bca79004a60e5311452046a40bddab9148dedac45d018125d8fbcb325f59c", func := "seneschal/seneschallaw04.WireNil", spec := "wireNil", unfollowed := true, recurses := true, apart := false, narrowed := true }
def WireNilUptoSaid : Prop := wireNilUptoRow.holds Try.pinned (OpenSpec.upto wireNilSpec)

/-- 'seneschallaw04.WireCount', WHERE WHAT IT READS IS OF BULK AT MOST 1048576: true; the input reads as it did. -/
def wireCountUptoRow : OpenClaim := { program := "ytnaflojlmgnkgaa", sum := "624bca79004a60e5311452046a40bddab9148dedac45d018125d8fbcb325f59c", func := "seneschal/seneschallaw04.WireCount", spec := "wireCount", unfollowed := true, recurses := true, apart := false, narrowed := true }
def WireCountUptoSaid : Prop := wireCountUptoRow.holds Try.pinned (OpenSpec.upto wireCountSpec)

/-- 'seneschallaw04.WireBack', WHERE WHAT IT READS IS OF BULK AT MOST 1048576: true; the input reads as it did. -/
def wireBackUptoRow : OpenClaim := { program := "ytnaflojlmgnkgaa", sum := "624bca79004a60e5311452046a40bddab9148dedac45d018125d8fbcb325f59c", func := "seneschal/seneschallaw04.WireBack", spec := "wireBack", unfollowed := true, recurses := true, apart := false, narrowed := true }
def WireBackUptoSaid : Prop := wireBackUptoRow.holds Try.pinned (OpenSpec.upto wireBackSpec)

/-- 'seneschallaw04.WireAgain', WHERE WHAT IT READS IS OF BULK AT MOST 1048576: true; the input reads as it did. -/
def wireAgainUptoRow : OpenClaim := { program := "ytnaflojlmgnkgaa", sum := "624bca79004a60e5311452046a40bddab9148dedac45d018125d8fbcb325f59c", func := "seneschal/seneschallaw04.WireAgain", spec := "wireAgain", unfollowed := true, recurses := true, apart := false, narrowed := true }
def WireAgainUptoSaid : Prop := wireAgainUptoRow.holds Try.pinned (OpenSpec.upto wireAgainSpec)

/-- 'seneschallaw04.WireBad', WHERE WHAT IT READS IS OF BULK AT MOST 1048576: true; the input reads as it did. -/
def wireBadUptoRow : OpenClaim := { program := "ytnaflojlmgnkgaa", sum := "624bca79004a60e5311452046a40bddab9148dedac45d018125d8fbcb325f59c", func := "seneschal/seneschallaw04.WireBad", spec := "wireBad", unfollowed := true, recurses := true, apart := false, narrowed := true }
def WireBadUptoSaid : Prop := wireBadUptoRow.holds Try.pinned (OpenSpec.upto wireBadSpec)

end Rows
end Go.Proofs.Ytnaflojlmgnkgaa
