/-
  No cell of these rows narrows 'for every input' (looked for: loops, veiled, ifaces, maps, wideKeys, modest, calm, conditions, laid).
  DERIVED. THE GIVEN ROWS OF THIS SEAT. 8 by the template 'for every input the law returns true; each argument reads behind the call as it read before'; 0 by the template 'total and deterministic' (their statements: YtkebipifbdncoaaTotals.lean).
  GIVEN WITH THE SEED: the statements are not yours to turn. If you find one false, say at which input.
  Laid BY PROGRAM, IN A SANDBOX (cutbox-rows.mjs): the forced cells as the released guide's own fill.sh prints them over the translation 36172143ff8e417d… (all of the seat's roots in one cut). By AI agents, Wed Nov 11 2026. No macro, syntax, notation, axiom, sorry.
-/
import Derived.Test.YtkebipifbdncoaaChecked
import GoSem.Claim
import GoSem.ClaimJoined
import GoSem.ClaimMapViews
import Derived.JoinedTies
import Derived.KernelRfl
namespace Go.Proofs.Ytkebipifbdncoaa
/- THE CELL 'sum', in the pinned program and in every row, IS THE sha256 OF THE DUMP (.gsa) THAT YtkebipifbdncoaaProg.lean LOADS. Nothing in Lean hashes anything: it is a label: what it is worth is what the hold of that sum in a sandbox is worth. -/
noncomputable def Try.pinned : Pinned := { name := "ytkebipifbdncoaa", sum := "36172143ff8e417dd581dd8c26353d6eaec4858e4b13e30642cbd26c17694100", checked := Try.checked }
namespace Rows
def none {H : Type} : Left H := { results := [], args := [] }

/-- 'seneschallaw01.WordsBits': WHATEVER THE INPUT: true; the input reads as it did. -/
def wordsBitsSpec : ChangeSpec := { name := "wordsBits", fn := fun _ => fun
  | [d1, d2] => { results := [.lit (.bool true)], args := [d1, d2] }
  | _ => none }
def wordsBitsRow : OpenClaim := { program := "ytkebipifbdncoaa", sum := "36172143ff8e417dd581dd8c26353d6eaec4858e4b13e30642cbd26c17694100", func := "seneschal/seneschallaw01.WordsBits", spec := "wordsBits", apart := false }
def WordsBitsSaid : Prop := wordsBitsRow.holds Try.pinned (OpenSpec.ofChange wordsBitsSpec)

/-- ITS FALSE NEIGHBOUR: 'it returns false'. Refute it at one input. -/
def wordsBitsWrong : ChangeSpec := { name := "wordsBits", fn := fun _ => fun
  | [d1, d2] => { results := [.lit (.bool false)], args := [d1, d2] }
  | _ => none }
def WordsBitsWrongFalsely : Prop := wordsBitsRow.holds Try.pinned (OpenSpec.ofChange wordsBitsWrong)

/-- 'seneschallaw01.WordsPuts': WHATEVER THE INPUT: true; the input reads as it did. -/
def wordsPutsSpec : ChangeSpec := { name := "wordsPuts", fn := fun _ => fun
  | [d1, d2] => { results := [.lit (.bool true)], args := [d1, d2] }
  | _ => none }
def wordsPutsRow : OpenClaim := { program := "ytkebipifbdncoaa", sum := "36172143ff8e417dd581dd8c26353d6eaec4858e4b13e30642cbd26c17694100", func := "seneschal/seneschallaw01.WordsPuts", spec := "wordsPuts", apart := false }
def WordsPutsSaid : Prop := wordsPutsRow.holds Try.pinned (OpenSpec.ofChange wordsPutsSpec)

/-- ITS FALSE NEIGHBOUR: 'it returns false'. Refute it at one input. -/
def wordsPutsWrong : ChangeSpec := { name := "wordsPuts", fn := fun _ => fun
  | [d1, d2] => { results := [.lit (.bool false)], args := [d1, d2] }
  | _ => none }
def WordsPutsWrongFalsely : Prop := wordsPutsRow.holds Try.pinned (OpenSpec.ofChange wordsPutsWrong)

/-- 'seneschallaw01.WordsLoads': WHATEVER THE INPUT: true; the input reads as it did. -/
def wordsLoadsSpec : ChangeSpec := { name := "wordsLoads", fn := fun _ => fun
  | [d1, d2] => { results := [.lit (.bool true)], args := [d1, d2] }
  | _ => none }
def wordsLoadsRow : OpenClaim := { program := "ytkebipifbdncoaa", sum := "36172143ff8e417dd581dd8c26353d6eaec4858e4b13e30642cbd26c17694100", func := "seneschal/seneschallaw01.WordsLoads", spec := "wordsLoads", apart := false }
def WordsLoadsSaid : Prop := wordsLoadsRow.holds Try.pinned (OpenSpec.ofChange wordsLoadsSpec)

/-- ITS FALSE NEIGHBOUR: 'it returns false'. Refute it at one input. -/
def wordsLoadsWrong : ChangeSpec := { name := "wordsLoads", fn := fun _ => fun
  | [d1, d2] => { results := [.lit (.bool false)], args := [d1, d2] }
  | _ => none }
def WordsLoadsWrongFalsely : Prop := wordsLoadsRow.holds Try.pinned (OpenSpec.ofChange wordsLoadsWrong)

/-- 'seneschallaw01.WordsLists': WHATEVER THE INPUT: true; the input reads as it did. -/
def wordsListsSpec : ChangeSpec := { name := "wordsLists", fn := fun _ => fun
  | [d1, d2] => { results := [.lit (.bool true)], args := [d1, d2] }
  | _ => none }
def wordsListsRow : OpenClaim := { program := "ytkebipifbdncoaa", sum := "36172143ff8e417dd581dd8c26353d6eaec4858e4b13e30642cbd26c17694100", func := "seneschal/seneschallaw01.WordsLists", spec := "wordsLists", apart := false }
def WordsListsSaid : Prop := wordsListsRow.holds Try.pinned (OpenSpec.ofChange wordsListsSpec)

/-- ITS FALSE NEIGHBOUR: 'it returns false'. Refute it at one input. -/
def wordsListsWrong : ChangeSpec := { name := "wordsLists", fn := fun _ => fun
  | [d1, d2] => { results := [.lit (.bool false)], args := [d1, d2] }
  | _ => none }
def WordsListsWrongFalsely : Prop := wordsListsRow.holds Try.pinned (OpenSpec.ofChange wordsListsWrong)

/-- 'seneschallaw01.WordsTurns': WHATEVER THE INPUT: true; the input reads as it did. -/
def wordsTurnsSpec : ChangeSpec := { name := "wordsTurns", fn := fun _ => fun
  | [d1, d2, d3] => { results := [.lit (.bool true)], args := [d1, d2, d3] }
  | _ => none }
def wordsTurnsRow : OpenClaim := { program := "ytkebipifbdncoaa", sum := "36172143ff8e417dd581dd8c26353d6eaec4858e4b13e30642cbd26c17694100", func := "seneschal/seneschallaw01.WordsTurns", spec := "wordsTurns", apart := false }
def WordsTurnsSaid : Prop := wordsTurnsRow.holds Try.pinned (OpenSpec.ofChange wordsTurnsSpec)

/-- ITS FALSE NEIGHBOUR: 'it returns false'. Refute it at one input. -/
def wordsTurnsWrong : ChangeSpec := { name := "wordsTurns", fn := fun _ => fun
  | [d1, d2, d3] => { results := [.lit (.bool false)], args := [d1, d2, d3] }
  | _ => none }
def WordsTurnsWrongFalsely : Prop := wordsTurnsRow.holds Try.pinned (OpenSpec.ofChange wordsTurnsWrong)

/-- 'seneschallaw01.WordsXor': WHATEVER THE INPUT: true; the input reads as it did. -/
def wordsXorSpec : ChangeSpec := { name := "wordsXor", fn := fun _ => fun
  | [d1, d2] => { results := [.lit (.bool true)], args := [d1, d2] }
  | _ => none }
def wordsXorRow : OpenClaim := { program := "ytkebipifbdncoaa", sum := "36172143ff8e417dd581dd8c26353d6eaec4858e4b13e30642cbd26c17694100", func := "seneschal/seneschallaw01.WordsXor", spec := "wordsXor", apart := false }
def WordsXorSaid : Prop := wordsXorRow.holds Try.pinned (OpenSpec.ofChange wordsXorSpec)

/-- ITS FALSE NEIGHBOUR: 'it returns false'. Refute it at one input. -/
def wordsXorWrong : ChangeSpec := { name := "wordsXor", fn := fun _ => fun
  | [d1, d2] => { results := [.lit (.bool false)], args := [d1, d2] }
  | _ => none }
def WordsXorWrongFalsely : Prop := wordsXorRow.holds Try.pinned (OpenSpec.ofChange wordsXorWrong)

/-- 'seneschallaw01.WordsSame': WHATEVER THE INPUT: true; the input reads as it did. -/
def wordsSameSpec : ChangeSpec := { name := "wordsSame", fn := fun _ => fun
  | [d1, d2, d3] => { results := [.lit (.bool true)], args := [d1, d2, d3] }
  | _ => none }
def wordsSameRow : OpenClaim := { program := "ytkebipifbdncoaa", sum := "36172143ff8e417dd581dd8c26353d6eaec4858e4b13e30642cbd26c17694100", func := "seneschal/seneschallaw01.WordsSame", spec := "wordsSame", apart := false }
def WordsSameSaid : Prop := wordsSameRow.holds Try.pinned (OpenSpec.ofChange wordsSameSpec)

/-- ITS FALSE NEIGHBOUR: 'it returns false'. Refute it at one input. -/
def wordsSameWrong : ChangeSpec := { name := "wordsSame", fn := fun _ => fun
  | [d1, d2, d3] => { results := [.lit (.bool false)], args := [d1, d2, d3] }
  | _ => none }
def WordsSameWrongFalsely : Prop := wordsSameRow.holds Try.pinned (OpenSpec.ofChange wordsSameWrong)

/-- 'seneschallaw01.WordsBack': WHATEVER THE INPUT: true; the input reads as it did. -/
def wordsBackSpec : ChangeSpec := { name := "wordsBack", fn := fun _ => fun
  | [d1, d2, d3] => { results := [.lit (.bool true)], args := [d1, d2, d3] }
  | _ => none }
def wordsBackRow : OpenClaim := { program := "ytkebipifbdncoaa", sum := "36172143ff8e417dd581dd8c26353d6eaec4858e4b13e30642cbd26c17694100", func := "seneschal/seneschallaw01.WordsBack", spec := "wordsBack", apart := false }
def WordsBackSaid : Prop := wordsBackRow.holds Try.pinned (OpenSpec.ofChange wordsBackSpec)

/-- ITS FALSE NEIGHBOUR: 'it returns false'. Refute it at one input. -/
def wordsBackWrong : ChangeSpec := { name := "wordsBack", fn := fun _ => fun
  | [d1, d2, d3] => { results := [.lit (.bool false)], args := [d1, d2, d3] }
  | _ => none }
def WordsBackWrongFalsely : Prop := wordsBackRow.holds Try.pinned (OpenSpec.ofChange wordsBackWrong)

/- THE SECOND FORM. 'bulk': how many values and letters a reading holds, each counted each time it is reached (what is shared counts as often as it is met; a slice's spare places count too). A statement '..UptoSaid' is the law's where the arguments, and the package variables that the reading takes, are together of bulk at most 1048576: NARROWER than '..Said'. Prove '..Said' where nothing that the law and all that it calls make is longer than what came in: it says more and counts as full. Else prove '..UptoSaid'. A law counts once. -/
mutual
def uptoBulk {H : Type} : DataW H → Nat
  | .lit (.string bytes) => bytes.length + 1
  | .lit _ => 1
  | .nil => 1
  | .ptr d => uptoBulk d + 1
  | .slice elems spare => uptoBulkAll elems + uptoBulkAll spare + 1
  | .agg parts => uptoBulkAll parts + 1
  | .iface _ d => uptoBulk d + 1
  | .map entries => uptoBulkEntries entries + 1
  | .held _ => 1
def uptoBulkAll {H : Type} : List (DataW H) → Nat
  | [] => 0
  | d :: r => uptoBulk d + uptoBulkAll r
def uptoBulkEntries {H : Type} : List (Lit × DataW H) → Nat
  | [] => 0
  | x :: r => uptoBulkEntry x + uptoBulkEntries r
def uptoBulkEntry {H : Type} : Lit × DataW H → Nat
  | (.string bytes, d) => bytes.length + uptoBulk d + 1
  | (_, d) => uptoBulk d + 1
 end
def uptoSmall : (H : Type) → List (DataW H) → Bool := fun _ ds => decide (uptoBulkAll ds ≤ 1048576)
def OpenSpec.upto (s : _root_.Go.ChangeSpec) : _root_.Go.OpenSpec := { _root_.Go.OpenSpec.ofChange s with cond := some uptoSmall }

/-- 'seneschallaw01.WordsBits', WHERE WHAT IT READS IS OF BULK AT MOST 1048576: true; the input reads as it did. -/
def wordsBitsUptoRow : OpenClaim := { program := "ytkebipifbdncoaa", sum := "36172143ff8e417dd581dd8c26353d6eaec4858e4b13e30642cbd26c17694100", func := "seneschal/seneschallaw01.WordsBits", spec := "wordsBits", apart := false, narrowed := true }
def WordsBitsUptoSaid : Prop := wordsBitsUptoRow.holds Try.pinned (OpenSpec.upto wordsBitsSpec)

/-- 'seneschallaw01.WordsPuts', WHERE WHAT IT READS IS OF BULK AT MOST 1048576: true; the input reads as it did. -/
def wordsPutsUptoRow : OpenClaim := { program := "ytkebipifbdncoaa", sum := "36172143ff8e417dd581dd8c26353d6eaec4858e4b13e30642cbd26c17694100", func := "seneschal/seneschallaw01.WordsPuts", spec := "wordsPuts", apart := false, narrowed := true }
def WordsPutsUptoSaid : Prop := wordsPutsUptoRow.holds Try.pinned (OpenSpec.upto wordsPutsSpec)

/-- 'seneschallaw01.WordsLoads', WHERE WHAT IT READS IS OF BULK AT MOST 1048576: true; the input reads as it did. -/
def wordsLoadsUptoRow : OpenClaim := { program := "ytkebipifbdncoaa", sum := "36172143ff8e417dd581dd8c26353d6eaec4858e4b13e30642cbd26c17694100", func := "seneschal/seneschallaw01.WordsLoads", spec := "wordsLoads", apart := false, narrowed := true }
def WordsLoadsUptoSaid : Prop := wordsLoadsUptoRow.holds Try.pinned (OpenSpec.upto wordsLoadsSpec)

/-- 'seneschallaw01.WordsLists', WHERE WHAT IT READS IS OF BULK AT MOST 1048576: true; the input reads as it did. -/
def wordsListsUptoRow : OpenClaim := { program := "ytkebipifbdncoaa", sum := "36172143ff8e417dd581dd8c26353d6eaec4858e4b13e30642cbd26c17694100", func := "seneschal/seneschallaw01.WordsLists", spec := "wordsLists", apart := false, narrowed := true }
def WordsListsUptoSaid : Prop := wordsListsUptoRow.holds Try.pinned (OpenSpec.upto wordsListsSpec)

/-- 'seneschallaw01.WordsTurns', WHERE WHAT IT READS IS OF BULK AT MOST 1048576: true; the input reads as it did. -/
def wordsTurnsUptoRow : OpenClaim := { program := "ytkebipifbdncoaa", sum := "36172143ff8e417dd581dd8c26353d6eaec4858e4b13e30642cbd26c17694100", func := "seneschal/seneschallaw01.WordsTurns", spec := "wordsTurns", apart := false, narrowed := true }
def WordsTurnsUptoSaid : Prop := wordsTurnsUptoRow.holds Try.pinned (OpenSpec.upto wordsTurnsSpec)

/-- 'seneschallaw01.WordsXor', WHERE WHAT IT READS IS OF BULK AT MOST 1048576: true; the input reads as it did. -/
def wordsXorUptoRow : OpenClaim := { program := "ytkebipifbdncoaa", sum := "36172143ff8e417dd581dd8c26353d6eaec4858e4b13e30642cbd26c17694100", func := "seneschal/seneschallaw01.WordsXor", spec := "wordsXor", apart := false, narrowed := true }
def WordsXorUptoSaid : Prop := wordsXorUptoRow.holds Try.pinned (OpenSpec.upto wordsXorSpec)

/-- 'seneschallaw01.WordsSame', WHERE WHAT IT READS IS OF BULK AT MOST 1048576: true; the input reads as it did. -/
def wordsSameUptoRow : OpenClaim := { program := "ytkebipifbdncoaa", sum := "36172143ff8e417dd581dd8c26353d6eaec4858e4b13e30642cbd26c17694100", func := "seneschal/seneschallaw01.WordsSame", spec := "wordsSame", apart := false, narrowed := true }
def WordsSameUptoSaid : Prop := wordsSameUptoRow.holds Try.pinned (OpenSpec.upto wordsSameSpec)

/-- 'seneschallaw01.WordsBack', WHERE WHAT IT READS IS OF BULK AT MOST 1048576: true; the input reads as it did. -/
def wordsBackUptoRow : OpenClaim := { program := "ytkebipifbdncoaa", sum := "36172143ff8e417dd581dd8c26353d6eaec4858e4b13e30642cbd26c17694100", func := "seneschal/seneschallaw01.WordsBack", spec := "wordsBack", apart := false, narrowed := true }
def WordsBackUptoSaid : Prop := wordsBackUptoRow.holds Try.pinned (OpenSpec.upto wordsBackSpec)

end Rows
end Go.Proofs.Ytkebipifbdncoaa
