/-
  No cell of these rows narrows 'for every input' (looked for: loops, veiled, ifaces, maps, wideKeys, modest, calm, conditions, laid).
  DERIVED. THE GIVEN ROWS OF THIS SEAT. 7 by the template 'for every input the law returns true; each argument reads behind the call as it read before'; 0 by the template 'total and deterministic' (their statements: YtdedfdfagidgdaaTotals.lean).
  GIVEN WITH THE SEED: the statements are not yours to turn. If you find one false, say at which input.
  Laid BY PROGRAM, IN A SANDBOX (cutbox-rows.mjs): the forced cells as the released guide's own fill.sh prints them over the translation ab060117322ed9f6… (all of the seat's roots in one cut). By AI agents, Wed Nov 11 2026. No macro, syntax, notation, axiom, sorry.
-/
import Derived.Test.YtdedfdfagidgdaaChecked
import GoSem.Claim
import GoSem.ClaimJoined
import GoSem.ClaimMapViews
import Derived.JoinedTies
import Derived.KernelRfl
namespace Go.Proofs.Ytdedfdfagidgdaa
/- THE CELL 'sum', in the pinned program and in every row, IS THE sha256 OF THE DUMP (.gsa) THAT YtdedfdfagidgdaaProg.lean LOADS. Nothing in Lean hashes anything: it is a label: what it is worth is what the hold of that sum in a sandbox is worth. -/
noncomputable def Try.pinned : Pinned := { name := "ytdedfdfagidgdaa", sum := "ab060117322ed9f639fa3d7f8d75fd5582d6d8b861d03baa9d66c8faa2ea6b34", checked := Try.checked }
namespace Rows
def none {H : Type} : Left H := { results := [], args := [] }

/-- 'seneschallaw03.HmacSame': WHATEVER THE INPUT: true; the input reads as it did. -/
def hmacSameSpec : ChangeSpec := { name := "hmacSame", fn := fun _ => fun
  | [d1, d2] => { results := [.lit (.bool true)], args := [d1, d2] }
  | _ => none }
def hmacSameRow : OpenClaim := { program := "ytdedfdfagidgdaa", sum := "ab060117322ed9f639fa3d7f8d75fd5582d6d8b861d03baa9d66c8faa2ea6b34", func := "seneschal/seneschallaw03.HmacSame", spec := "hmacSame", apart := false }
def HmacSameSaid : Prop := hmacSameRow.holds Try.pinned (OpenSpec.ofChange hmacSameSpec)

/-- ITS FALSE NEIGHBOUR: 'it returns false'. Refute it at one input. -/
def hmacSameWrong : ChangeSpec := { name := "hmacSame", fn := fun _ => fun
  | [d1, d2] => { results := [.lit (.bool false)], args := [d1, d2] }
  | _ => none }
def HmacSameWrongFalsely : Prop := hmacSameRow.holds Try.pinned (OpenSpec.ofChange hmacSameWrong)

/-- 'seneschallaw03.HmacSum': WHATEVER THE INPUT: true; the input reads as it did. -/
def hmacSumSpec : ChangeSpec := { name := "hmacSum", fn := fun _ => fun
  | [d1, d2] => { results := [.lit (.bool true)], args := [d1, d2] }
  | _ => none }
def hmacSumRow : OpenClaim := { program := "ytdedfdfagidgdaa", sum := "ab060117322ed9f639fa3d7f8d75fd5582d6d8b861d03baa9d66c8faa2ea6b34", func := "seneschal/seneschallaw03.HmacSum", spec := "hmacSum", unfollowed := true, recurses := true, apart := false }
def HmacSumSaid : Prop := hmacSumRow.holds Try.pinned (OpenSpec.ofChange hmacSumSpec)

/-- ITS FALSE NEIGHBOUR: 'it returns false'. Refute it at one input. -/
def hmacSumWrong : ChangeSpec := { name := "hmacSum", fn := fun _ => fun
  | [d1, d2] => { results := [.lit (.bool false)], args := [d1, d2] }
  | _ => none }
def HmacSumWrongFalsely : Prop := hmacSumRow.holds Try.pinned (OpenSpec.ofChange hmacSumWrong)

/-- 'seneschallaw03.HmacDerive': WHATEVER THE INPUT: true; the input reads as it did. -/
def hmacDeriveSpec : ChangeSpec := { name := "hmacDerive", fn := fun _ => fun
  | [d1, d2, d3] => { results := [.lit (.bool true)], args := [d1, d2, d3] }
  | _ => none }
def hmacDeriveRow : OpenClaim := { program := "ytdedfdfagidgdaa", sum := "ab060117322ed9f639fa3d7f8d75fd5582d6d8b861d03baa9d66c8faa2ea6b34", func := "seneschal/seneschallaw03.HmacDerive", spec := "hmacDerive", unfollowed := true, recurses := true, apart := false }
def HmacDeriveSaid : Prop := hmacDeriveRow.holds Try.pinned (OpenSpec.ofChange hmacDeriveSpec)

/-- ITS FALSE NEIGHBOUR: 'it returns false'. Refute it at one input. -/
def hmacDeriveWrong : ChangeSpec := { name := "hmacDerive", fn := fun _ => fun
  | [d1, d2, d3] => { results := [.lit (.bool false)], args := [d1, d2, d3] }
  | _ => none }
def HmacDeriveWrongFalsely : Prop := hmacDeriveRow.holds Try.pinned (OpenSpec.ofChange hmacDeriveWrong)

/-- 'seneschallaw03.HmacKeys': WHATEVER THE INPUT: true; the input reads as it did. -/
def hmacKeysSpec : ChangeSpec := { name := "hmacKeys", fn := fun _ => fun
  | [d1, d2, d3] => { results := [.lit (.bool true)], args := [d1, d2, d3] }
  | _ => none }
def hmacKeysRow : OpenClaim := { program := "ytdedfdfagidgdaa", sum := "ab060117322ed9f639fa3d7f8d75fd5582d6d8b861d03baa9d66c8faa2ea6b34", func := "seneschal/seneschallaw03.HmacKeys", spec := "hmacKeys", unfollowed := true, recurses := true, apart := false }
def HmacKeysSaid : Prop := hmacKeysRow.holds Try.pinned (OpenSpec.ofChange hmacKeysSpec)

/-- ITS FALSE NEIGHBOUR: 'it returns false'. Refute it at one input. -/
def hmacKeysWrong : ChangeSpec := { name := "hmacKeys", fn := fun _ => fun
  | [d1, d2, d3] => { results := [.lit (.bool false)], args := [d1, d2, d3] }
  | _ => none }
def HmacKeysWrongFalsely : Prop := hmacKeysRow.holds Try.pinned (OpenSpec.ofChange hmacKeysWrong)

/-- 'seneschallaw03.HmacTwice': WHATEVER THE INPUT: true; the input reads as it did. -/
def hmacTwiceSpec : ChangeSpec := { name := "hmacTwice", fn := fun _ => fun
  | [d1, d2] => { results := [.lit (.bool true)], args := [d1, d2] }
  | _ => none }
def hmacTwiceRow : OpenClaim := { program := "ytdedfdfagidgdaa", sum := "ab060117322ed9f639fa3d7f8d75fd5582d6d8b861d03baa9d66c8faa2ea6b34", func := "seneschal/seneschallaw03.HmacTwice", spec := "hmacTwice", unfollowed := true, recurses := true, apart := false }
def HmacTwiceSaid : Prop := hmacTwiceRow.holds Try.pinned (OpenSpec.ofChange hmacTwiceSpec)

/-- ITS FALSE NEIGHBOUR: 'it returns false'. Refute it at one input. -/
def hmacTwiceWrong : ChangeSpec := { name := "hmacTwice", fn := fun _ => fun
  | [d1, d2] => { results := [.lit (.bool false)], args := [d1, d2] }
  | _ => none }
def HmacTwiceWrongFalsely : Prop := hmacTwiceRow.holds Try.pinned (OpenSpec.ofChange hmacTwiceWrong)

/-- 'seneschallaw03.HmacDerived': WHATEVER THE INPUT: true; the input reads as it did. -/
def hmacDerivedSpec : ChangeSpec := { name := "hmacDerived", fn := fun _ => fun
  | [d1, d2, d3, d4, d5] => { results := [.lit (.bool true)], args := [d1, d2, d3, d4, d5] }
  | _ => none }
def hmacDerivedRow : OpenClaim := { program := "ytdedfdfagidgdaa", sum := "ab060117322ed9f639fa3d7f8d75fd5582d6d8b861d03baa9d66c8faa2ea6b34", func := "seneschal/seneschallaw03.HmacDerived", spec := "hmacDerived", unfollowed := true, recurses := true, apart := false }
def HmacDerivedSaid : Prop := hmacDerivedRow.holds Try.pinned (OpenSpec.ofChange hmacDerivedSpec)

/-- ITS FALSE NEIGHBOUR: 'it returns false'. Refute it at one input. -/
def hmacDerivedWrong : ChangeSpec := { name := "hmacDerived", fn := fun _ => fun
  | [d1, d2, d3, d4, d5] => { results := [.lit (.bool false)], args := [d1, d2, d3, d4, d5] }
  | _ => none }
def HmacDerivedWrongFalsely : Prop := hmacDerivedRow.holds Try.pinned (OpenSpec.ofChange hmacDerivedWrong)

/-- 'seneschallaw03.HmacUnlike': WHATEVER THE INPUT: true; the input reads as it did. -/
def hmacUnlikeSpec : ChangeSpec := { name := "hmacUnlike", fn := fun _ => fun
  | [d1, d2, d3, d4] => { results := [.lit (.bool true)], args := [d1, d2, d3, d4] }
  | _ => none }
def hmacUnlikeRow : OpenClaim := { program := "ytdedfdfagidgdaa", sum := "ab060117322ed9f639fa3d7f8d75fd5582d6d8b861d03baa9d66c8faa2ea6b34", func := "seneschal/seneschallaw03.HmacUnlike", spec := "hmacUnlike", unfollowed := true, recurses := true, apart := false }
def HmacUnlikeSaid : Prop := hmacUnlikeRow.holds Try.pinned (OpenSpec.ofChange hmacUnlikeSpec)

/-- ITS FALSE NEIGHBOUR: 'it returns false'. Refute it at one input. -/
def hmacUnlikeWrong : ChangeSpec := { name := "hmacUnlike", fn := fun _ => fun
  | [d1, d2, d3, d4] => { results := [.lit (.bool false)], args := [d1, d2, d3, d4] }
  | _ => none }
def HmacUnlikeWrongFalsely : Prop := hmacUnlikeRow.holds Try.pinned (OpenSpec.ofChange hmacUnlikeWrong)

/- THE SECOND FORM. 'bulk': how many values and letters a reading holds, each counted each time it is reached (what is shared counts as often as it is met; a slice's spare places count too). A statement '..UptoSaid' is the law's where the arguments, and the package variables that the reading takes, are together of bulk at most 1048576: NARROWER than '..Said'. Prove '..Said' where nothing that the law and all that it calls make is longer than what came in: it says more and counts as full. Else prove '..UptoSaid'. A law counts once. -/
mutual
def uptoBulk {H : Type} : DataW H → Nat
  | .lit (.string bytes) => bytes.length + 1
  | .lit _ => 1
  | .nil => 1
  | .ptr d => uptoBulk d + 1
  | .slice elems spare => uptoBulkAll elems + uptoBulkAll spare + 1
  | .agg parts => uptoBulkAll parts + 1
  | .iface _ d => uptoBulk d + 1
  | .map entries => uptoBulkEntries entries + 1
  | .held _ => 1
def uptoBulkAll {H : Type} : List (DataW H) → Nat
  | [] => 0
  | d :: r => uptoBulk d + uptoBulkAll r
def uptoBulkEntries {H : Type} : List (Lit × DataW H) → Nat
  | [] => 0
  | x :: r => uptoBulkEntry x + uptoBulkEntries r
def uptoBulkEntry {H : Type} : Lit × DataW H → Nat
  | (.string bytes, d) => bytes.length + uptoBulk d + 1
  | (_, d) => uptoBulk d + 1
 end
def uptoSmall : (H : Type) → List (DataW H) → Bool := fun _ ds => decide (uptoBulkAll ds ≤ 1048576)
def OpenSpec.upto (s : _root_.Go.ChangeSpec) : _root_.Go.OpenSpec := { _root_.Go.OpenSpec.ofChange s with cond := some uptoSmall }

/-- 'seneschallaw03.HmacSame', WHERE WHAT IT READS IS OF BULK AT MOST 1048576: true; the input reads as it did. -/
def hmacSameUptoRow : OpenClaim := { program := "ytdedfdfagidgdaa", sum := "ab060117322ed9f639fa3d7f8d75fd5582d6d8b861d03baa9d66c8faa2ea6b34", func := "seneschal/seneschallaw03.HmacSame", spec := "hmacSame", apart := false, narrowed := true }
def HmacSameUptoSaid : Prop := hmacSameUptoRow.holds Try.pinned (OpenSpec.upto hmacSameSpec)

/-- 'seneschallaw03.HmacSum', WHERE WHAT IT READS IS OF BULK AT MOST 1048576: true; the input reads as it did. -/
def hmacSumUptoRow : OpenClaim := { program := "ytdedfdfagidgdaa", sum := "ab060117322ed9f639fa3d7f8d75fd5582d6d8b861d03baa9d66c8faa2ea6b34", func := "seneschal/seneschallaw03.HmacSum", spec := "hmacSum", unfollowed := true, recurses := true, apart := false, narrowed := true }
def HmacSumUptoSaid : Prop := hmacSumUptoRow.holds Try.pinned (OpenSpec.upto hmacSumSpec)

/-- 'seneschallaw03.HmacDerive', WHERE WHAT IT READS IS OF BULK AT MOST 1048576: true; the input reads as it did. -/
def hmacDeriveUptoRow : OpenClaim := { program := "ytdedfdfagidgdaa", sum := "ab060117322ed9f639fa3d7f8d75fd5582d6d8b861d03baa9d66c8faa2ea6b34", func := "seneschal/seneschallaw03.HmacDerive", spec := "hmacDerive", unfollowed := true, recurses := true, apart := false, narrowed := true }
def HmacDeriveUptoSaid : Prop := hmacDeriveUptoRow.holds Try.pinned (OpenSpec.upto hmacDeriveSpec)

/-- 'seneschallaw03.HmacKeys', WHERE WHAT IT READS IS OF BULK AT MOST 1048576: true; the input reads as it did. -/
def hmacKeysUptoRow : OpenClaim := { program := "ytdedfdfagidgdaa", sum := "ab060117322ed9f639fa3d7f8d75fd5582d6d8b861d03baa9d66c8faa2ea6b34", func := "seneschal/seneschallaw03.HmacKeys", spec := "hmacKeys", unfollowed := true, recurses := true, apart := false, narrowed := true }
def HmacKeysUptoSaid : Prop := hmacKeysUptoRow.holds Try.pinned (OpenSpec.upto hmacKeysSpec)

/-- 'seneschallaw03.HmacTwice', WHERE WHAT IT READS IS OF BULK AT MOST 1048576: true; the input reads as it did. -/
def hmacTwiceUptoRow : OpenClaim := { program := "ytdedfdfagidgdaa", sum := "ab060117322ed9f639fa3d7f8d75fd5582d6d8b861d03baa9d66c8faa2ea6b34", func := "seneschal/seneschallaw03.HmacTwice", spec := "hmacTwice", unfollowed := true, recurses := true, apart := false, narrowed := true }
def HmacTwiceUptoSaid : Prop := hmacTwiceUptoRow.holds Try.pinned (OpenSpec.upto hmacTwiceSpec)

/-- 'seneschallaw03.HmacDerived', WHERE WHAT IT READS IS OF BULK AT MOST 1048576: true; the input reads as it did. -/
def hmacDerivedUptoRow : OpenClaim := { program := "ytdedfdfagidgdaa", sum := "ab060117322ed9f639fa3d7f8d75fd5582d6d8b861d03baa9d66c8faa2ea6b34", func := "seneschal/seneschallaw03.HmacDerived", spec := "hmacDerived", unfollowed := true, recurses := true, apart := false, narrowed := true }
def HmacDerivedUptoSaid : Prop := hmacDerivedUptoRow.holds Try.pinned (OpenSpec.upto hmacDerivedSpec)

/-- 'seneschallaw03.HmacUnlike', WHERE WHAT IT READS IS OF BULK AT MOST 1048576: true; the input reads as it did. -/
def hmacUnlikeUptoRow : OpenClaim := { program := "ytdedfdfagidgdaa", sum := "ab060117322ed9f639fa3d7f8d75fd5582d6d8b861d03baa9d66c8faa2ea6b34", func := "seneschal/seneschallaw03.HmacUnlike", spec := "hmacUnlike", unfollowed := true, recurses := true, apart := false, narrowed := true }
def HmacUnlikeUptoSaid : Prop := hmacUnlikeUptoRow.holds Try.pinned (OpenSpec.upto hmacUnlikeSpec)

end Rows
end Go.Proofs.Ytdedfdfagidgdaa
