/-
  No cell of these rows narrows 'for every input' (looked for: loops, veiled, ifaces, maps, wideKeys, modest, calm, conditions, laid).
  DERIVED. THE GIVEN ROWS OF THIS SEAT. 11 by the template 'for every input the law returns true; each argument reads behind the call as it read before'; 0 by the template 'total and deterministic' (their statements: YtihlfpolkhapcaaTotals.lean).
  GIVEN WITH THE SEED: the statements are not yours to turn. If you find one false, say at which input.
  Laid BY PROGRAM, IN A SANDBOX (cutbox-rows.mjs): the forced cells as the released guide's own fill.sh prints them over the translation 4864ae011f6e4902… (all of the seat's roots in one cut). By AI agents, Wed Nov 11 2026. No macro, syntax, notation, axiom, sorry.
-/
import Derived.Test.YtihlfpolkhapcaaChecked
import GoSem.Claim
import GoSem.ClaimJoined
import GoSem.ClaimMapViews
import Derived.JoinedTies
import Derived.KernelRfl
namespace Go.Proofs.Ytihlfpolkhapcaa
/- THE CELL 'sum', in the pinned program and in every row, IS THE sha256 OF THE DUMP (.gsa) THAT YtihlfpolkhapcaaProg.lean LOADS. Nothing in Lean hashes anything: it is a label: what it is worth is what the hold of that sum in a sandbox is worth. -/
noncomputable def Try.pinned : Pinned := { name := "ytihlfpolkhapcaa", sum := "4864ae011f6e4902f5fd5d69ac2720102e368301fc9fd06e553976b676447f84", checked := Try.checked }
namespace Rows
def none {H : Type} : Left H := { results := [], args := [] }

/-- 'seneschallaw05.FrameSeal': WHATEVER THE INPUT: true; the input reads as it did. -/
def frameSealSpec : ChangeSpec := { name := "frameSeal", fn := fun _ => fun
  | [d] => { results := [.lit (.bool true)], args := [d] }
  | _ => none }
def frameSealRow : OpenClaim := { program := "ytihlfpolkhapcaa", sum := "4864ae011f6e4902f5fd5d69ac2720102e368301fc9fd06e553976b676447f84", func := "seneschal/seneschallaw05.FrameSeal", spec := "frameSeal", unfollowed := true, recurses := true, apart := false }
def FrameSealSaid : Prop := frameSealRow.holds Try.pinned (OpenSpec.ofChange frameSealSpec)

/-- ITS FALSE NEIGHBOUR: 'it returns false'. Refute it at one input. -/
def frameSealWrong : ChangeSpec := { name := "frameSeal", fn := fun _ => fun
  | [d] => { results := [.lit (.bool false)], args := [d] }
  | _ => none }
def FrameSealWrongFalsely : Prop := frameSealRow.holds Try.pinned (OpenSpec.ofChange frameSealWrong)

/-- 'seneschallaw05.FrameLimits': WHATEVER THE INPUT: true; the input reads as it did. -/
def frameLimitsSpec : ChangeSpec := { name := "frameLimits", fn := fun _ => fun
  | [d] => { results := [.lit (.bool true)], args := [d] }
  | _ => none }
def frameLimitsRow : OpenClaim := { program := "ytihlfpolkhapcaa", sum := "4864ae011f6e4902f5fd5d69ac2720102e368301fc9fd06e553976b676447f84", func := "seneschal/seneschallaw05.FrameLimits", spec := "frameLimits", unfollowed := true, recurses := true, apart := false }
def FrameLimitsSaid : Prop := frameLimitsRow.holds Try.pinned (OpenSpec.ofChange frameLimitsSpec)

/-- ITS FALSE NEIGHBOUR: 'it returns false'. Refute it at one input. -/
def frameLimitsWrong : ChangeSpec := { name := "frameLimits", fn := fun _ => fun
  | [d] => { results := [.lit (.bool false)], args := [d] }
  | _ => none }
def FrameLimitsWrongFalsely : Prop := frameLimitsRow.holds Try.pinned (OpenSpec.ofChange frameLimitsWrong)

/-- 'seneschallaw05.FrameNext': WHATEVER THE INPUT: true; the input reads as it did. -/
def frameNextSpec : ChangeSpec := { name := "frameNext", fn := fun _ => fun
  | [d] => { results := [.lit (.bool true)], args := [d] }
  | _ => none }
def frameNextRow : OpenClaim := { program := "ytihlfpolkhapcaa", sum := "4864ae011f6e4902f5fd5d69ac2720102e368301fc9fd06e553976b676447f84", func := "seneschal/seneschallaw05.FrameNext", spec := "frameNext", unfollowed := true, recurses := true, apart := false }
def FrameNextSaid : Prop := frameNextRow.holds Try.pinned (OpenSpec.ofChange frameNextSpec)

/-- ITS FALSE NEIGHBOUR: 'it returns false'. Refute it at one input. -/
def frameNextWrong : ChangeSpec := { name := "frameNext", fn := fun _ => fun
  | [d] => { results := [.lit (.bool false)], args := [d] }
  | _ => none }
def FrameNextWrongFalsely : Prop := frameNextRow.holds Try.pinned (OpenSpec.ofChange frameNextWrong)

/-- 'seneschallaw05.FrameAll': WHATEVER THE INPUT: true; the input reads as it did. -/
def frameAllSpec : ChangeSpec := { name := "frameAll", fn := fun _ => fun
  | [d] => { results := [.lit (.bool true)], args := [d] }
  | _ => none }
def frameAllRow : OpenClaim := { program := "ytihlfpolkhapcaa", sum := "4864ae011f6e4902f5fd5d69ac2720102e368301fc9fd06e553976b676447f84", func := "seneschal/seneschallaw05.FrameAll", spec := "frameAll", unfollowed := true, recurses := true, apart := false }
def FrameAllSaid : Prop := frameAllRow.holds Try.pinned (OpenSpec.ofChange frameAllSpec)

/-- ITS FALSE NEIGHBOUR: 'it returns false'. Refute it at one input. -/
def frameAllWrong : ChangeSpec := { name := "frameAll", fn := fun _ => fun
  | [d] => { results := [.lit (.bool false)], args := [d] }
  | _ => none }
def FrameAllWrongFalsely : Prop := frameAllRow.holds Try.pinned (OpenSpec.ofChange frameAllWrong)

/-- 'seneschallaw05.FrameBack': WHATEVER THE INPUT: true; the input reads as it did. -/
def frameBackSpec : ChangeSpec := { name := "frameBack", fn := fun _ => fun
  | [d1, d2] => { results := [.lit (.bool true)], args := [d1, d2] }
  | _ => none }
def frameBackRow : OpenClaim := { program := "ytihlfpolkhapcaa", sum := "4864ae011f6e4902f5fd5d69ac2720102e368301fc9fd06e553976b676447f84", func := "seneschal/seneschallaw05.FrameBack", spec := "frameBack", unfollowed := true, recurses := true, apart := false }
def FrameBackSaid : Prop := frameBackRow.holds Try.pinned (OpenSpec.ofChange frameBackSpec)

/-- ITS FALSE NEIGHBOUR: 'it returns false'. Refute it at one input. -/
def frameBackWrong : ChangeSpec := { name := "frameBack", fn := fun _ => fun
  | [d1, d2] => { results := [.lit (.bool false)], args := [d1, d2] }
  | _ => none }
def FrameBackWrongFalsely : Prop := frameBackRow.holds Try.pinned (OpenSpec.ofChange frameBackWrong)

/-- 'seneschallaw05.FrameBehind': WHATEVER THE INPUT: true; the input reads as it did. -/
def frameBehindSpec : ChangeSpec := { name := "frameBehind", fn := fun _ => fun
  | [d1, d2] => { results := [.lit (.bool true)], args := [d1, d2] }
  | _ => none }
def frameBehindRow : OpenClaim := { program := "ytihlfpolkhapcaa", sum := "4864ae011f6e4902f5fd5d69ac2720102e368301fc9fd06e553976b676447f84", func := "seneschal/seneschallaw05.FrameBehind", spec := "frameBehind", unfollowed := true, recurses := true, apart := false }
def FrameBehindSaid : Prop := frameBehindRow.holds Try.pinned (OpenSpec.ofChange frameBehindSpec)

/-- ITS FALSE NEIGHBOUR: 'it returns false'. Refute it at one input. -/
def frameBehindWrong : ChangeSpec := { name := "frameBehind", fn := fun _ => fun
  | [d1, d2] => { results := [.lit (.bool false)], args := [d1, d2] }
  | _ => none }
def FrameBehindWrongFalsely : Prop := frameBehindRow.holds Try.pinned (OpenSpec.ofChange frameBehindWrong)

/-- 'seneschallaw07.WalAdds': WHATEVER THE INPUT: true; the input reads as it did. -/
def walAddsSpec : ChangeSpec := { name := "walAdds", fn := fun _ => fun
  | [d1, d2] => { results := [.lit (.bool true)], args := [d1, d2] }
  | _ => none }
def walAddsRow : OpenClaim := { program := "ytihlfpolkhapcaa", sum := "4864ae011f6e4902f5fd5d69ac2720102e368301fc9fd06e553976b676447f84", func := "seneschal/seneschallaw07.WalAdds", spec := "walAdds", inPlace := ["internal/bytealg.MakeNoZero"], unfollowed := true, recurses := true, apart := false }
def WalAddsSaid : Prop := walAddsRow.holds Try.pinned (OpenSpec.ofChange walAddsSpec)

/-- ITS FALSE NEIGHBOUR: 'it returns false'. Refute it at one input. -/
def walAddsWrong : ChangeSpec := { name := "walAdds", fn := fun _ => fun
  | [d1, d2] => { results := [.lit (.bool false)], args := [d1, d2] }
  | _ => none }
def WalAddsWrongFalsely : Prop := walAddsRow.holds Try.pinned (OpenSpec.ofChange walAddsWrong)

/-- 'seneschallaw07.WalTorn': WHATEVER THE INPUT: true; the input reads as it did. -/
def walTornSpec : ChangeSpec := { name := "walTorn", fn := fun _ => fun
  | [d1, d2] => { results := [.lit (.bool true)], args := [d1, d2] }
  | _ => none }
def walTornRow : OpenClaim := { program := "ytihlfpolkhapcaa", sum := "4864ae011f6e4902f5fd5d69ac2720102e368301fc9fd06e553976b676447f84", func := "seneschal/seneschallaw07.WalTorn", spec := "walTorn", inPlace := ["internal/bytealg.MakeNoZero"], unfollowed := true, recurses := true, apart := false }
def WalTornSaid : Prop := walTornRow.holds Try.pinned (OpenSpec.ofChange walTornSpec)

/-- ITS FALSE NEIGHBOUR: 'it returns false'. Refute it at one input. -/
def walTornWrong : ChangeSpec := { name := "walTorn", fn := fun _ => fun
  | [d1, d2] => { results := [.lit (.bool false)], args := [d1, d2] }
  | _ => none }
def WalTornWrongFalsely : Prop := walTornRow.holds Try.pinned (OpenSpec.ofChange walTornWrong)

/-- 'seneschallaw07.WalNil': WHATEVER THE INPUT: true; the input reads as it did. -/
def walNilSpec : ChangeSpec := { name := "walNil", fn := fun _ => fun
  | [d] => { results := [.lit (.bool true)], args := [d] }
  | _ => none }
def walNilRow : OpenClaim := { program := "ytihlfpolkhapcaa", sum := "4864ae011f6e4902f5fd5d69ac2720102e368301fc9fd06e553976b676447f84", func := "seneschal/seneschallaw07.WalNil", spec := "walNil", inPlace := ["internal/bytealg.MakeNoZero"], unfollowed := true, recurses := true, apart := false }
def WalNilSaid : Prop := walNilRow.holds Try.pinned (OpenSpec.ofChange walNilSpec)

/-- ITS FALSE NEIGHBOUR: 'it returns false'. Refute it at one input. -/
def walNilWrong : ChangeSpec := { name := "walNil", fn := fun _ => fun
  | [d] => { results := [.lit (.bool false)], args := [d] }
  | _ => none }
def WalNilWrongFalsely : Prop := walNilRow.holds Try.pinned (OpenSpec.ofChange walNilWrong)

/-- 'seneschallaw07.WalPlays': WHATEVER THE INPUT: true; the input reads as it did. -/
def walPlaysSpec : ChangeSpec := { name := "walPlays", fn := fun _ => fun
  | [d] => { results := [.lit (.bool true)], args := [d] }
  | _ => none }
def walPlaysRow : OpenClaim := { program := "ytihlfpolkhapcaa", sum := "4864ae011f6e4902f5fd5d69ac2720102e368301fc9fd06e553976b676447f84", func := "seneschal/seneschallaw07.WalPlays", spec := "walPlays", inPlace := ["internal/bytealg.MakeNoZero"], unfollowed := true, recurses := true, apart := false }
def WalPlaysSaid : Prop := walPlaysRow.holds Try.pinned (OpenSpec.ofChange walPlaysSpec)

/-- ITS FALSE NEIGHBOUR: 'it returns false'. Refute it at one input. -/
def walPlaysWrong : ChangeSpec := { name := "walPlays", fn := fun _ => fun
  | [d] => { results := [.lit (.bool false)], args := [d] }
  | _ => none }
def WalPlaysWrongFalsely : Prop := walPlaysRow.holds Try.pinned (OpenSpec.ofChange walPlaysWrong)

/-- 'seneschallaw07.WalBegins': WHATEVER THE INPUT: true; the input reads as it did. -/
def walBeginsSpec : ChangeSpec := { name := "walBegins", fn := fun _ => fun
  | [d1, d2, d3, d4, d5] => { results := [.lit (.bool true)], args := [d1, d2, d3, d4, d5] }
  | _ => none }
def walBeginsRow : OpenClaim := { program := "ytihlfpolkhapcaa", sum := "4864ae011f6e4902f5fd5d69ac2720102e368301fc9fd06e553976b676447f84", func := "seneschal/seneschallaw07.WalBegins", spec := "walBegins", inPlace := ["internal/bytealg.MakeNoZero"], unfollowed := true, recurses := true, apart := false }
def WalBeginsSaid : Prop := walBeginsRow.holds Try.pinned (OpenSpec.ofChange walBeginsSpec)

/-- ITS FALSE NEIGHBOUR: 'it returns false'. Refute it at one input. -/
def walBeginsWrong : ChangeSpec := { name := "walBegins", fn := fun _ => fun
  | [d1, d2, d3, d4, d5] => { results := [.lit (.bool false)], args := [d1, d2, d3, d4, d5] }
  | _ => none }
def WalBeginsWrongFalsely : Prop := walBeginsRow.holds Try.pinned (OpenSpec.ofChange walBeginsWrong)

/- THE SECOND FORM. 'bulk': how many values and letters a reading holds, each counted each time it is reached (what is shared counts as often as it is met; a slice's spare places count too). A statement '..UptoSaid' is the law's where the arguments, and the package variables that the reading takes, are together of bulk at most 1048576: NARROWER than '..Said'. Prove '..Said' where nothing that the law and all that it calls make is longer than what came in: it says more and counts as full. Else prove '..UptoSaid'. A law counts once. -/
mutual
def uptoBulk {H : Type} : DataW H → Nat
  | .lit (.string bytes) => bytes.length + 1
  | .lit _ => 1
  | .nil => 1
  | .ptr d => uptoBulk d + 1
  | .slice elems spare => uptoBulkAll elems + uptoBulkAll spare + 1
  | .agg parts => uptoBulkAll parts + 1
  | .iface _ d => uptoBulk d + 1
  | .map entries => uptoBulkEntries entries + 1
  | .held _ => 1
def uptoBulkAll {H : Type} : List (DataW H) → Nat
  | [] => 0
  | d :: r => uptoBulk d + uptoBulkAll r
def uptoBulkEntries {H : Type} : List (Lit × DataW H) → Nat
  | [] => 0
  | x :: r => uptoBulkEntry x + uptoBulkEntries r
def uptoBulkEntry {H : Type} : Lit × DataW H → Nat
  | (.string bytes, d) => bytes.length + uptoBulk d + 1
  | (_, d) => uptoBulk d + 1
 end
def uptoSmall : (H : Type) → List (DataW H) → Bool := fun _ ds => decide (uptoBulkAll ds ≤ 1048576)
def OpenSpec.upto (s : _root_.Go.ChangeSpec) : _root_.Go.OpenSpec := { _root_.Go.OpenSpec.ofChange s with cond := some uptoSmall }

/-- 'seneschallaw05.FrameSeal', WHERE WHAT IT READS IS OF BULK AT MOST 1048576: true; the input reads as it did. -/
def frameSealUptoRow : OpenClaim := { program := "ytihlfpolkhapcaa", sum := "4864ae011f6e4902f5fd5d69ac2720102e368301fc9fd06e553976b676447f84", func := "seneschal/seneschallaw05.FrameSeal", spec := "frameSeal", unfollowed := true, recurses := true, apart := false, narrowed := true }
def FrameSealUptoSaid : Prop := frameSealUptoRow.holds Try.pinned (OpenSpec.upto frameSealSpec)

/-- 'seneschallaw05.FrameLimits', WHERE WHAT IT READS IS OF BULK AT MOST 1048576: true; the input reads as it did. -/
def frameLimitsUptoRow : OpenClaim := { program := "ytihlfpolkhapcaa", sum := "4864ae011f6e4902f5fd5d69ac2720102e368301fc9fd06e553976b676447f84", func := "seneschal/seneschallaw05.FrameLimits", spec := "frameLimits", unfollowed := true, recurses := true, apart := false, narrowed := true }
def FrameLimitsUptoSaid : Prop := frameLimitsUptoRow.holds Try.pinned (OpenSpec.upto frameLimitsSpec)

/-- 'seneschallaw05.FrameNext', WHERE WHAT IT READS IS OF BULK AT MOST 1048576: true; the input reads as it did. -/
def frameNextUptoRow : OpenClaim := { program := "ytihlfpolkhapcaa", sum := "4864ae011f6e4902f5fd5d69ac2720102e368301fc9fd06e553976b676447f84", func := "seneschal/seneschallaw05.FrameNext", spec := "frameNext", unfollowed := true, recurses := true, apart := false, narrowed := true }
def FrameNextUptoSaid : Prop := frameNextUptoRow.holds Try.pinned (OpenSpec.upto frameNextSpec)

/-- 'seneschallaw05.FrameAll', WHERE WHAT IT READS IS OF BULK AT MOST 1048576: true; the input reads as it did. -/
def frameAllUptoRow : OpenClaim := { program := "ytihlfpolkhapcaa", sum := "4864ae011f6e4902f5fd5d69ac2720102e368301fc9fd06e553976b676447f84", func := "seneschal/seneschallaw05.FrameAll", spec := "frameAll", unfollowed := true, recurses := true, apart := false, narrowed := true }
def FrameAllUptoSaid : Prop := frameAllUptoRow.holds Try.pinned (OpenSpec.upto frameAllSpec)

/-- 'seneschallaw05.FrameBack', WHERE WHAT IT READS IS OF BULK AT MOST 1048576: true; the input reads as it did. -/
def frameBackUptoRow : OpenClaim := { program := "ytihlfpolkhapcaa", sum := "4864ae011f6e4902f5fd5d69ac2720102e368301fc9fd06e553976b676447f84", func := "seneschal/seneschallaw05.FrameBack", spec := "frameBack", unfollowed := true, recurses := true, apart := false, narrowed := true }
def FrameBackUptoSaid : Prop := frameBackUptoRow.holds Try.pinned (OpenSpec.upto frameBackSpec)

/-- 'seneschallaw05.FrameBehind', WHERE WHAT IT READS IS OF BULK AT MOST 1048576: true; the input reads as it did. -/
def frameBehindUptoRow : OpenClaim := { program := "ytihlfpolkhapcaa", sum := "4864ae011f6e4902f5fd5d69ac2720102e368301fc9fd06e553976b676447f84", func := "seneschal/seneschallaw05.FrameBehind", spec := "frameBehind", unfollowed := true, recurses := true, apart := false, narrowed := true }
def FrameBehindUptoSaid : Prop := frameBehindUptoRow.holds Try.pinned (OpenSpec.upto frameBehindSpec)

/-- 'seneschallaw07.WalAdds', WHERE WHAT IT READS IS OF BULK AT MOST 1048576: true; the input reads as it did. -/
def walAddsUptoRow : OpenClaim := { program := "ytihlfpolkhapcaa", sum := "4864ae011f6e4902f5fd5d69ac2720102e368301fc9fd06e553976b676447f84", func := "seneschal/seneschallaw07.WalAdds", spec := "walAdds", inPlace := ["internal/bytealg.MakeNoZero"], unfollowed := true, recurses := true, apart := false, narrowed := true }
def WalAddsUptoSaid : Prop := walAddsUptoRow.holds Try.pinned (OpenSpec.upto walAddsSpec)

/-- 'seneschallaw07.WalTorn', WHERE WHAT IT READS IS OF BULK AT MOST 1048576: true; the input reads as it did. -/
def walTornUptoRow : OpenClaim := { program := "ytihlfpolkhapcaa", sum := "4864ae011f6e4902f5fd5d69ac2720102e368301fc9fd06e553976b676447f84", func := "seneschal/seneschallaw07.WalTorn", spec := "walTorn", inPlace := ["internal/bytealg.MakeNoZero"], unfollowed := true, recurses := true, apart := false, narrowed := true }
def WalTornUptoSaid : Prop := walTornUptoRow.holds Try.pinned (OpenSpec.upto walTornSpec)

/-- 'seneschallaw07.WalNil', WHERE WHAT IT READS IS OF BULK AT MOST 1048576: true; the input reads as it did. -/
def walNilUptoRow : OpenClaim := { program := "ytihlfpolkhapcaa", sum := "4864ae011f6e4902f5fd5d69ac2720102e368301fc9fd06e553976b676447f84", func := "seneschal/seneschallaw07.WalNil", spec := "walNil", inPlace := ["internal/bytealg.MakeNoZero"], unfollowed := true, recurses := true, apart := false, narrowed := true }
def WalNilUptoSaid : Prop := walNilUptoRow.holds Try.pinned (OpenSpec.upto walNilSpec)

/-- 'seneschallaw07.WalPlays', WHERE WHAT IT READS IS OF BULK AT MOST 1048576: true; the input reads as it did. -/
def walPlaysUptoRow : OpenClaim := { program := "ytihlfpolkhapcaa", sum := "4864ae011f6e4902f5fd5d69ac2720102e368301fc9fd06e553976b676447f84", func := "seneschal/seneschallaw07.WalPlays", spec := "walPlays", inPlace := ["internal/bytealg.MakeNoZero"], unfollowed := true, recurses := true, apart := false, narrowed := true }
def WalPlaysUptoSaid : Prop := walPlaysUptoRow.holds Try.pinned (OpenSpec.upto walPlaysSpec)

/-- 'seneschallaw07.WalBegins', WHERE WHAT IT READS IS OF BULK AT MOST 1048576: true; the input reads as it did. -/
def walBeginsUptoRow : OpenClaim := { program := "ytihlfpolkhapcaa", sum := "4864ae011f6e4902f5fd5d69ac2720102e368301fc9fd06e553976b676447f84", func := "seneschal/seneschallaw07.WalBegins", spec := "walBegins", inPlace := ["internal/bytealg.MakeNoZero"], unfollowed := true, recurses := true, apart := false, narrowed := true }
def WalBeginsUptoSaid : Prop := walBeginsUptoRow.holds Try.pinned (OpenSpec.upto walBeginsSpec)

end Rows
end Go.Proofs.Ytihlfpolkhapcaa
