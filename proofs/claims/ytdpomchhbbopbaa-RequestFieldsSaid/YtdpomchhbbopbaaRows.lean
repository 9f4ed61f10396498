/-
  No cell of these rows narrows 'for every input' (looked for: loops, veiled, ifaces, maps, wideKeys, modest, calm, conditions, laid).
  DERIVED. THE GIVEN ROWS OF THIS SEAT. 13 by the template 'for every input the law returns true; each argument reads behind the call as it read before'; 0 by the template 'total and deterministic' (their statements: YtdpomchhbbopbaaTotals.lean).
  GIVEN WITH THE SEED: the statements are not yours to turn. If you find one false, say at which input.
  Laid BY PROGRAM, IN A SANDBOX (cutbox-rows.mjs): the forced cells as the released guide's own fill.sh prints them over the translation 5897464b1ec2e5fb… (all of the seat's roots in one cut). By AI agents, Wed Nov 11 2026. No macro, syntax, notation, axiom, sorry.
-/
import Derived.Test.YtdpomchhbbopbaaChecked
import GoSem.Claim
import GoSem.ClaimJoined
import GoSem.ClaimMapViews
import Derived.JoinedTies
import Derived.KernelRfl
namespace Go.Proofs.Ytdpomchhbbopbaa
/- THE CELL 'sum', in the pinned program and in every row, IS THE sha256 OF THE DUMP (.gsa) THAT YtdpomchhbbopbaaProg.lean LOADS. Nothing in Lean hashes anything: it is a label: what it is worth is what the hold of that sum in a sandbox is worth. -/
noncomputable def Try.pinned : Pinned := { name := "ytdpomchhbbopbaa", sum := "5897464b1ec2e5fbec84799dd2c5dadb6bf2e310948c8a1fdb5c5181ccb81cae", checked := Try.checked }
namespace Rows
def none {H : Type} : Left H := { results := [], args := [] }

/-- 'seneschallaw15.RequestReply': WHATEVER THE INPUT: true; the input reads as it did. -/
def requestReplySpec : ChangeSpec := { name := "requestReply", fn := fun _ => fun
  | [d] => { results := [.lit (.bool true)], args := [d] }
  | _ => none }
def requestReplyRow : OpenClaim := { program := "ytdpomchhbbopbaa", sum := "5897464b1ec2e5fbec84799dd2c5dadb6bf2e310948c8a1fdb5c5181ccb81cae", func := "seneschal/seneschallaw15.RequestReply", spec := "requestReply", unfollowed := true, recurses := true, apart := false }
def RequestReplySaid : Prop := requestReplyRow.holds Try.pinned (OpenSpec.ofChange requestReplySpec)

/-- ITS FALSE NEIGHBOUR: 'it returns false'. Refute it at one input. -/
def requestReplyWrong : ChangeSpec := { name := "requestReply", fn := fun _ => fun
  | [d] => { results := [.lit (.bool false)], args := [d] }
  | _ => none }
def RequestReplyWrongFalsely : Prop := requestReplyRow.holds Try.pinned (OpenSpec.ofChange requestReplyWrong)

/-- 'seneschallaw15.RequestPrint': WHATEVER THE INPUT: true; the input reads as it did. -/
def requestPrintSpec : ChangeSpec := { name := "requestPrint", fn := fun _ => fun
  | [d] => { results := [.lit (.bool true)], args := [d] }
  | _ => none }
def requestPrintRow : OpenClaim := { program := "ytdpomchhbbopbaa", sum := "5897464b1ec2e5fbec84799dd2c5dadb6bf2e310948c8a1fdb5c5181ccb81cae", func := "seneschal/seneschallaw15.RequestPrint", spec := "requestPrint", unfollowed := true, recurses := true, apart := false }
def RequestPrintSaid : Prop := requestPrintRow.holds Try.pinned (OpenSpec.ofChange requestPrintSpec)

/-- ITS FALSE NEIGHBOUR: 'it returns false'. Refute it at one input. -/
def requestPrintWrong : ChangeSpec := { name := "requestPrint", fn := fun _ => fun
  | [d] => { results := [.lit (.bool false)], args := [d] }
  | _ => none }
def RequestPrintWrongFalsely : Prop := requestPrintRow.holds Try.pinned (OpenSpec.ofChange requestPrintWrong)

/-- 'seneschallaw15.RequestReplies': WHATEVER THE INPUT: true; the input reads as it did. -/
def requestRepliesSpec : ChangeSpec := { name := "requestReplies", fn := fun _ => fun
  | [d] => { results := [.lit (.bool true)], args := [d] }
  | _ => none }
def requestRepliesRow : OpenClaim := { program := "ytdpomchhbbopbaa", sum := "5897464b1ec2e5fbec84799dd2c5dadb6bf2e310948c8a1fdb5c5181ccb81cae", func := "seneschal/seneschallaw15.RequestReplies", spec := "requestReplies", unfollowed := true, recurses := true, apart := false }
def RequestRepliesSaid : Prop := requestRepliesRow.holds Try.pinned (OpenSpec.ofChange requestRepliesSpec)

/-- ITS FALSE NEIGHBOUR: 'it returns false'. Refute it at one input. -/
def requestRepliesWrong : ChangeSpec := { name := "requestReplies", fn := fun _ => fun
  | [d] => { results := [.lit (.bool false)], args := [d] }
  | _ => none }
def RequestRepliesWrongFalsely : Prop := requestRepliesRow.holds Try.pinned (OpenSpec.ofChange requestRepliesWrong)

/-- 'seneschallaw04.WireNil': WHATEVER THE INPUT: true; the input reads as it did. -/
def wireNilSpec : ChangeSpec := { name := "wireNil", fn := fun _ => fun
  | [d] => { results := [.lit (.bool true)], args := [d] }
  | _ => none }
def wireNilRow : OpenClaim := { program := "ytdpomchhbbopbaa", sum := "5897464b1ec2e5fbec84799dd2c5dadb6bf2e310948c8a1fdb5c5181ccb81cae", func := "seneschal/seneschallaw04.WireNil", spec := "wireNil", unfollowed := true, recurses := true, apart := false }
def WireNilSaid : Prop := wireNilRow.holds Try.pinned (OpenSpec.ofChange wireNilSpec)

/-- ITS FALSE NEIGHBOUR: 'it returns false'. Refute it at one input. -/
def wireNilWrong : ChangeSpec := { name := "wireNil", fn := fun _ => fun
  | [d] => { results := [.lit (.bool false)], args := [d] }
  | _ => none }
def WireNilWrongFalsely : Prop := wireNilRow.holds Try.pinned (OpenSpec.ofChange wireNilWrong)

/-- 'seneschallaw15.RequestParse': WHATEVER THE INPUT: true; the input reads as it did. -/
def requestParseSpec : ChangeSpec := { name := "requestParse", fn := fun _ => fun
  | [d] => { results := [.lit (.bool true)], args := [d] }
  | _ => none }
def requestParseRow : OpenClaim := { program := "ytdpomchhbbopbaa", sum := "5897464b1ec2e5fbec84799dd2c5dadb6bf2e310948c8a1fdb5c5181ccb81cae", func := "seneschal/seneschallaw15.RequestParse", spec := "requestParse", unfollowed := true, recurses := true, apart := false }
def RequestParseSaid : Prop := requestParseRow.holds Try.pinned (OpenSpec.ofChange requestParseSpec)

/-- ITS FALSE NEIGHBOUR: 'it returns false'. Refute it at one input. -/
def requestParseWrong : ChangeSpec := { name := "requestParse", fn := fun _ => fun
  | [d] => { results := [.lit (.bool false)], args := [d] }
  | _ => none }
def RequestParseWrongFalsely : Prop := requestParseRow.holds Try.pinned (OpenSpec.ofChange requestParseWrong)

/-- 'seneschallaw04.WireCount': WHATEVER THE INPUT: true; the input reads as it did. -/
def wireCountSpec : ChangeSpec := { name := "wireCount", fn := fun _ => fun
  | [d1, d2, d3] => { results := [.lit (.bool true)], args := [d1, d2, d3] }
  | _ => none }
def wireCountRow : OpenClaim := { program := "ytdpomchhbbopbaa", sum := "5897464b1ec2e5fbec84799dd2c5dadb6bf2e310948c8a1fdb5c5181ccb81cae", func := "seneschal/seneschallaw04.WireCount", spec := "wireCount", unfollowed := true, recurses := true, apart := false }
def WireCountSaid : Prop := wireCountRow.holds Try.pinned (OpenSpec.ofChange wireCountSpec)

/-- ITS FALSE NEIGHBOUR: 'it returns false'. Refute it at one input. -/
def wireCountWrong : ChangeSpec := { name := "wireCount", fn := fun _ => fun
  | [d1, d2, d3] => { results := [.lit (.bool false)], args := [d1, d2, d3] }
  | _ => none }
def WireCountWrongFalsely : Prop := wireCountRow.holds Try.pinned (OpenSpec.ofChange wireCountWrong)

/-- 'seneschallaw04.WireBack': WHATEVER THE INPUT: true; the input reads as it did. -/
def wireBackSpec : ChangeSpec := { name := "wireBack", fn := fun _ => fun
  | [d1, d2] => { results := [.lit (.bool true)], args := [d1, d2] }
  | _ => none }
def wireBackRow : OpenClaim := { program := "ytdpomchhbbopbaa", sum := "5897464b1ec2e5fbec84799dd2c5dadb6bf2e310948c8a1fdb5c5181ccb81cae", func := "seneschal/seneschallaw04.WireBack", spec := "wireBack", unfollowed := true, recurses := true, apart := false }
def WireBackSaid : Prop := wireBackRow.holds Try.pinned (OpenSpec.ofChange wireBackSpec)

/-- ITS FALSE NEIGHBOUR: 'it returns false'. Refute it at one input. -/
def wireBackWrong : ChangeSpec := { name := "wireBack", fn := fun _ => fun
  | [d1, d2] => { results := [.lit (.bool false)], args := [d1, d2] }
  | _ => none }
def WireBackWrongFalsely : Prop := wireBackRow.holds Try.pinned (OpenSpec.ofChange wireBackWrong)

/-- 'seneschallaw04.WireAgain': WHATEVER THE INPUT: true; the input reads as it did. -/
def wireAgainSpec : ChangeSpec := { name := "wireAgain", fn := fun _ => fun
  | [d1, d2] => { results := [.lit (.bool true)], args := [d1, d2] }
  | _ => none }
def wireAgainRow : OpenClaim := { program := "ytdpomchhbbopbaa", sum := "5897464b1ec2e5fbec84799dd2c5dadb6bf2e310948c8a1fdb5c5181ccb81cae", func := "seneschal/seneschallaw04.WireAgain", spec := "wireAgain", unfollowed := true, recurses := true, apart := false }
def WireAgainSaid : Prop := wireAgainRow.holds Try.pinned (OpenSpec.ofChange wireAgainSpec)

/-- ITS FALSE NEIGHBOUR: 'it returns false'. Refute it at one input. -/
def wireAgainWrong : ChangeSpec := { name := "wireAgain", fn := fun _ => fun
  | [d1, d2] => { results := [.lit (.bool false)], args := [d1, d2] }
  | _ => none }
def WireAgainWrongFalsely : Prop := wireAgainRow.holds Try.pinned (OpenSpec.ofChange wireAgainWrong)

/-- 'seneschallaw04.WireBad': WHATEVER THE INPUT: true; the input reads as it did. -/
def wireBadSpec : ChangeSpec := { name := "wireBad", fn := fun _ => fun
  | [d1, d2, d3] => { results := [.lit (.bool true)], args := [d1, d2, d3] }
  | _ => none }
def wireBadRow : OpenClaim := { program := "ytdpomchhbbopbaa", sum := "5897464b1ec2e5fbec84799dd2c5dadb6bf2e310948c8a1fdb5c5181ccb81cae", func := "seneschal/seneschallaw04.WireBad", spec := "wireBad", unfollowed := true, recurses := true, apart := false }
def WireBadSaid : Prop := wireBadRow.holds Try.pinned (OpenSpec.ofChange wireBadSpec)

/-- ITS FALSE NEIGHBOUR: 'it returns false'. Refute it at one input. -/
def wireBadWrong : ChangeSpec := { name := "wireBad", fn := fun _ => fun
  | [d1, d2, d3] => { results := [.lit (.bool false)], args := [d1, d2, d3] }
  | _ => none }
def WireBadWrongFalsely : Prop := wireBadRow.holds Try.pinned (OpenSpec.ofChange wireBadWrong)

/-- 'seneschallaw15.RequestCut': WHATEVER THE INPUT: true; the input reads as it did. -/
def requestCutSpec : ChangeSpec := { name := "requestCut", fn := fun _ => fun
  | [d1, d2, d3] => { results := [.lit (.bool true)], args := [d1, d2, d3] }
  | _ => none }
def requestCutRow : OpenClaim := { program := "ytdpomchhbbopbaa", sum := "5897464b1ec2e5fbec84799dd2c5dadb6bf2e310948c8a1fdb5c5181ccb81cae", func := "seneschal/seneschallaw15.RequestCut", spec := "requestCut", unfollowed := true, recurses := true, apart := false }
def RequestCutSaid : Prop := requestCutRow.holds Try.pinned (OpenSpec.ofChange requestCutSpec)

/-- ITS FALSE NEIGHBOUR: 'it returns false'. Refute it at one input. -/
def requestCutWrong : ChangeSpec := { name := "requestCut", fn := fun _ => fun
  | [d1, d2, d3] => { results := [.lit (.bool false)], args := [d1, d2, d3] }
  | _ => none }
def RequestCutWrongFalsely : Prop := requestCutRow.holds Try.pinned (OpenSpec.ofChange requestCutWrong)

/-- 'seneschallaw15.RequestFields': WHATEVER THE INPUT: true; the input reads as it did. -/
def requestFieldsSpec : ChangeSpec := { name := "requestFields", fn := fun _ => fun
  | [d1, d2] => { results := [.lit (.bool true)], args := [d1, d2] }
  | _ => none }
def requestFieldsRow : OpenClaim := { program := "ytdpomchhbbopbaa", sum := "5897464b1ec2e5fbec84799dd2c5dadb6bf2e310948c8a1fdb5c5181ccb81cae", func := "seneschal/seneschallaw15.RequestFields", spec := "requestFields", unfollowed := true, recurses := true, apart := false }
def RequestFieldsSaid : Prop := requestFieldsRow.holds Try.pinned (OpenSpec.ofChange requestFieldsSpec)

/-- ITS FALSE NEIGHBOUR: 'it returns false'. Refute it at one input. -/
def requestFieldsWrong : ChangeSpec := { name := "requestFields", fn := fun _ => fun
  | [d1, d2] => { results := [.lit (.bool false)], args := [d1, d2] }
  | _ => none }
def RequestFieldsWrongFalsely : Prop := requestFieldsRow.holds Try.pinned (OpenSpec.ofChange requestFieldsWrong)

/-- 'seneschallaw15.RequestBack': WHATEVER THE INPUT: true; the input reads as it did. -/
def requestBackSpec : ChangeSpec := { name := "requestBack", fn := fun _ => fun
  | [d1, d2] => { results := [.lit (.bool true)], args := [d1, d2] }
  | _ => none }
def requestBackRow : OpenClaim := { program := "ytdpomchhbbopbaa", sum := "5897464b1ec2e5fbec84799dd2c5dadb6bf2e310948c8a1fdb5c5181ccb81cae", func := "seneschal/seneschallaw15.RequestBack", spec := "requestBack", unfollowed := true, recurses := true, apart := false }
def RequestBackSaid : Prop := requestBackRow.holds Try.pinned (OpenSpec.ofChange requestBackSpec)

/-- ITS FALSE NEIGHBOUR: 'it returns false'. Refute it at one input. -/
def requestBackWrong : ChangeSpec := { name := "requestBack", fn := fun _ => fun
  | [d1, d2] => { results := [.lit (.bool false)], args := [d1, d2] }
  | _ => none }
def RequestBackWrongFalsely : Prop := requestBackRow.holds Try.pinned (OpenSpec.ofChange requestBackWrong)

/-- 'seneschallaw15.RequestReplied': WHATEVER THE INPUT: true; the input reads as it did. -/
def requestRepliedSpec : ChangeSpec := { name := "requestReplied", fn := fun _ => fun
  | [d1, d2, d3] => { results := [.lit (.bool true)], args := [d1, d2, d3] }
  | _ => none }
def requestRepliedRow : OpenClaim := { program := "ytdpomchhbbopbaa", sum := "5897464b1ec2e5fbec84799dd2c5dadb6bf2e310948c8a1fdb5c5181ccb81cae", func := "seneschal/seneschallaw15.RequestReplied", spec := "requestReplied", unfollowed := true, recurses := true, apart := false }
def RequestRepliedSaid : Prop := requestRepliedRow.holds Try.pinned (OpenSpec.ofChange requestRepliedSpec)

/-- ITS FALSE NEIGHBOUR: 'it returns false'. Refute it at one input. -/
def requestRepliedWrong : ChangeSpec := { name := "requestReplied", fn := fun _ => fun
  | [d1, d2, d3] => { results := [.lit (.bool false)], args := [d1, d2, d3] }
  | _ => none }
def RequestRepliedWrongFalsely : Prop := requestRepliedRow.holds Try.pinned (OpenSpec.ofChange requestRepliedWrong)

/- THE SECOND FORM. 'bulk': how many values and letters a reading holds, each counted each time it is reached (what is shared counts as often as it is met; a slice's spare places count too). A statement '..UptoSaid' is the law's where the arguments, and the package variables that the reading takes, are together of bulk at most 1048576: NARROWER than '..Said'. Prove '..Said' where nothing that the law and all that it calls make is longer than what came in: it says more and counts as full. Else prove '..UptoSaid'. A law counts once. -/
mutual
def uptoBulk {H : Type} : DataW H → Nat
  | .lit (.string bytes) => bytes.length + 1
  | .lit _ => 1
  | .nil => 1
  | .ptr d => uptoBulk d + 1
  | .slice elems spare => uptoBulkAll elems + uptoBulkAll spare + 1
  | .agg parts => uptoBulkAll parts + 1
  | .iface _ d => uptoBulk d + 1
  | .map entries => uptoBulkEntries entries + 1
  | .held _ => 1
def uptoBulkAll {H : Type} : List (DataW H) → Nat
  | [] => 0
  | d :: r => uptoBulk d + uptoBulkAll r
def uptoBulkEntries {H : Type} : List (Lit × DataW H) → Nat
  | [] => 0
  | x :: r => uptoBulkEntry x + uptoBulkEntries r
def uptoBulkEntry {H : Type} : Lit × DataW H → Nat
  | (.string bytes, d) => bytes.length + uptoBulk d + 1
  | (_, d) => uptoBulk d + 1
 end
def uptoSmall : (H : Type) → List (DataW H) → Bool := fun _ ds => decide (uptoBulkAll ds ≤ 1048576)
def OpenSpec.upto (s : _root_.Go.ChangeSpec) : _root_.Go.OpenSpec := { _root_.Go.OpenSpec.ofChange s with cond := some uptoSmall }

/-- 'seneschallaw15.RequestReply', WHERE WHAT IT READS IS OF BULK AT MOST 1048576: true; the input reads as it did. -/
def requestReplyUptoRow : OpenClaim := { program := "ytdpomchhbbopbaa", sum := "5897464b1ec2e5fbec84799dd2c5dadb6bf2e310948c8a1fdb5c5181ccb81cae", func := "seneschal/seneschallaw15.RequestReply", spec := "requestReply", unfollowed := true, recurses := true, apart := false, narrowed := true }
def RequestReplyUptoSaid : Prop := requestReplyUptoRow.holds Try.pinned (OpenSpec.upto requestReplySpec)

/-- 'seneschallaw15.RequestPrint', WHERE WHAT IT READS IS OF BULK AT MOST 1048576: true; the input reads as it did. -/
def requestPrintUptoRow : OpenClaim := { program := "ytdpomchhbbopbaa", sum := "5897464b1ec2e5fbec84799dd2c5dadb6bf2e310948c8a1fdb5c5181ccb81cae", func := "seneschal/seneschallaw15.RequestPrint", spec := "requestPrint", unfollowed := true, recurses := true, apart := false, narrowed := true }
def RequestPrintUptoSaid : Prop := requestPrintUptoRow.holds Try.pinned (OpenSpec.upto requestPrintSpec)

/-- 'seneschallaw15.RequestReplies', WHERE WHAT IT READS IS OF BULK AT MOST 1048576: true; the input reads as it did. -/
def requestRepliesUptoRow : OpenClaim := { program := "ytdpomchhbbopbaa", sum := "5897464b1ec2e5fbec84799dd2c5dadb6bf2e310948c8a1fdb5c5181ccb81cae", func := "seneschal/seneschallaw15.RequestReplies", spec := "requestReplies", unfollowed := true, recurses := true, apart := false, narrowed := true }
def RequestRepliesUptoSaid : Prop := requestRepliesUptoRow.holds Try.pinned (OpenSpec.upto requestRepliesSpec)

/-- 'seneschallaw04.WireNil', WHERE WHAT IT READS IS OF BULK AT MOST 1048576: true; the input reads as it did. -/
def wireNilUptoRow : OpenClaim := { program := "ytdpomchhbbopbaa", sum := "5897464b1ec2e5fbec84799dd2c5dadb6bf2e310948c8a1fdb5c5181ccb81cae", func := "seneschal/seneschallaw04.WireNil", spec := "wireNil", unfollowed := true, recurses := true, apart := false, narrowed := true }
def WireNilUptoSaid : Prop := wireNilUptoRow.holds Try.pinned (OpenSpec.upto wireNilSpec)

/-- 'seneschallaw15.RequestParse', WHERE WHAT IT READS IS OF BULK AT MOST 1048576: true; the input reads as it did. -/
def requestParseUptoRow : OpenClaim := { program := "ytdpomchhbbopbaa", sum := "5897464b1ec2e5fbec84799dd2c5dadb6bf2e310948c8a1fdb5c5181ccb81cae", func := "seneschal/seneschallaw15.RequestParse", spec := "requestParse", unfollowed := true, recurses := true, apart := false, narrowed := true }
def RequestParseUptoSaid : Prop := requestParseUptoRow.holds Try.pinned (OpenSpec.upto requestParseSpec)

/-- 'seneschallaw04.WireCount', WHERE WHAT IT READS IS OF BULK AT MOST 1048576: true; the input reads as it did. -/
def wireCountUptoRow : OpenClaim := { program := "ytdpomchhbbopbaa", sum := "5897464b1ec2e5fbec84799dd2c5dadb6bf2e310948c8a1fdb5c5181ccb81cae", func := "seneschal/seneschallaw04.WireCount", spec := "wireCount", unfollowed := true, recurses := true, apart := false, narrowed := true }
def WireCountUptoSaid : Prop := wireCountUptoRow.holds Try.pinned (OpenSpec.upto wireCountSpec)

/-- 'seneschallaw04.WireBack', WHERE WHAT IT READS IS OF BULK AT MOST 1048576: true; the input reads as it did. -/
def wireBackUptoRow : OpenClaim := { program := "ytdpomchhbbopbaa", sum := "5897464b1ec2e5fbec84799dd2c5dadb6bf2e310948c8a1fdb5c5181ccb81cae", func := "seneschal/seneschallaw04.WireBack", spec := "wireBack", unfollowed := true, recurses := true, apart := false, narrowed := true }
def WireBackUptoSaid : Prop := wireBackUptoRow.holds Try.pinned (OpenSpec.upto wireBackSpec)

/-- 'seneschallaw04.WireAgain', WHERE WHAT IT READS IS OF BULK AT MOST 1048576: true; the input reads as it did. -/
def wireAgainUptoRow : OpenClaim := { program := "ytdpomchhbbopbaa", sum := "5897464b1ec2e5fbec84799dd2c5dadb6bf2e310948c8a1fdb5c5181ccb81cae", func := "seneschal/seneschallaw04.WireAgain", spec := "wireAgain", unfollowed := true, recurses := true, apart := false, narrowed := true }
def WireAgainUptoSaid : Prop := wireAgainUptoRow.holds Try.pinned (OpenSpec.upto wireAgainSpec)

/-- 'seneschallaw04.WireBad', WHERE WHAT IT READS IS OF BULK AT MOST 1048576: true; the input reads as it did. -/
def wireBadUptoRow : OpenClaim := { program := "ytdpomchhbbopbaa", sum := "5897464b1ec2e5fbec84799dd2c5dadb6bf2e310948c8a1fdb5c5181ccb81cae", func := "seneschal/seneschallaw04.WireBad", spec := "wireBad", unfollowed := true, recurses := true, apart := false, narrowed := true }
def WireBadUptoSaid : Prop := wireBadUptoRow.holds Try.pinned (OpenSpec.upto wireBadSpec)

/-- 'seneschallaw15.RequestCut', WHERE WHAT IT READS IS OF BULK AT MOST 1048576: true; the input reads as it did. -/
def requestCutUptoRow : OpenClaim := { program := "ytdpomchhbbopbaa", sum := "5897464b1ec2e5fbec84799dd2c5dadb6bf2e310948c8a1fdb5c5181ccb81cae", func := "seneschal/seneschallaw15.RequestCut", spec := "requestCut", unfollowed := true, recurses := true, apart := false, narrowed := true }
def RequestCutUptoSaid : Prop := requestCutUptoRow.holds Try.pinned (OpenSpec.upto requestCutSpec)

/-- 'seneschallaw15.RequestFields', WHERE WHAT IT READS IS OF BULK AT MOST 1048576: true; the input reads as it did. -/
def requestFieldsUptoRow : OpenClaim := { program := "ytdpomchhbbopbaa", sum := "5897464b1ec2e5fbec84799dd2c5dadb6bf2e310948c8a1fdb5c5181ccb81cae", func := "seneschal/seneschallaw15.RequestFields", spec := "requestFields", unfollowed := true, recurses := true, apart := false, narrowed := true }
def RequestFieldsUptoSaid : Prop := requestFieldsUptoRow.holds Try.pinned (OpenSpec.upto requestFieldsSpec)

/-- 'seneschallaw15.RequestBack', WHERE WHAT IT READS IS OF BULK AT MOST 1048576: true; the input reads as it did. -/
def requestBackUptoRow : OpenClaim := { program := "ytdpomchhbbopbaa", sum := "5897464b1ec2e5fbec84799dd2c5dadb6bf2e310948c8a1fdb5c5181ccb81cae", func := "seneschal/seneschallaw15.RequestBack", spec := "requestBack", unfollowed := true, recurses := true, apart := false, narrowed := true }
def RequestBackUptoSaid : Prop := requestBackUptoRow.holds Try.pinned (OpenSpec.upto requestBackSpec)

/-- 'seneschallaw15.RequestReplied', WHERE WHAT IT READS IS OF BULK AT MOST 1048576: true; the input reads as it did. -/
def requestRepliedUptoRow : OpenClaim := { program := "ytdpomchhbbopbaa", sum := "5897464b1ec2e5fbec84799dd2c5dadb6bf2e310948c8a1fdb5c5181ccb81cae", func := "seneschal/seneschallaw15.RequestReplied", spec := "requestReplied", unfollowed := true, recurses := true, apart := false, narrowed := true }
def RequestRepliedUptoSaid : Prop := requestRepliedUptoRow.holds Try.pinned (OpenSpec.upto requestRepliedSpec)

end Rows
end Go.Proofs.Ytdpomchhbbopbaa
