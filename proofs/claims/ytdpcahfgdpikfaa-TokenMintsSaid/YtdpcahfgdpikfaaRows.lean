/-
  No cell of these rows narrows 'for every input' (looked for: loops, veiled, ifaces, maps, wideKeys, modest, calm, conditions, laid).
  DERIVED. THE GIVEN ROWS OF THIS SEAT. 11 by the template 'for every input the law returns true; each argument reads behind the call as it read before'; 0 by the template 'total and deterministic' (their statements: YtdpcahfgdpikfaaTotals.lean).
  GIVEN WITH THE SEED: the statements are not yours to turn. If you find one false, say at which input.
  Laid BY PROGRAM, IN A SANDBOX (cutbox-rows.mjs): the forced cells as the released guide's own fill.sh prints them over the translation 902d639d216eaff9… (all of the seat's roots in one cut). By AI agents, Wed Nov 11 2026. No macro, syntax, notation, axiom, sorry.
-/
import Derived.Test.YtdpcahfgdpikfaaChecked
import GoSem.Claim
import GoSem.ClaimJoined
import GoSem.ClaimMapViews
import Derived.JoinedTies
import Derived.KernelRfl
namespace Go.Proofs.Ytdpcahfgdpikfaa
/- THE CELL 'sum', in the pinned program and in every row, IS THE sha256 OF THE DUMP (.gsa) THAT YtdpcahfgdpikfaaProg.lean LOADS. Nothing in Lean hashes anything: it is a label: what it is worth is what the hold of that sum in a sandbox is worth. -/
noncomputable def Try.pinned : Pinned := { name := "ytdpcahfgdpikfaa", sum := "902d639d216eaff9ff9b74fde455eaeb2eeffccbd323ecc4f4045378d7475b83", checked := Try.checked }
namespace Rows
def none {H : Type} : Left H := { results := [], args := [] }

/-- 'seneschallaw03.HmacTwice': WHATEVER THE INPUT: true; the input reads as it did. -/
def hmacTwiceSpec : ChangeSpec := { name := "hmacTwice", fn := fun _ => fun
  | [d1, d2] => { results := [.lit (.bool true)], args := [d1, d2] }
  | _ => none }
def hmacTwiceRow : OpenClaim := { program := "ytdpcahfgdpikfaa", sum := "902d639d216eaff9ff9b74fde455eaeb2eeffccbd323ecc4f4045378d7475b83", func := "seneschal/seneschallaw03.HmacTwice", spec := "hmacTwice", unfollowed := true, recurses := true, apart := false }
def HmacTwiceSaid : Prop := hmacTwiceRow.holds Try.pinned (OpenSpec.ofChange hmacTwiceSpec)

/-- ITS FALSE NEIGHBOUR: 'it returns false'. Refute it at one input. -/
def hmacTwiceWrong : ChangeSpec := { name := "hmacTwice", fn := fun _ => fun
  | [d1, d2] => { results := [.lit (.bool false)], args := [d1, d2] }
  | _ => none }
def HmacTwiceWrongFalsely : Prop := hmacTwiceRow.holds Try.pinned (OpenSpec.ofChange hmacTwiceWrong)

/-- 'seneschallaw03.HmacUnlike': WHATEVER THE INPUT: true; the input reads as it did. -/
def hmacUnlikeSpec : ChangeSpec := { name := "hmacUnlike", fn := fun _ => fun
  | [d1, d2, d3, d4] => { results := [.lit (.bool true)], args := [d1, d2, d3, d4] }
  | _ => none }
def hmacUnlikeRow : OpenClaim := { program := "ytdpcahfgdpikfaa", sum := "902d639d216eaff9ff9b74fde455eaeb2eeffccbd323ecc4f4045378d7475b83", func := "seneschal/seneschallaw03.HmacUnlike", spec := "hmacUnlike", unfollowed := true, recurses := true, apart := false }
def HmacUnlikeSaid : Prop := hmacUnlikeRow.holds Try.pinned (OpenSpec.ofChange hmacUnlikeSpec)

/-- ITS FALSE NEIGHBOUR: 'it returns false'. Refute it at one input. -/
def hmacUnlikeWrong : ChangeSpec := { name := "hmacUnlike", fn := fun _ => fun
  | [d1, d2, d3, d4] => { results := [.lit (.bool false)], args := [d1, d2, d3, d4] }
  | _ => none }
def HmacUnlikeWrongFalsely : Prop := hmacUnlikeRow.holds Try.pinned (OpenSpec.ofChange hmacUnlikeWrong)

/-- 'seneschallaw02.ShaPieces': WHATEVER THE INPUT: true; the input reads as it did. -/
def shaPiecesSpec : ChangeSpec := { name := "shaPieces", fn := fun _ => fun
  | [d] => { results := [.lit (.bool true)], args := [d] }
  | _ => none }
def shaPiecesRow : OpenClaim := { program := "ytdpcahfgdpikfaa", sum := "902d639d216eaff9ff9b74fde455eaeb2eeffccbd323ecc4f4045378d7475b83", func := "seneschal/seneschallaw02.ShaPieces", spec := "shaPieces", unfollowed := true, recurses := true, apart := false }
def ShaPiecesSaid : Prop := shaPiecesRow.holds Try.pinned (OpenSpec.ofChange shaPiecesSpec)

/-- ITS FALSE NEIGHBOUR: 'it returns false'. Refute it at one input. -/
def shaPiecesWrong : ChangeSpec := { name := "shaPieces", fn := fun _ => fun
  | [d] => { results := [.lit (.bool false)], args := [d] }
  | _ => none }
def ShaPiecesWrongFalsely : Prop := shaPiecesRow.holds Try.pinned (OpenSpec.ofChange shaPiecesWrong)

/-- 'seneschallaw09.TokenMints': WHATEVER THE INPUT: true; the input reads as it did. -/
def tokenMintsSpec : ChangeSpec := { name := "tokenMints", fn := fun _ => fun
  | [d1, d2, d3] => { results := [.lit (.bool true)], args := [d1, d2, d3] }
  | _ => none }
def tokenMintsRow : OpenClaim := { program := "ytdpcahfgdpikfaa", sum := "902d639d216eaff9ff9b74fde455eaeb2eeffccbd323ecc4f4045378d7475b83", func := "seneschal/seneschallaw09.TokenMints", spec := "tokenMints", unfollowed := true, recurses := true, apart := false }
def TokenMintsSaid : Prop := tokenMintsRow.holds Try.pinned (OpenSpec.ofChange tokenMintsSpec)

/-- ITS FALSE NEIGHBOUR: 'it returns false'. Refute it at one input. -/
def tokenMintsWrong : ChangeSpec := { name := "tokenMints", fn := fun _ => fun
  | [d1, d2, d3] => { results := [.lit (.bool false)], args := [d1, d2, d3] }
  | _ => none }
def TokenMintsWrongFalsely : Prop := tokenMintsRow.holds Try.pinned (OpenSpec.ofChange tokenMintsWrong)

/-- 'seneschallaw09.TokenVerifies': WHATEVER THE INPUT: true; the input reads as it did. -/
def tokenVerifiesSpec : ChangeSpec := { name := "tokenVerifies", fn := fun _ => fun
  | [d1, d2, d3, d4, d5] => { results := [.lit (.bool true)], args := [d1, d2, d3, d4, d5] }
  | _ => none }
def tokenVerifiesRow : OpenClaim := { program := "ytdpcahfgdpikfaa", sum := "902d639d216eaff9ff9b74fde455eaeb2eeffccbd323ecc4f4045378d7475b83", func := "seneschal/seneschallaw09.TokenVerifies", spec := "tokenVerifies", unfollowed := true, recurses := true, apart := false }
def TokenVerifiesSaid : Prop := tokenVerifiesRow.holds Try.pinned (OpenSpec.ofChange tokenVerifiesSpec)

/-- ITS FALSE NEIGHBOUR: 'it returns false'. Refute it at one input. -/
def tokenVerifiesWrong : ChangeSpec := { name := "tokenVerifies", fn := fun _ => fun
  | [d1, d2, d3, d4, d5] => { results := [.lit (.bool false)], args := [d1, d2, d3, d4, d5] }
  | _ => none }
def TokenVerifiesWrongFalsely : Prop := tokenVerifiesRow.holds Try.pinned (OpenSpec.ofChange tokenVerifiesWrong)

/-- 'seneschallaw09.TokenHolder': WHATEVER THE INPUT: true; the input reads as it did. -/
def tokenHolderSpec : ChangeSpec := { name := "tokenHolder", fn := fun _ => fun
  | [d1, d2, d3, d4, d5] => { results := [.lit (.bool true)], args := [d1, d2, d3, d4, d5] }
  | _ => none }
def tokenHolderRow : OpenClaim := { program := "ytdpcahfgdpikfaa", sum := "902d639d216eaff9ff9b74fde455eaeb2eeffccbd323ecc4f4045378d7475b83", func := "seneschal/seneschallaw09.TokenHolder", spec := "tokenHolder", unfollowed := true, recurses := true, apart := false }
def TokenHolderSaid : Prop := tokenHolderRow.holds Try.pinned (OpenSpec.ofChange tokenHolderSpec)

/-- ITS FALSE NEIGHBOUR: 'it returns false'. Refute it at one input. -/
def tokenHolderWrong : ChangeSpec := { name := "tokenHolder", fn := fun _ => fun
  | [d1, d2, d3, d4, d5] => { results := [.lit (.bool false)], args := [d1, d2, d3, d4, d5] }
  | _ => none }
def TokenHolderWrongFalsely : Prop := tokenHolderRow.holds Try.pinned (OpenSpec.ofChange tokenHolderWrong)

/-- 'seneschallaw09.TokenBytes': WHATEVER THE INPUT: true; the input reads as it did. -/
def tokenBytesSpec : ChangeSpec := { name := "tokenBytes", fn := fun _ => fun
  | [d1, d2, d3, d4, d5] => { results := [.lit (.bool true)], args := [d1, d2, d3, d4, d5] }
  | _ => none }
def tokenBytesRow : OpenClaim := { program := "ytdpcahfgdpikfaa", sum := "902d639d216eaff9ff9b74fde455eaeb2eeffccbd323ecc4f4045378d7475b83", func := "seneschal/seneschallaw09.TokenBytes", spec := "tokenBytes", unfollowed := true, recurses := true, apart := false }
def TokenBytesSaid : Prop := tokenBytesRow.holds Try.pinned (OpenSpec.ofChange tokenBytesSpec)

/-- ITS FALSE NEIGHBOUR: 'it returns false'. Refute it at one input. -/
def tokenBytesWrong : ChangeSpec := { name := "tokenBytes", fn := fun _ => fun
  | [d1, d2, d3, d4, d5] => { results := [.lit (.bool false)], args := [d1, d2, d3, d4, d5] }
  | _ => none }
def TokenBytesWrongFalsely : Prop := tokenBytesRow.holds Try.pinned (OpenSpec.ofChange tokenBytesWrong)

/-- 'seneschallaw09.TokenMinted': WHATEVER THE INPUT: true; the input reads as it did. -/
def tokenMintedSpec : ChangeSpec := { name := "tokenMinted", fn := fun _ => fun
  | [d1, d2, d3, d4, d5] => { results := [.lit (.bool true)], args := [d1, d2, d3, d4, d5] }
  | _ => none }
def tokenMintedRow : OpenClaim := { program := "ytdpcahfgdpikfaa", sum := "902d639d216eaff9ff9b74fde455eaeb2eeffccbd323ecc4f4045378d7475b83", func := "seneschal/seneschallaw09.TokenMinted", spec := "tokenMinted", unfollowed := true, recurses := true, apart := false }
def TokenMintedSaid : Prop := tokenMintedRow.holds Try.pinned (OpenSpec.ofChange tokenMintedSpec)

/-- ITS FALSE NEIGHBOUR: 'it returns false'. Refute it at one input. -/
def tokenMintedWrong : ChangeSpec := { name := "tokenMinted", fn := fun _ => fun
  | [d1, d2, d3, d4, d5] => { results := [.lit (.bool false)], args := [d1, d2, d3, d4, d5] }
  | _ => none }
def TokenMintedWrongFalsely : Prop := tokenMintedRow.holds Try.pinned (OpenSpec.ofChange tokenMintedWrong)

/-- 'seneschallaw13.AuditAdds': WHATEVER THE INPUT: true; the input reads as it did. -/
def auditAddsSpec : ChangeSpec := { name := "auditAdds", fn := fun _ => fun
  | [d1, d2] => { results := [.lit (.bool true)], args := [d1, d2] }
  | _ => none }
def auditAddsRow : OpenClaim := { program := "ytdpcahfgdpikfaa", sum := "902d639d216eaff9ff9b74fde455eaeb2eeffccbd323ecc4f4045378d7475b83", func := "seneschal/seneschallaw13.AuditAdds", spec := "auditAdds", unfollowed := true, recurses := true, apart := false }
def AuditAddsSaid : Prop := auditAddsRow.holds Try.pinned (OpenSpec.ofChange auditAddsSpec)

/-- ITS FALSE NEIGHBOUR: 'it returns false'. Refute it at one input. -/
def auditAddsWrong : ChangeSpec := { name := "auditAdds", fn := fun _ => fun
  | [d1, d2] => { results := [.lit (.bool false)], args := [d1, d2] }
  | _ => none }
def AuditAddsWrongFalsely : Prop := auditAddsRow.holds Try.pinned (OpenSpec.ofChange auditAddsWrong)

/-- 'seneschallaw13.AuditChecks': WHATEVER THE INPUT: true; the input reads as it did. -/
def auditChecksSpec : ChangeSpec := { name := "auditChecks", fn := fun _ => fun
  | [d1, d2] => { results := [.lit (.bool true)], args := [d1, d2] }
  | _ => none }
def auditChecksRow : OpenClaim := { program := "ytdpcahfgdpikfaa", sum := "902d639d216eaff9ff9b74fde455eaeb2eeffccbd323ecc4f4045378d7475b83", func := "seneschal/seneschallaw13.AuditChecks", spec := "auditChecks", unfollowed := true, recurses := true, apart := false }
def AuditChecksSaid : Prop := auditChecksRow.holds Try.pinned (OpenSpec.ofChange auditChecksSpec)

/-- ITS FALSE NEIGHBOUR: 'it returns false'. Refute it at one input. -/
def auditChecksWrong : ChangeSpec := { name := "auditChecks", fn := fun _ => fun
  | [d1, d2] => { results := [.lit (.bool false)], args := [d1, d2] }
  | _ => none }
def AuditChecksWrongFalsely : Prop := auditChecksRow.holds Try.pinned (OpenSpec.ofChange auditChecksWrong)

/-- 'seneschallaw13.AuditGrows': WHATEVER THE INPUT: true; the input reads as it did. -/
def auditGrowsSpec : ChangeSpec := { name := "auditGrows", fn := fun _ => fun
  | [d] => { results := [.lit (.bool true)], args := [d] }
  | _ => none }
def auditGrowsRow : OpenClaim := { program := "ytdpcahfgdpikfaa", sum := "902d639d216eaff9ff9b74fde455eaeb2eeffccbd323ecc4f4045378d7475b83", func := "seneschal/seneschallaw13.AuditGrows", spec := "auditGrows", unfollowed := true, recurses := true, apart := false }
def AuditGrowsSaid : Prop := auditGrowsRow.holds Try.pinned (OpenSpec.ofChange auditGrowsSpec)

/-- ITS FALSE NEIGHBOUR: 'it returns false'. Refute it at one input. -/
def auditGrowsWrong : ChangeSpec := { name := "auditGrows", fn := fun _ => fun
  | [d] => { results := [.lit (.bool false)], args := [d] }
  | _ => none }
def AuditGrowsWrongFalsely : Prop := auditGrowsRow.holds Try.pinned (OpenSpec.ofChange auditGrowsWrong)

/- THE SECOND FORM. 'bulk': how many values and letters a reading holds, each counted each time it is reached (what is shared counts as often as it is met; a slice's spare places count too). A statement '..UptoSaid' is the law's where the arguments, and the package variables that the reading takes, are together of bulk at most 1048576: NARROWER than '..Said'. Prove '..Said' where nothing that the law and all that it calls make is longer than what came in: it says more and counts as full. Else prove '..UptoSaid'. A law counts once. -/
mutual
def uptoBulk {H : Type} : DataW H → Nat
  | .lit (.string bytes) => bytes.length + 1
  | .lit _ => 1
  | .nil => 1
  | .ptr d => uptoBulk d + 1
  | .slice elems spare => uptoBulkAll elems + uptoBulkAll spare + 1
  | .agg parts => uptoBulkAll parts + 1
  | .iface _ d => uptoBulk d + 1
  | .map entries => uptoBulkEntries entries + 1
  | .held _ => 1
def uptoBulkAll {H : Type} : List (DataW H) → Nat
  | [] => 0
  | d :: r => uptoBulk d + uptoBulkAll r
def uptoBulkEntries {H : Type} : List (Lit × DataW H) → Nat
  | [] => 0
  | x :: r => uptoBulkEntry x + uptoBulkEntries r
def uptoBulkEntry {H : Type} : Lit × DataW H → Nat
  | (.string bytes, d) => bytes.length + uptoBulk d + 1
  | (_, d) => uptoBulk d + 1
 end
def uptoSmall : (H : Type) → List (DataW H) → Bool := fun _ ds => decide (uptoBulkAll ds ≤ 1048576)
def OpenSpec.upto (s : _root_.Go.ChangeSpec) : _root_.Go.OpenSpec := { _root_.Go.OpenSpec.ofChange s with cond := some uptoSmall }

/-- 'seneschallaw03.HmacTwice', WHERE WHAT IT READS IS OF BULK AT MOST 1048576: true; the input reads as it did. -/
def hmacTwiceUptoRow : OpenClaim := { program := "ytdpcahfgdpikfaa", sum := "902d639d216eaff9ff9b74fde455eaeb2eeffccbd323ecc4f4045378d7475b83", func := "seneschal/seneschallaw03.HmacTwice", spec := "hmacTwice", unfollowed := true, recurses := true, apart := false, narrowed := true }
def HmacTwiceUptoSaid : Prop := hmacTwiceUptoRow.holds Try.pinned (OpenSpec.upto hmacTwiceSpec)

/-- 'seneschallaw03.HmacUnlike', WHERE WHAT IT READS IS OF BULK AT MOST 1048576: true; the input reads as it did. -/
def hmacUnlikeUptoRow : OpenClaim := { program := "ytdpcahfgdpikfaa", sum := "902d639d216eaff9ff9b74fde455eaeb2eeffccbd323ecc4f4045378d7475b83", func := "seneschal/seneschallaw03.HmacUnlike", spec := "hmacUnlike", unfollowed := true, recurses := true, apart := false, narrowed := true }
def HmacUnlikeUptoSaid : Prop := hmacUnlikeUptoRow.holds Try.pinned (OpenSpec.upto hmacUnlikeSpec)

/-- 'seneschallaw02.ShaPieces', WHERE WHAT IT READS IS OF BULK AT MOST 1048576: true; the input reads as it did. -/
def shaPiecesUptoRow : OpenClaim := { program := "ytdpcahfgdpikfaa", sum := "902d639d216eaff9ff9b74fde455eaeb2eeffccbd323ecc4f4045378d7475b83", func := "seneschal/seneschallaw02.ShaPieces", spec := "shaPieces", unfollowed := true, recurses := true, apart := false, narrowed := true }
def ShaPiecesUptoSaid : Prop := shaPiecesUptoRow.holds Try.pinned (OpenSpec.upto shaPiecesSpec)

/-- 'seneschallaw09.TokenMints', WHERE WHAT IT READS IS OF BULK AT MOST 1048576: true; the input reads as it did. -/
def tokenMintsUptoRow : OpenClaim := { program := "ytdpcahfgdpikfaa", sum := "902d639d216eaff9ff9b74fde455eaeb2eeffccbd323ecc4f4045378d7475b83", func := "seneschal/seneschallaw09.TokenMints", spec := "tokenMints", unfollowed := true, recurses := true, apart := false, narrowed := true }
def TokenMintsUptoSaid : Prop := tokenMintsUptoRow.holds Try.pinned (OpenSpec.upto tokenMintsSpec)

/-- 'seneschallaw09.TokenVerifies', WHERE WHAT IT READS IS OF BULK AT MOST 1048576: true; the input reads as it did. -/
def tokenVerifiesUptoRow : OpenClaim := { program := "ytdpcahfgdpikfaa", sum := "902d639d216eaff9ff9b74fde455eaeb2eeffccbd323ecc4f4045378d7475b83", func := "seneschal/seneschallaw09.TokenVerifies", spec := "tokenVerifies", unfollowed := true, recurses := true, apart := false, narrowed := true }
def TokenVerifiesUptoSaid : Prop := tokenVerifiesUptoRow.holds Try.pinned (OpenSpec.upto tokenVerifiesSpec)

/-- 'seneschallaw09.TokenHolder', WHERE WHAT IT READS IS OF BULK AT MOST 1048576: true; the input reads as it did. -/
def tokenHolderUptoRow : OpenClaim := { program := "ytdpcahfgdpikfaa", sum := "902d639d216eaff9ff9b74fde455eaeb2eeffccbd323ecc4f4045378d7475b83", func := "seneschal/seneschallaw09.TokenHolder", spec := "tokenHolder", unfollowed := true, recurses := true, apart := false, narrowed := true }
def TokenHolderUptoSaid : Prop := tokenHolderUptoRow.holds Try.pinned (OpenSpec.upto tokenHolderSpec)

/-- 'seneschallaw09.TokenBytes', WHERE WHAT IT READS IS OF BULK AT MOST 1048576: true; the input reads as it did. -/
def tokenBytesUptoRow : OpenClaim := { program := "ytdpcahfgdpikfaa", sum := "902d639d216eaff9ff9b74fde455eaeb2eeffccbd323ecc4f4045378d7475b83", func := "seneschal/seneschallaw09.TokenBytes", spec := "tokenBytes", unfollowed := true, recurses := true, apart := false, narrowed := true }
def TokenBytesUptoSaid : Prop := tokenBytesUptoRow.holds Try.pinned (OpenSpec.upto tokenBytesSpec)

/-- 'seneschallaw09.TokenMinted', WHERE WHAT IT READS IS OF BULK AT MOST 1048576: true; the input reads as it did. -/
def tokenMintedUptoRow : OpenClaim := { program := "ytdpcahfgdpikfaa", sum := "902d639d216eaff9ff9b74fde455eaeb2eeffccbd323ecc4f4045378d7475b83", func := "seneschal/seneschallaw09.TokenMinted", spec := "tokenMinted", unfollowed := true, recurses := true, apart := false, narrowed := true }
def TokenMintedUptoSaid : Prop := tokenMintedUptoRow.holds Try.pinned (OpenSpec.upto tokenMintedSpec)

/-- 'seneschallaw13.AuditAdds', WHERE WHAT IT READS IS OF BULK AT MOST 1048576: true; the input reads as it did. -/
def auditAddsUptoRow : OpenClaim := { program := "ytdpcahfgdpikfaa", sum := "902d639d216eaff9ff9b74fde455eaeb2eeffccbd323ecc4f4045378d7475b83", func := "seneschal/seneschallaw13.AuditAdds", spec := "auditAdds", unfollowed := true, recurses := true, apart := false, narrowed := true }
def AuditAddsUptoSaid : Prop := auditAddsUptoRow.holds Try.pinned (OpenSpec.upto auditAddsSpec)

/-- 'seneschallaw13.AuditChecks', WHERE WHAT IT READS IS OF BULK AT MOST 1048576: true; the input reads as it did. -/
def auditChecksUptoRow : OpenClaim := { program := "ytdpcahfgdpikfaa", sum := "902d639d216eaff9ff9b74fde455eaeb2eeffccbd323ecc4f4045378d7475b83", func := "seneschal/seneschallaw13.AuditChecks", spec := "auditChecks", unfollowed := true, recurses := true, apart := false, narrowed := true }
def AuditChecksUptoSaid : Prop := auditChecksUptoRow.holds Try.pinned (OpenSpec.upto auditChecksSpec)

/-- 'seneschallaw13.AuditGrows', WHERE WHAT IT READS IS OF BULK AT MOST 1048576: true; the input reads as it did. -/
def auditGrowsUptoRow : OpenClaim := { program := "ytdpcahfgdpikfaa", sum := "902d639d216eaff9ff9b74fde455eaeb2eeffccbd323ecc4f4045378d7475b83", func := "seneschal/seneschallaw13.AuditGrows", spec := "auditGrows", unfollowed := true, recurses := true, apart := false, narrowed := true }
def AuditGrowsUptoSaid : Prop := auditGrowsUptoRow.holds Try.pinned (OpenSpec.upto auditGrowsSpec)

end Rows
end Go.Proofs.Ytdpcahfgdpikfaa
