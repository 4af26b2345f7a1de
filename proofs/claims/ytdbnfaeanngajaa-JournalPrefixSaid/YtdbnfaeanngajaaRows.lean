/-
  No cell of these rows narrows 'for every input' (looked for: loops, veiled, ifaces, maps, wideKeys, modest, calm, conditions, laid).
  DERIVED. THE GIVEN ROWS OF THIS SEAT. 9 by the template 'for every input the law returns true; each argument reads behind the call as it read before'; 0 by the template 'total and deterministic' (their statements: YtdbnfaeanngajaaTotals.lean).
  GIVEN WITH THE SEED: the statements are not yours to turn. If you find one false, say at which input.
  Laid BY PROGRAM, IN A SANDBOX (cutbox-rows.mjs): the forced cells as the released guide's own fill.sh prints them over the translation ca8384c055fd6f53… (all of the seat's roots in one cut). By AI agents, Wed Nov 11 2026. No macro, syntax, notation, axiom, sorry.
-/
import Derived.Test.YtdbnfaeanngajaaChecked
import GoSem.Claim
import GoSem.ClaimJoined
import GoSem.ClaimMapViews
import Derived.JoinedTies
import Derived.KernelRfl
namespace Go.Proofs.Ytdbnfaeanngajaa
/- THE CELL 'sum', in the pinned program and in every row, IS THE sha256 OF THE DUMP (.gsa) THAT YtdbnfaeanngajaaProg.lean LOADS. Nothing in Lean hashes anything: it is a label: what it is worth is what the hold of that sum in a sandbox is worth. -/
noncomputable def Try.pinned : Pinned := { name := "ytdbnfaeanngajaa", sum := "ca8384c055fd6f531306c70c822eafad5fd384df02932bceee9ab45c1e911220", checked := Try.checked }
namespace Rows
def none {H : Type} : Left H := { results := [], args := [] }

/-- 'conciergelaw2.TextLines': WHATEVER THE INPUT: true; the input reads as it did. -/
def textLinesSpec : ChangeSpec := { name := "textLines", fn := fun _ => fun
  | [d] => { results := [.lit (.bool true)], args := [d] }
  | _ => none }
def textLinesRow : OpenClaim := { program := "ytdbnfaeanngajaa", sum := "ca8384c055fd6f531306c70c822eafad5fd384df02932bceee9ab45c1e911220", func := "concierge/conciergelaw2.TextLines", spec := "textLines", inPlace := ["internal/bytealg.IndexByte", "internal/bytealg.Index"], unfollowed := true, recurses := true, named := ["internal/bytealg.MaxLen"], apart := false }
def TextLinesSaid : Prop := textLinesRow.holds Try.pinned (OpenSpec.ofChange textLinesSpec)

/-- ITS FALSE NEIGHBOUR: 'it returns false'. Refute it at one input. -/
def textLinesWrong : ChangeSpec := { name := "textLines", fn := fun _ => fun
  | [d] => { results := [.lit (.bool false)], args := [d] }
  | _ => none }
def TextLinesWrongFalsely : Prop := textLinesRow.holds Try.pinned (OpenSpec.ofChange textLinesWrong)

/-- 'conciergelaw2.TextWords': WHATEVER THE INPUT: true; the input reads as it did. -/
def textWordsSpec : ChangeSpec := { name := "textWords", fn := fun _ => fun
  | [d1, d2] => { results := [.lit (.bool true)], args := [d1, d2] }
  | _ => none }
def textWordsRow : OpenClaim := { program := "ytdbnfaeanngajaa", sum := "ca8384c055fd6f531306c70c822eafad5fd384df02932bceee9ab45c1e911220", func := "concierge/conciergelaw2.TextWords", spec := "textWords", inPlace := ["internal/bytealg.IndexByte", "internal/bytealg.Index"], unfollowed := true, recurses := true, named := ["internal/bytealg.MaxLen"], apart := false }
def TextWordsSaid : Prop := textWordsRow.holds Try.pinned (OpenSpec.ofChange textWordsSpec)

/-- ITS FALSE NEIGHBOUR: 'it returns false'. Refute it at one input. -/
def textWordsWrong : ChangeSpec := { name := "textWords", fn := fun _ => fun
  | [d1, d2] => { results := [.lit (.bool false)], args := [d1, d2] }
  | _ => none }
def TextWordsWrongFalsely : Prop := textWordsRow.holds Try.pinned (OpenSpec.ofChange textWordsWrong)

/-- 'conciergelaw2.TextComments': WHATEVER THE INPUT: true; the input reads as it did. -/
def textCommentsSpec : ChangeSpec := { name := "textComments", fn := fun _ => fun
  | [d1, d2, d3] => { results := [.lit (.bool true)], args := [d1, d2, d3] }
  | _ => none }
def textCommentsRow : OpenClaim := { program := "ytdbnfaeanngajaa", sum := "ca8384c055fd6f531306c70c822eafad5fd384df02932bceee9ab45c1e911220", func := "concierge/conciergelaw2.TextComments", spec := "textComments", inPlace := ["internal/bytealg.IndexByte", "internal/bytealg.Index"], unfollowed := true, recurses := true, named := ["internal/bytealg.MaxLen"], apart := false }
def TextCommentsSaid : Prop := textCommentsRow.holds Try.pinned (OpenSpec.ofChange textCommentsSpec)

/-- ITS FALSE NEIGHBOUR: 'it returns false'. Refute it at one input. -/
def textCommentsWrong : ChangeSpec := { name := "textComments", fn := fun _ => fun
  | [d1, d2, d3] => { results := [.lit (.bool false)], args := [d1, d2, d3] }
  | _ => none }
def TextCommentsWrongFalsely : Prop := textCommentsRow.holds Try.pinned (OpenSpec.ofChange textCommentsWrong)

/-- 'conciergelaw11.ActionDrive': WHATEVER THE INPUT: true; the input reads as it did. -/
def actionDriveSpec : ChangeSpec := { name := "actionDrive", fn := fun _ => fun
  | [d1, d2] => { results := [.lit (.bool true)], args := [d1, d2] }
  | _ => none }
def actionDriveRow : OpenClaim := { program := "ytdbnfaeanngajaa", sum := "ca8384c055fd6f531306c70c822eafad5fd384df02932bceee9ab45c1e911220", func := "concierge/conciergelaw11.ActionDrive", spec := "actionDrive", unfollowed := true, recurses := true, apart := false }
def ActionDriveSaid : Prop := actionDriveRow.holds Try.pinned (OpenSpec.ofChange actionDriveSpec)

/-- ITS FALSE NEIGHBOUR: 'it returns false'. Refute it at one input. -/
def actionDriveWrong : ChangeSpec := { name := "actionDrive", fn := fun _ => fun
  | [d1, d2] => { results := [.lit (.bool false)], args := [d1, d2] }
  | _ => none }
def ActionDriveWrongFalsely : Prop := actionDriveRow.holds Try.pinned (OpenSpec.ofChange actionDriveWrong)

/-- 'conciergelaw11.ActionTable': WHATEVER THE INPUT: true; the input reads as it did. -/
def actionTableSpec : ChangeSpec := { name := "actionTable", fn := fun _ => fun
  | [d1, d2, d3] => { results := [.lit (.bool true)], args := [d1, d2, d3] }
  | _ => none }
def actionTableRow : OpenClaim := { program := "ytdbnfaeanngajaa", sum := "ca8384c055fd6f531306c70c822eafad5fd384df02932bceee9ab45c1e911220", func := "concierge/conciergelaw11.ActionTable", spec := "actionTable", unfollowed := true, recurses := true, apart := false }
def ActionTableSaid : Prop := actionTableRow.holds Try.pinned (OpenSpec.ofChange actionTableSpec)

/-- ITS FALSE NEIGHBOUR: 'it returns false'. Refute it at one input. -/
def actionTableWrong : ChangeSpec := { name := "actionTable", fn := fun _ => fun
  | [d1, d2, d3] => { results := [.lit (.bool false)], args := [d1, d2, d3] }
  | _ => none }
def ActionTableWrongFalsely : Prop := actionTableRow.holds Try.pinned (OpenSpec.ofChange actionTableWrong)

/-- 'conciergelaw1.WorldStamps': WHATEVER THE INPUT: true; the input reads as it did. -/
def worldStampsSpec : ChangeSpec := { name := "worldStamps", fn := fun _ => fun
  | [d] => { results := [.lit (.bool true)], args := [d] }
  | _ => none }
def worldStampsRow : OpenClaim := { program := "ytdbnfaeanngajaa", sum := "ca8384c055fd6f531306c70c822eafad5fd384df02932bceee9ab45c1e911220", func := "concierge/conciergelaw1.WorldStamps", spec := "worldStamps", inPlace := ["maps.clone"], apart := false }
def WorldStampsSaid : Prop := worldStampsRow.holds Try.pinned (OpenSpec.ofChange worldStampsSpec)

/-- ITS FALSE NEIGHBOUR: 'it returns false'. Refute it at one input. -/
def worldStampsWrong : ChangeSpec := { name := "worldStamps", fn := fun _ => fun
  | [d] => { results := [.lit (.bool false)], args := [d] }
  | _ => none }
def WorldStampsWrongFalsely : Prop := worldStampsRow.holds Try.pinned (OpenSpec.ofChange worldStampsWrong)

/-- 'conciergelaw1.WorldCuts': WHATEVER THE INPUT: true; the input reads as it did. -/
def worldCutsSpec : ChangeSpec := { name := "worldCuts", fn := fun _ => fun
  | [d1, d2, d3] => { results := [.lit (.bool true)], args := [d1, d2, d3] }
  | _ => none }
def worldCutsRow : OpenClaim := { program := "ytdbnfaeanngajaa", sum := "ca8384c055fd6f531306c70c822eafad5fd384df02932bceee9ab45c1e911220", func := "concierge/conciergelaw1.WorldCuts", spec := "worldCuts", inPlace := ["maps.clone"], apart := false }
def WorldCutsSaid : Prop := worldCutsRow.holds Try.pinned (OpenSpec.ofChange worldCutsSpec)

/-- ITS FALSE NEIGHBOUR: 'it returns false'. Refute it at one input. -/
def worldCutsWrong : ChangeSpec := { name := "worldCuts", fn := fun _ => fun
  | [d1, d2, d3] => { results := [.lit (.bool false)], args := [d1, d2, d3] }
  | _ => none }
def WorldCutsWrongFalsely : Prop := worldCutsRow.holds Try.pinned (OpenSpec.ofChange worldCutsWrong)

/-- 'conciergelaw22.JournalScan': WHATEVER THE INPUT: true; the input reads as it did. -/
def journalScanSpec : ChangeSpec := { name := "journalScan", fn := fun _ => fun
  | [d1, d2, d3, d4] => { results := [.lit (.bool true)], args := [d1, d2, d3, d4] }
  | _ => none }
def journalScanRow : OpenClaim := { program := "ytdbnfaeanngajaa", sum := "ca8384c055fd6f531306c70c822eafad5fd384df02932bceee9ab45c1e911220", func := "concierge/conciergelaw22.JournalScan", spec := "journalScan", apart := false }
def JournalScanSaid : Prop := journalScanRow.holds Try.pinned (OpenSpec.ofChange journalScanSpec)

/-- ITS FALSE NEIGHBOUR: 'it returns false'. Refute it at one input. -/
def journalScanWrong : ChangeSpec := { name := "journalScan", fn := fun _ => fun
  | [d1, d2, d3, d4] => { results := [.lit (.bool false)], args := [d1, d2, d3, d4] }
  | _ => none }
def JournalScanWrongFalsely : Prop := journalScanRow.holds Try.pinned (OpenSpec.ofChange journalScanWrong)

/-- 'conciergelaw22.JournalPrefix': WHATEVER THE INPUT: true; the input reads as it did. -/
def journalPrefixSpec : ChangeSpec := { name := "journalPrefix", fn := fun _ => fun
  | [d1, d2] => { results := [.lit (.bool true)], args := [d1, d2] }
  | _ => none }
def journalPrefixRow : OpenClaim := { program := "ytdbnfaeanngajaa", sum := "ca8384c055fd6f531306c70c822eafad5fd384df02932bceee9ab45c1e911220", func := "concierge/conciergelaw22.JournalPrefix", spec := "journalPrefix", apart := false }
def JournalPrefixSaid : Prop := journalPrefixRow.holds Try.pinned (OpenSpec.ofChange journalPrefixSpec)

/-- ITS FALSE NEIGHBOUR: 'it returns false'. Refute it at one input. -/
def journalPrefixWrong : ChangeSpec := { name := "journalPrefix", fn := fun _ => fun
  | [d1, d2] => { results := [.lit (.bool false)], args := [d1, d2] }
  | _ => none }
def JournalPrefixWrongFalsely : Prop := journalPrefixRow.holds Try.pinned (OpenSpec.ofChange journalPrefixWrong)

/- THE SECOND FORM. 'bulk': how many values and letters a reading holds, each counted each time it is reached (what is shared counts as often as it is met; a slice's spare places count too). A statement '..UptoSaid' is the law's where the arguments, and the package variables that the reading takes, are together of bulk at most 1048576: NARROWER than '..Said'. Prove '..Said' where nothing that the law and all that it calls make is longer than what came in: it says more and counts as full. Else prove '..UptoSaid'. A law counts once. -/
mutual
def uptoBulk {H : Type} : DataW H → Nat
  | .lit (.string bytes) => bytes.length + 1
  | .lit _ => 1
  | .nil => 1
  | .ptr d => uptoBulk d + 1
  | .slice elems spare => uptoBulkAll elems + uptoBulkAll spare + 1
  | .agg parts => uptoBulkAll parts + 1
  | .iface _ d => uptoBulk d + 1
  | .map entries => uptoBulkEntries entries + 1
  | .held _ => 1
def uptoBulkAll {H : Type} : List (DataW H) → Nat
  | [] => 0
  | d :: r => uptoBulk d + uptoBulkAll r
def uptoBulkEntries {H : Type} : List (Lit × DataW H) → Nat
  | [] => 0
  | x :: r => uptoBulkEntry x + uptoBulkEntries r
def uptoBulkEntry {H : Type} : Lit × DataW H → Nat
  | (.string bytes, d) => bytes.length + uptoBulk d + 1
  | (_, d) => uptoBulk d + 1
 end
def uptoSmall : (H : Type) → List (DataW H) → Bool := fun _ ds => decide (uptoBulkAll ds ≤ 1048576)
def OpenSpec.upto (s : _root_.Go.ChangeSpec) : _root_.Go.OpenSpec := { _root_.Go.OpenSpec.ofChange s with cond := some uptoSmall }

/-- 'conciergelaw2.TextLines', WHERE WHAT IT READS IS OF BULK AT MOST 1048576: true; the input reads as it did. -/
def textLinesUptoRow : OpenClaim := { program := "ytdbnfaeanngajaa", sum := "ca8384c055fd6f531306c70c822eafad5fd384df02932bceee9ab45c1e911220", func := "concierge/conciergelaw2.TextLines", spec := "textLines", inPlace := ["internal/bytealg.IndexByte", "internal/bytealg.Index"], unfollowed := true, recurses := true, named := ["internal/bytealg.MaxLen"], apart := false, narrowed := true }
def TextLinesUptoSaid : Prop := textLinesUptoRow.holds Try.pinned (OpenSpec.upto textLinesSpec)

/-- 'conciergelaw2.TextWords', WHERE WHAT IT READS IS OF BULK AT MOST 1048576: true; the input reads as it did. -/
def textWordsUptoRow : OpenClaim := { program := "ytdbnfaeanngajaa", sum := "ca8384c055fd6f531306c70c822eafad5fd384df02932bceee9ab45c1e911220", func := "concierge/conciergelaw2.TextWords", spec := "textWords", inPlace := ["internal/bytealg.IndexByte", "internal/bytealg.Index"], unfollowed := true, recurses := true, named := ["internal/bytealg.MaxLen"], apart := false, narrowed := true }
def TextWordsUptoSaid : Prop := textWordsUptoRow.holds Try.pinned (OpenSpec.upto textWordsSpec)

/-- 'conciergelaw2.TextComments', WHERE WHAT IT READS IS OF BULK AT MOST 1048576: true; the input reads as it did. -/
def textCommentsUptoRow : OpenClaim := { program := "ytdbnfaeanngajaa", sum := "ca8384c055fd6f531306c70c822eafad5fd384df02932bceee9ab45c1e911220", func := "concierge/conciergelaw2.TextComments", spec := "textComments", inPlace := ["internal/bytealg.IndexByte", "internal/bytealg.Index"], unfollowed := true, recurses := true, named := ["internal/bytealg.MaxLen"], apart := false, narrowed := true }
def TextCommentsUptoSaid : Prop := textCommentsUptoRow.holds Try.pinned (OpenSpec.upto textCommentsSpec)

/-- 'conciergelaw11.ActionDrive', WHERE WHAT IT READS IS OF BULK AT MOST 1048576: true; the input reads as it did. -/
def actionDriveUptoRow : OpenClaim := { program := "ytdbnfaeanngajaa", sum := "ca8384c055fd6f531306c70c822eafad5fd384df02932bceee9ab45c1e911220", func := "concierge/conciergelaw11.ActionDrive", spec := "actionDrive", unfollowed := true, recurses := true, apart := false, narrowed := true }
def ActionDriveUptoSaid : Prop := actionDriveUptoRow.holds Try.pinned (OpenSpec.upto actionDriveSpec)

/-- 'conciergelaw11.ActionTable', WHERE WHAT IT READS IS OF BULK AT MOST 1048576: true; the input reads as it did. -/
def actionTableUptoRow : OpenClaim := { program := "ytdbnfaeanngajaa", sum := "ca8384c055fd6f531306c70c822eafad5fd384df02932bceee9ab45c1e911220", func := "concierge/conciergelaw11.ActionTable", spec := "actionTable", unfollowed := true, recurses := true, apart := false, narrowed := true }
def ActionTableUptoSaid : Prop := actionTableUptoRow.holds Try.pinned (OpenSpec.upto actionTableSpec)

/-- 'conciergelaw1.WorldStamps', WHERE WHAT IT READS IS OF BULK AT MOST 1048576: true; the input reads as it did. -/
def worldStampsUptoRow : OpenClaim := { program := "ytdbnfaeanngajaa", sum := "ca8384c055fd6f531306c70c822eafad5fd384df02932bceee9ab45c1e911220", func := "concierge/conciergelaw1.WorldStamps", spec := "worldStamps", inPlace := ["maps.clone"], apart := false, narrowed := true }
def WorldStampsUptoSaid : Prop := worldStampsUptoRow.holds Try.pinned (OpenSpec.upto worldStampsSpec)

/-- 'conciergelaw1.WorldCuts', WHERE WHAT IT READS IS OF BULK AT MOST 1048576: true; the input reads as it did. -/
def worldCutsUptoRow : OpenClaim := { program := "ytdbnfaeanngajaa", sum := "ca8384c055fd6f531306c70c822eafad5fd384df02932bceee9ab45c1e911220", func := "concierge/conciergelaw1.WorldCuts", spec := "worldCuts", inPlace := ["maps.clone"], apart := false, narrowed := true }
def WorldCutsUptoSaid : Prop := worldCutsUptoRow.holds Try.pinned (OpenSpec.upto worldCutsSpec)

/-- 'conciergelaw22.JournalScan', WHERE WHAT IT READS IS OF BULK AT MOST 1048576: true; the input reads as it did. -/
def journalScanUptoRow : OpenClaim := { program := "ytdbnfaeanngajaa", sum := "ca8384c055fd6f531306c70c822eafad5fd384df02932bceee9ab45c1e911220", func := "concierge/conciergelaw22.JournalScan", spec := "journalScan", apart := false, narrowed := true }
def JournalScanUptoSaid : Prop := journalScanUptoRow.holds Try.pinned (OpenSpec.upto journalScanSpec)

/-- 'conciergelaw22.JournalPrefix', WHERE WHAT IT READS IS OF BULK AT MOST 1048576: true; the input reads as it did. -/
def journalPrefixUptoRow : OpenClaim := { program := "ytdbnfaeanngajaa", sum := "ca8384c055fd6f531306c70c822eafad5fd384df02932bceee9ab45c1e911220", func := "concierge/conciergelaw22.JournalPrefix", spec := "journalPrefix", apart := false, narrowed := true }
def JournalPrefixUptoSaid : Prop := journalPrefixUptoRow.holds Try.pinned (OpenSpec.upto journalPrefixSpec)

end Rows
end Go.Proofs.Ytdbnfaeanngajaa
