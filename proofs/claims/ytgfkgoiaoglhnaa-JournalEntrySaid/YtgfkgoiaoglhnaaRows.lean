/-
  No cell of these rows narrows 'for every input' (looked for: loops, veiled, ifaces, maps, wideKeys, modest, calm, conditions, laid).
  DERIVED. THE GIVEN ROWS OF THIS SEAT. 7 by the template 'for every input the law returns true; each argument reads behind the call as it read before'; 0 by the template 'total and deterministic' (their statements: YtgfkgoiaoglhnaaTotals.lean).
  GIVEN WITH THE SEED: the statements are not yours to turn. If you find one false, say at which input.
  Laid BY PROGRAM, IN A SANDBOX (cutbox-rows.mjs): the forced cells as the released guide's own fill.sh prints them over the translation c30496e05d0f0542… (all of the seat's roots in one cut). By AI agents, Wed Nov 11 2026. No macro, syntax, notation, axiom, sorry.
-/
import Derived.Test.YtgfkgoiaoglhnaaChecked
import GoSem.Claim
import GoSem.ClaimJoined
import GoSem.ClaimMapViews
import Derived.JoinedTies
import Derived.KernelRfl
namespace Go.Proofs.Ytgfkgoiaoglhnaa
/- THE CELL 'sum', in the pinned program and in every row, IS THE sha256 OF THE DUMP (.gsa) THAT YtgfkgoiaoglhnaaProg.lean LOADS. Nothing in Lean hashes anything: it is a label: what it is worth is what the hold of that sum in a sandbox is worth. -/
noncomputable def Try.pinned : Pinned := { name := "ytgfkgoiaoglhnaa", sum := "c30496e05d0f0542b6199e78ba4991623f12c5620c3971a626280841e9e2e27a", checked := Try.checked }
namespace Rows
def none {H : Type} : Left H := { results := [], args := [] }

/-- 'conciergelaw11.ActionDrive': WHATEVER THE INPUT: true; the input reads as it did. -/
def actionDriveSpec : ChangeSpec := { name := "actionDrive", fn := fun _ => fun
  | [d1, d2] => { results := [.lit (.bool true)], args := [d1, d2] }
  | _ => none }
def actionDriveRow : OpenClaim := { program := "ytgfkgoiaoglhnaa", sum := "c30496e05d0f0542b6199e78ba4991623f12c5620c3971a626280841e9e2e27a", func := "concierge/conciergelaw11.ActionDrive", spec := "actionDrive", unfollowed := true, recurses := true, apart := false }
def ActionDriveSaid : Prop := actionDriveRow.holds Try.pinned (OpenSpec.ofChange actionDriveSpec)

/-- ITS FALSE NEIGHBOUR: 'it returns false'. Refute it at one input. -/
def actionDriveWrong : ChangeSpec := { name := "actionDrive", fn := fun _ => fun
  | [d1, d2] => { results := [.lit (.bool false)], args := [d1, d2] }
  | _ => none }
def ActionDriveWrongFalsely : Prop := actionDriveRow.holds Try.pinned (OpenSpec.ofChange actionDriveWrong)

/-- 'conciergelaw11.ActionTable': WHATEVER THE INPUT: true; the input reads as it did. -/
def actionTableSpec : ChangeSpec := { name := "actionTable", fn := fun _ => fun
  | [d1, d2, d3] => { results := [.lit (.bool true)], args := [d1, d2, d3] }
  | _ => none }
def actionTableRow : OpenClaim := { program := "ytgfkgoiaoglhnaa", sum := "c30496e05d0f0542b6199e78ba4991623f12c5620c3971a626280841e9e2e27a", func := "concierge/conciergelaw11.ActionTable", spec := "actionTable", unfollowed := true, recurses := true, apart := false }
def ActionTableSaid : Prop := actionTableRow.holds Try.pinned (OpenSpec.ofChange actionTableSpec)

/-- ITS FALSE NEIGHBOUR: 'it returns false'. Refute it at one input. -/
def actionTableWrong : ChangeSpec := { name := "actionTable", fn := fun _ => fun
  | [d1, d2, d3] => { results := [.lit (.bool false)], args := [d1, d2, d3] }
  | _ => none }
def ActionTableWrongFalsely : Prop := actionTableRow.holds Try.pinned (OpenSpec.ofChange actionTableWrong)

/-- 'conciergelaw1.WorldStamps': WHATEVER THE INPUT: true; the input reads as it did. -/
def worldStampsSpec : ChangeSpec := { name := "worldStamps", fn := fun _ => fun
  | [d] => { results := [.lit (.bool true)], args := [d] }
  | _ => none }
def worldStampsRow : OpenClaim := { program := "ytgfkgoiaoglhnaa", sum := "c30496e05d0f0542b6199e78ba4991623f12c5620c3971a626280841e9e2e27a", func := "concierge/conciergelaw1.WorldStamps", spec := "worldStamps", inPlace := ["maps.clone"], apart := false }
def WorldStampsSaid : Prop := worldStampsRow.holds Try.pinned (OpenSpec.ofChange worldStampsSpec)

/-- ITS FALSE NEIGHBOUR: 'it returns false'. Refute it at one input. -/
def worldStampsWrong : ChangeSpec := { name := "worldStamps", fn := fun _ => fun
  | [d] => { results := [.lit (.bool false)], args := [d] }
  | _ => none }
def WorldStampsWrongFalsely : Prop := worldStampsRow.holds Try.pinned (OpenSpec.ofChange worldStampsWrong)

/-- 'conciergelaw1.WorldCuts': WHATEVER THE INPUT: true; the input reads as it did. -/
def worldCutsSpec : ChangeSpec := { name := "worldCuts", fn := fun _ => fun
  | [d1, d2, d3] => { results := [.lit (.bool true)], args := [d1, d2, d3] }
  | _ => none }
def worldCutsRow : OpenClaim := { program := "ytgfkgoiaoglhnaa", sum := "c30496e05d0f0542b6199e78ba4991623f12c5620c3971a626280841e9e2e27a", func := "concierge/conciergelaw1.WorldCuts", spec := "worldCuts", inPlace := ["maps.clone"], apart := false }
def WorldCutsSaid : Prop := worldCutsRow.holds Try.pinned (OpenSpec.ofChange worldCutsSpec)

/-- ITS FALSE NEIGHBOUR: 'it returns false'. Refute it at one input. -/
def worldCutsWrong : ChangeSpec := { name := "worldCuts", fn := fun _ => fun
  | [d1, d2, d3] => { results := [.lit (.bool false)], args := [d1, d2, d3] }
  | _ => none }
def WorldCutsWrongFalsely : Prop := worldCutsRow.holds Try.pinned (OpenSpec.ofChange worldCutsWrong)

/-- 'conciergelaw22.JournalBig': WHATEVER THE INPUT: true; the input reads as it did. -/
def journalBigSpec : ChangeSpec := { name := "journalBig", fn := fun _ => fun
  | [] => { results := [.lit (.bool true)], args := [] }
  | _ => none }
def journalBigRow : OpenClaim := { program := "ytgfkgoiaoglhnaa", sum := "c30496e05d0f0542b6199e78ba4991623f12c5620c3971a626280841e9e2e27a", func := "concierge/conciergelaw22.JournalBig", spec := "journalBig", apart := false }
def JournalBigSaid : Prop := journalBigRow.holds Try.pinned (OpenSpec.ofChange journalBigSpec)

/-- ITS FALSE NEIGHBOUR: 'it returns false'. Refute it at one input. -/
def journalBigWrong : ChangeSpec := { name := "journalBig", fn := fun _ => fun
  | [] => { results := [.lit (.bool false)], args := [] }
  | _ => none }
def JournalBigWrongFalsely : Prop := journalBigRow.holds Try.pinned (OpenSpec.ofChange journalBigWrong)

/-- 'conciergelaw22.JournalEntry': WHATEVER THE INPUT: true; the input reads as it did. -/
def journalEntrySpec : ChangeSpec := { name := "journalEntry", fn := fun _ => fun
  | [d1, d2] => { results := [.lit (.bool true)], args := [d1, d2] }
  | _ => none }
def journalEntryRow : OpenClaim := { program := "ytgfkgoiaoglhnaa", sum := "c30496e05d0f0542b6199e78ba4991623f12c5620c3971a626280841e9e2e27a", func := "concierge/conciergelaw22.JournalEntry", spec := "journalEntry", apart := false }
def JournalEntrySaid : Prop := journalEntryRow.holds Try.pinned (OpenSpec.ofChange journalEntrySpec)

/-- ITS FALSE NEIGHBOUR: 'it returns false'. Refute it at one input. -/
def journalEntryWrong : ChangeSpec := { name := "journalEntry", fn := fun _ => fun
  | [d1, d2] => { results := [.lit (.bool false)], args := [d1, d2] }
  | _ => none }
def JournalEntryWrongFalsely : Prop := journalEntryRow.holds Try.pinned (OpenSpec.ofChange journalEntryWrong)

/-- 'conciergelaw22.JournalRead': WHATEVER THE INPUT: true; the input reads as it did. -/
def journalReadSpec : ChangeSpec := { name := "journalRead", fn := fun _ => fun
  | [d1, d2, d3, d4, d5] => { results := [.lit (.bool true)], args := [d1, d2, d3, d4, d5] }
  | _ => none }
def journalReadRow : OpenClaim := { program := "ytgfkgoiaoglhnaa", sum := "c30496e05d0f0542b6199e78ba4991623f12c5620c3971a626280841e9e2e27a", func := "concierge/conciergelaw22.JournalRead", spec := "journalRead", unfollowed := true, recurses := true, apart := false }
def JournalReadSaid : Prop := journalReadRow.holds Try.pinned (OpenSpec.ofChange journalReadSpec)

/-- ITS FALSE NEIGHBOUR: 'it returns false'. Refute it at one input. -/
def journalReadWrong : ChangeSpec := { name := "journalRead", fn := fun _ => fun
  | [d1, d2, d3, d4, d5] => { results := [.lit (.bool false)], args := [d1, d2, d3, d4, d5] }
  | _ => none }
def JournalReadWrongFalsely : Prop := journalReadRow.holds Try.pinned (OpenSpec.ofChange journalReadWrong)

/- THE SECOND FORM. 'bulk': how many values and letters a reading holds, each counted each time it is reached (what is shared counts as often as it is met; a slice's spare places count too). A statement '..UptoSaid' is the law's where the arguments, and the package variables that the reading takes, are together of bulk at most 1048576: NARROWER than '..Said'. Prove '..Said' where nothing that the law and all that it calls make is longer than what came in: it says more and counts as full. Else prove '..UptoSaid'. A law counts once. -/
mutual
def uptoBulk {H : Type} : DataW H → Nat
  | .lit (.string bytes) => bytes.length + 1
  | .lit _ => 1
  | .nil => 1
  | .ptr d => uptoBulk d + 1
  | .slice elems spare => uptoBulkAll elems + uptoBulkAll spare + 1
  | .agg parts => uptoBulkAll parts + 1
  | .iface _ d => uptoBulk d + 1
  | .map entries => uptoBulkEntries entries + 1
  | .held _ => 1
def uptoBulkAll {H : Type} : List (DataW H) → Nat
  | [] => 0
  | d :: r => uptoBulk d + uptoBulkAll r
def uptoBulkEntries {H : Type} : List (Lit × DataW H) → Nat
  | [] => 0
  | x :: r => uptoBulkEntry x + uptoBulkEntries r
def uptoBulkEntry {H : Type} : Lit × DataW H → Nat
  | (.string bytes, d) => bytes.length + uptoBulk d + 1
  | (_, d) => uptoBulk d + 1
 end
def uptoSmall : (H : Type) → List (DataW H) → Bool := fun _ ds => decide (uptoBulkAll ds ≤ 1048576)
def OpenSpec.upto (s : _root_.Go.ChangeSpec) : _root_.Go.OpenSpec := { _root_.Go.OpenSpec.ofChange s with cond := some uptoSmall }

/-- 'conciergelaw11.ActionDrive', WHERE WHAT IT READS IS OF BULK AT MOST 1048576: true; the input reads as it did. -/
def actionDriveUptoRow : OpenClaim := { program := "ytgfkgoiaoglhnaa", sum := "c30496e05d0f0542b6199e78ba4991623f12c5620c3971a626280841e9e2e27a", func := "concierge/conciergelaw11.ActionDrive", spec := "actionDrive", unfollowed := true, recurses := true, apart := false, narrowed := true }
def ActionDriveUptoSaid : Prop := actionDriveUptoRow.holds Try.pinned (OpenSpec.upto actionDriveSpec)

/-- 'conciergelaw11.ActionTable', WHERE WHAT IT READS IS OF BULK AT MOST 1048576: true; the input reads as it did. -/
def actionTableUptoRow : OpenClaim := { program := "ytgfkgoiaoglhnaa", sum := "c30496e05d0f0542b6199e78ba4991623f12c5620c3971a626280841e9e2e27a", func := "concierge/conciergelaw11.ActionTable", spec := "actionTable", unfollowed := true, recurses := true, apart := false, narrowed := true }
def ActionTableUptoSaid : Prop := actionTableUptoRow.holds Try.pinned (OpenSpec.upto actionTableSpec)

/-- 'conciergelaw1.WorldStamps', WHERE WHAT IT READS IS OF BULK AT MOST 1048576: true; the input reads as it did. -/
def worldStampsUptoRow : OpenClaim := { program := "ytgfkgoiaoglhnaa", sum := "c30496e05d0f0542b6199e78ba4991623f12c5620c3971a626280841e9e2e27a", func := "concierge/conciergelaw1.WorldStamps", spec := "worldStamps", inPlace := ["maps.clone"], apart := false, narrowed := true }
def WorldStampsUptoSaid : Prop := worldStampsUptoRow.holds Try.pinned (OpenSpec.upto worldStampsSpec)

/-- 'conciergelaw1.WorldCuts', WHERE WHAT IT READS IS OF BULK AT MOST 1048576: true; the input reads as it did. -/
def worldCutsUptoRow : OpenClaim := { program := "ytgfkgoiaoglhnaa", sum := "c30496e05d0f0542b6199e78ba4991623f12c5620c3971a626280841e9e2e27a", func := "concierge/conciergelaw1.WorldCuts", spec := "worldCuts", inPlace := ["maps.clone"], apart := false, narrowed := true }
def WorldCutsUptoSaid : Prop := worldCutsUptoRow.holds Try.pinned (OpenSpec.upto worldCutsSpec)

/-- 'conciergelaw22.JournalBig', WHERE WHAT IT READS IS OF BULK AT MOST 1048576: true; the input reads as it did. -/
def journalBigUptoRow : OpenClaim := { program := "ytgfkgoiaoglhnaa", sum := "c30496e05d0f0542b6199e78ba4991623f12c5620c3971a626280841e9e2e27a", func := "concierge/conciergelaw22.JournalBig", spec := "journalBig", apart := false, narrowed := true }
def JournalBigUptoSaid : Prop := journalBigUptoRow.holds Try.pinned (OpenSpec.upto journalBigSpec)

/-- 'conciergelaw22.JournalEntry', WHERE WHAT IT READS IS OF BULK AT MOST 1048576: true; the input reads as it did. -/
def journalEntryUptoRow : OpenClaim := { program := "ytgfkgoiaoglhnaa", sum := "c30496e05d0f0542b6199e78ba4991623f12c5620c3971a626280841e9e2e27a", func := "concierge/conciergelaw22.JournalEntry", spec := "journalEntry", apart := false, narrowed := true }
def JournalEntryUptoSaid : Prop := journalEntryUptoRow.holds Try.pinned (OpenSpec.upto journalEntrySpec)

/-- 'conciergelaw22.JournalRead', WHERE WHAT IT READS IS OF BULK AT MOST 1048576: true; the input reads as it did. -/
def journalReadUptoRow : OpenClaim := { program := "ytgfkgoiaoglhnaa", sum := "c30496e05d0f0542b6199e78ba4991623f12c5620c3971a626280841e9e2e27a", func := "concierge/conciergelaw22.JournalRead", spec := "journalRead", unfollowed := true, recurses := true, apart := false, narrowed := true }
def JournalReadUptoSaid : Prop := journalReadUptoRow.holds Try.pinned (OpenSpec.upto journalReadSpec)

end Rows
end Go.Proofs.Ytgfkgoiaoglhnaa
