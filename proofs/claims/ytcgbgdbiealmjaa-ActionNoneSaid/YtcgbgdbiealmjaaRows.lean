/-
  No cell of these rows narrows 'for every input' (looked for: loops, veiled, ifaces, maps, wideKeys, modest, calm, conditions, laid).
  DERIVED. THE GIVEN ROWS OF THIS SEAT. 4 by the template 'for every input the law returns true; each argument reads behind the call as it read before'; 0 by the template 'total and deterministic' (their statements: YtcgbgdbiealmjaaTotals.lean).
  GIVEN WITH THE SEED: the statements are not yours to turn. If you find one false, say at which input.
  Laid BY PROGRAM, IN A SANDBOX (cutbox-rows.mjs): the forced cells as the released guide's own fill.sh prints them over the translation f3f9a3641ba395cf… (all of the seat's roots in one cut). By AI agents, Wed Nov 11 2026. No macro, syntax, notation, axiom, sorry.
-/
import Derived.Test.YtcgbgdbiealmjaaChecked
import GoSem.Claim
import GoSem.ClaimJoined
import GoSem.ClaimMapViews
import Derived.JoinedTies
import Derived.KernelRfl
namespace Go.Proofs.Ytcgbgdbiealmjaa
/- THE CELL 'sum', in the pinned program and in every row, IS THE sha256 OF THE DUMP (.gsa) THAT YtcgbgdbiealmjaaProg.lean LOADS. Nothing in Lean hashes anything: it is a label: what it is worth is what the hold of that sum in a sandbox is worth. -/
noncomputable def Try.pinned : Pinned := { name := "ytcgbgdbiealmjaa", sum := "f3f9a3641ba395cf69a5e8521442b8db03dfd0645296ea999e5da5f0550601f7", checked := Try.checked }
namespace Rows
def none {H : Type} : Left H := { results := [], args := [] }

/-- 'conciergelaw0.Names': WHATEVER THE INPUT: true; the input reads as it did. -/
def namesSpec : ChangeSpec := { name := "names", fn := fun _ => fun
  | [] => { results := [.lit (.bool true)], args := [] }
  | _ => none }
def namesRow : OpenClaim := { program := "ytcgbgdbiealmjaa", sum := "f3f9a3641ba395cf69a5e8521442b8db03dfd0645296ea999e5da5f0550601f7", func := "concierge/conciergelaw0.Names", spec := "names", apart := false }
def NamesSaid : Prop := namesRow.holds Try.pinned (OpenSpec.ofChange namesSpec)

/-- ITS FALSE NEIGHBOUR: 'it returns false'. Refute it at one input. -/
def namesWrong : ChangeSpec := { name := "names", fn := fun _ => fun
  | [] => { results := [.lit (.bool false)], args := [] }
  | _ => none }
def NamesWrongFalsely : Prop := namesRow.holds Try.pinned (OpenSpec.ofChange namesWrong)

/-- 'conciergelaw11.ActionNone': WHATEVER THE INPUT: true; the input reads as it did. -/
def actionNoneSpec : ChangeSpec := { name := "actionNone", fn := fun _ => fun
  | [] => { results := [.lit (.bool true)], args := [] }
  | _ => none }
def actionNoneRow : OpenClaim := { program := "ytcgbgdbiealmjaa", sum := "f3f9a3641ba395cf69a5e8521442b8db03dfd0645296ea999e5da5f0550601f7", func := "concierge/conciergelaw11.ActionNone", spec := "actionNone", unfollowed := true, recurses := true, apart := false }
def ActionNoneSaid : Prop := actionNoneRow.holds Try.pinned (OpenSpec.ofChange actionNoneSpec)

/-- ITS FALSE NEIGHBOUR: 'it returns false'. Refute it at one input. -/
def actionNoneWrong : ChangeSpec := { name := "actionNone", fn := fun _ => fun
  | [] => { results := [.lit (.bool false)], args := [] }
  | _ => none }
def ActionNoneWrongFalsely : Prop := actionNoneRow.holds Try.pinned (OpenSpec.ofChange actionNoneWrong)

/-- 'conciergelaw11.ActionDrive': WHATEVER THE INPUT: true; the input reads as it did. -/
def actionDriveSpec : ChangeSpec := { name := "actionDrive", fn := fun _ => fun
  | [d1, d2] => { results := [.lit (.bool true)], args := [d1, d2] }
  | _ => none }
def actionDriveRow : OpenClaim := { program := "ytcgbgdbiealmjaa", sum := "f3f9a3641ba395cf69a5e8521442b8db03dfd0645296ea999e5da5f0550601f7", func := "concierge/conciergelaw11.ActionDrive", spec := "actionDrive", unfollowed := true, recurses := true, apart := false }
def ActionDriveSaid : Prop := actionDriveRow.holds Try.pinned (OpenSpec.ofChange actionDriveSpec)

/-- ITS FALSE NEIGHBOUR: 'it returns false'. Refute it at one input. -/
def actionDriveWrong : ChangeSpec := { name := "actionDrive", fn := fun _ => fun
  | [d1, d2] => { results := [.lit (.bool false)], args := [d1, d2] }
  | _ => none }
def ActionDriveWrongFalsely : Prop := actionDriveRow.holds Try.pinned (OpenSpec.ofChange actionDriveWrong)

/-- 'conciergelaw11.ActionTable': WHATEVER THE INPUT: true; the input reads as it did. -/
def actionTableSpec : ChangeSpec := { name := "actionTable", fn := fun _ => fun
  | [d1, d2, d3] => { results := [.lit (.bool true)], args := [d1, d2, d3] }
  | _ => none }
def actionTableRow : OpenClaim := { program := "ytcgbgdbiealmjaa", sum := "f3f9a3641ba395cf69a5e8521442b8db03dfd0645296ea999e5da5f0550601f7", func := "concierge/conciergelaw11.ActionTable", spec := "actionTable", unfollowed := true, recurses := true, apart := false }
def ActionTableSaid : Prop := actionTableRow.holds Try.pinned (OpenSpec.ofChange actionTableSpec)

/-- ITS FALSE NEIGHBOUR: 'it returns false'. Refute it at one input. -/
def actionTableWrong : ChangeSpec := { name := "actionTable", fn := fun _ => fun
  | [d1, d2, d3] => { results := [.lit (.bool false)], args := [d1, d2, d3] }
  | _ => none }
def ActionTableWrongFalsely : Prop := actionTableRow.holds Try.pinned (OpenSpec.ofChange actionTableWrong)

/- THE SECOND FORM. 'bulk': how many values and letters a reading holds, each counted each time it is reached (what is shared counts as often as it is met; a slice's spare places count too). A statement '..UptoSaid' is the law's where the arguments, and the package variables that the reading takes, are together of bulk at most 1048576: NARROWER than '..Said'. Prove '..Said' where nothing that the law and all that it calls make is longer than what came in: it says more and counts as full. Else prove '..UptoSaid'. A law counts once. -/
mutual
def uptoBulk {H : Type} : DataW H → Nat
  | .lit (.string bytes) => bytes.length + 1
  | .lit _ => 1
  | .nil => 1
  | .ptr d => uptoBulk d + 1
  | .slice elems spare => uptoBulkAll elems + uptoBulkAll spare + 1
  | .agg parts => uptoBulkAll parts + 1
  | .iface _ d => uptoBulk d + 1
  | .map entries => uptoBulkEntries entries + 1
  | .held _ => 1
def uptoBulkAll {H : Type} : List (DataW H) → Nat
  | [] => 0
  | d :: r => uptoBulk d + uptoBulkAll r
def uptoBulkEntries {H : Type} : List (Lit × DataW H) → Nat
  | [] => 0
  | x :: r => uptoBulkEntry x + uptoBulkEntries r
def uptoBulkEntry {H : Type} : Lit × DataW H → Nat
  | (.string bytes, d) => bytes.length + uptoBulk d + 1
  | (_, d) => uptoBulk d + 1
 end
def uptoSmall : (H : Type) → List (DataW H) → Bool := fun _ ds => decide (uptoBulkAll ds ≤ 1048576)
def OpenSpec.upto (s : _root_.Go.ChangeSpec) : _root_.Go.OpenSpec := { _root_.Go.OpenSpec.ofChange s with cond := some uptoSmall }

/-- 'conciergelaw0.Names', WHERE WHAT IT READS IS OF BULK AT MOST 1048576: true; the input reads as it did. -/
def namesUptoRow : OpenClaim := { program := "ytcgbgdbiealmjaa", sum := "f3f9a3641ba395cf69a5e8521442b8db03dfd0645296ea999e5da5f0550601f7", func := "concierge/conciergelaw0.Names", spec := "names", apart := false, narrowed := true }
def NamesUptoSaid : Prop := namesUptoRow.holds Try.pinned (OpenSpec.upto namesSpec)

/-- 'conciergelaw11.ActionNone', WHERE WHAT IT READS IS OF BULK AT MOST 1048576: true; the input reads as it did. -/
def actionNoneUptoRow : OpenClaim := { program := "ytcgbgdbiealmjaa", sum := "f3f9a3641ba395cf69a5e8521442b8db03dfd0645296ea999e5da5f0550601f7", func := "concierge/conciergelaw11.ActionNone", spec := "actionNone", unfollowed := true, recurses := true, apart := false, narrowed := true }
def ActionNoneUptoSaid : Prop := actionNoneUptoRow.holds Try.pinned (OpenSpec.upto actionNoneSpec)

/-- 'conciergelaw11.ActionDrive', WHERE WHAT IT READS IS OF BULK AT MOST 1048576: true; the input reads as it did. -/
def actionDriveUptoRow : OpenClaim := { program := "ytcgbgdbiealmjaa", sum := "f3f9a3641ba395cf69a5e8521442b8db03dfd0645296ea999e5da5f0550601f7", func := "concierge/conciergelaw11.ActionDrive", spec := "actionDrive", unfollowed := true, recurses := true, apart := false, narrowed := true }
def ActionDriveUptoSaid : Prop := actionDriveUptoRow.holds Try.pinned (OpenSpec.upto actionDriveSpec)

/-- 'conciergelaw11.ActionTable', WHERE WHAT IT READS IS OF BULK AT MOST 1048576: true; the input reads as it did. -/
def actionTableUptoRow : OpenClaim := { program := "ytcgbgdbiealmjaa", sum := "f3f9a3641ba395cf69a5e8521442b8db03dfd0645296ea999e5da5f0550601f7", func := "concierge/conciergelaw11.ActionTable", spec := "actionTable", unfollowed := true, recurses := true, apart := false, narrowed := true }
def ActionTableUptoSaid : Prop := actionTableUptoRow.holds Try.pinned (OpenSpec.upto actionTableSpec)

end Rows
end Go.Proofs.Ytcgbgdbiealmjaa
