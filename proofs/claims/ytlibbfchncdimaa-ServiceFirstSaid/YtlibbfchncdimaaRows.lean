/-
  No cell of these rows narrows 'for every input' (looked for: loops, veiled, ifaces, maps, wideKeys, modest, calm, conditions, laid).
  DERIVED. THE GIVEN ROWS OF THIS SEAT. 3 by the template 'for every input the law returns true; each argument reads behind the call as it read before'; 0 by the template 'total and deterministic' (their statements: YtlibbfchncdimaaTotals.lean).
  GIVEN WITH THE SEED: the statements are not yours to turn. If you find one false, say at which input.
  Laid BY PROGRAM, IN A SANDBOX (cutbox-rows.mjs): the forced cells as the released guide's own fill.sh prints them over the translation 72eced76f9e05684… (all of the seat's roots in one cut). By AI agents, Wed Nov 11 2026. No macro, syntax, notation, axiom, sorry.
-/
import Derived.Test.YtlibbfchncdimaaChecked
import GoSem.Claim
import GoSem.ClaimJoined
import GoSem.ClaimMapViews
import Derived.JoinedTies
import Derived.KernelRfl
namespace Go.Proofs.Ytlibbfchncdimaa
/- THE CELL 'sum', in the pinned program and in every row, IS THE sha256 OF THE DUMP (.gsa) THAT YtlibbfchncdimaaProg.lean LOADS. Nothing in Lean hashes anything: it is a label: what it is worth is what the hold of that sum in a sandbox is worth. -/
noncomputable def Try.pinned : Pinned := { name := "ytlibbfchncdimaa", sum := "72eced76f9e056849c90b629b23a440c730836e61610f4d4851bef542a6e2c1d", checked := Try.checked }
namespace Rows
def none {H : Type} : Left H := { results := [], args := [] }

/-- 'conciergelaw7.ServiceTable': WHATEVER THE INPUT: true; the input reads as it did. -/
def serviceTableSpec : ChangeSpec := { name := "serviceTable", fn := fun _ => fun
  | [d1, d2, d3, d4] => { results := [.lit (.bool true)], args := [d1, d2, d3, d4] }
  | _ => none }
def serviceTableRow : OpenClaim := { program := "ytlibbfchncdimaa", sum := "72eced76f9e056849c90b629b23a440c730836e61610f4d4851bef542a6e2c1d", func := "concierge/conciergelaw7.ServiceTable", spec := "serviceTable", inPlace := ["internal/bytealg.IndexByte", "internal/bytealg.Index", "internal/bytealg.IndexByteString", "internal/bytealg.IndexString"], unfollowed := true, recurses := true, named := ["internal/bytealg.MaxLen"], apart := false }
def ServiceTableSaid : Prop := serviceTableRow.holds Try.pinned (OpenSpec.ofChange serviceTableSpec)

/-- ITS FALSE NEIGHBOUR: 'it returns false'. Refute it at one input. -/
def serviceTableWrong : ChangeSpec := { name := "serviceTable", fn := fun _ => fun
  | [d1, d2, d3, d4] => { results := [.lit (.bool false)], args := [d1, d2, d3, d4] }
  | _ => none }
def ServiceTableWrongFalsely : Prop := serviceTableRow.holds Try.pinned (OpenSpec.ofChange serviceTableWrong)

/-- 'conciergelaw7.ServiceNone': WHATEVER THE INPUT: true; the input reads as it did. -/
def serviceNoneSpec : ChangeSpec := { name := "serviceNone", fn := fun _ => fun
  | [] => { results := [.lit (.bool true)], args := [] }
  | _ => none }
def serviceNoneRow : OpenClaim := { program := "ytlibbfchncdimaa", sum := "72eced76f9e056849c90b629b23a440c730836e61610f4d4851bef542a6e2c1d", func := "concierge/conciergelaw7.ServiceNone", spec := "serviceNone", inPlace := ["internal/bytealg.IndexByte", "internal/bytealg.Index", "internal/bytealg.IndexByteString", "internal/bytealg.IndexString"], unfollowed := true, recurses := true, named := ["internal/bytealg.MaxLen"], apart := false }
def ServiceNoneSaid : Prop := serviceNoneRow.holds Try.pinned (OpenSpec.ofChange serviceNoneSpec)

/-- ITS FALSE NEIGHBOUR: 'it returns false'. Refute it at one input. -/
def serviceNoneWrong : ChangeSpec := { name := "serviceNone", fn := fun _ => fun
  | [] => { results := [.lit (.bool false)], args := [] }
  | _ => none }
def ServiceNoneWrongFalsely : Prop := serviceNoneRow.holds Try.pinned (OpenSpec.ofChange serviceNoneWrong)

/-- 'conciergelaw7.ServiceFirst': WHATEVER THE INPUT: true; the input reads as it did. -/
def serviceFirstSpec : ChangeSpec := { name := "serviceFirst", fn := fun _ => fun
  | [d1, d2] => { results := [.lit (.bool true)], args := [d1, d2] }
  | _ => none }
def serviceFirstRow : OpenClaim := { program := "ytlibbfchncdimaa", sum := "72eced76f9e056849c90b629b23a440c730836e61610f4d4851bef542a6e2c1d", func := "concierge/conciergelaw7.ServiceFirst", spec := "serviceFirst", inPlace := ["internal/bytealg.IndexByte", "internal/bytealg.Index", "internal/bytealg.IndexByteString", "internal/bytealg.IndexString"], unfollowed := true, recurses := true, named := ["internal/bytealg.MaxLen"], apart := false }
def ServiceFirstSaid : Prop := serviceFirstRow.holds Try.pinned (OpenSpec.ofChange serviceFirstSpec)

/-- ITS FALSE NEIGHBOUR: 'it returns false'. Refute it at one input. -/
def serviceFirstWrong : ChangeSpec := { name := "serviceFirst", fn := fun _ => fun
  | [d1, d2] => { results := [.lit (.bool false)], args := [d1, d2] }
  | _ => none }
def ServiceFirstWrongFalsely : Prop := serviceFirstRow.holds Try.pinned (OpenSpec.ofChange serviceFirstWrong)

/- THE SECOND FORM. 'bulk': how many values and letters a reading holds, each counted each time it is reached (what is shared counts as often as it is met; a slice's spare places count too). A statement '..UptoSaid' is the law's where the arguments, and the package variables that the reading takes, are together of bulk at most 1048576: NARROWER than '..Said'. Prove '..Said' where nothing that the law and all that it calls make is longer than what came in: it says more and counts as full. Else prove '..UptoSaid'. A law counts once. -/
mutual
def uptoBulk {H : Type} : DataW H → Nat
  | .lit (.string bytes) => bytes.length + 1
  | .lit _ => 1
  | .nil => 1
  | .ptr d => uptoBulk d + 1
  | .slice elems spare => uptoBulkAll elems + uptoBulkAll spare + 1
  | .agg parts => uptoBulkAll parts + 1
  | .iface _ d => uptoBulk d + 1
  | .map entries => uptoBulkEntries entries + 1
  | .held _ => 1
def uptoBulkAll {H : Type} : List (DataW H) → Nat
  | [] => 0
  | d :: r => uptoBulk d + uptoBulkAll r
def uptoBulkEntries {H : Type} : List (Lit × DataW H) → Nat
  | [] => 0
  | x :: r => uptoBulkEntry x + uptoBulkEntries r
def uptoBulkEntry {H : Type} : Lit × DataW H → Nat
  | (.string bytes, d) => bytes.length + uptoBulk d + 1
  | (_, d) => uptoBulk d + 1
 end
def uptoSmall : (H : Type) → List (DataW H) → Bool := fun _ ds => decide (uptoBulkAll ds ≤ 1048576)
def OpenSpec.upto (s : _root_.Go.ChangeSpec) : _root_.Go.OpenSpec := { _root_.Go.OpenSpec.ofChange s with cond := some uptoSmall }

/-- 'conciergelaw7.ServiceTable', WHERE WHAT IT READS IS OF BULK AT MOST 1048576: true; the input reads as it did. -/
def serviceTableUptoRow : OpenClaim := { program := "ytlibbfchncdimaa", sum := "72eced76f9e056849c90b629b23a440c730836e61610f4d4851bef542a6e2c1d", func := "concierge/conciergelaw7.ServiceTable", spec := "serviceTable", inPlace := ["internal/bytealg.IndexByte", "internal/bytealg.Index", "internal/bytealg.IndexByteString", "internal/bytealg.IndexString"], unfollowed := true, recurses := true, named := ["internal/bytealg.MaxLen"], apart := false, narrowed := true }
def ServiceTableUptoSaid : Prop := serviceTableUptoRow.holds Try.pinned (OpenSpec.upto serviceTableSpec)

/-- 'conciergelaw7.ServiceNone', WHERE WHAT IT READS IS OF BULK AT MOST 1048576: true; the input reads as it did. -/
def serviceNoneUptoRow : OpenClaim := { program := "ytlibbfchncdimaa", sum := "72eced76f9e056849c90b629b23a440c730836e61610f4d4851bef542a6e2c1d", func := "concierge/conciergelaw7.ServiceNone", spec := "serviceNone", inPlace := ["internal/bytealg.IndexByte", "internal/bytealg.Index", "internal/bytealg.IndexByteString", "internal/bytealg.IndexString"], unfollowed := true, recurses := true, named := ["internal/bytealg.MaxLen"], apart := false, narrowed := true }
def ServiceNoneUptoSaid : Prop := serviceNoneUptoRow.holds Try.pinned (OpenSpec.upto serviceNoneSpec)

/-- 'conciergelaw7.ServiceFirst', WHERE WHAT IT READS IS OF BULK AT MOST 1048576: true; the input reads as it did. -/
def serviceFirstUptoRow : OpenClaim := { program := "ytlibbfchncdimaa", sum := "72eced76f9e056849c90b629b23a440c730836e61610f4d4851bef542a6e2c1d", func := "concierge/conciergelaw7.ServiceFirst", spec := "serviceFirst", inPlace := ["internal/bytealg.IndexByte", "internal/bytealg.Index", "internal/bytealg.IndexByteString", "internal/bytealg.IndexString"], unfollowed := true, recurses := true, named := ["internal/bytealg.MaxLen"], apart := false, narrowed := true }
def ServiceFirstUptoSaid : Prop := serviceFirstUptoRow.holds Try.pinned (OpenSpec.upto serviceFirstSpec)

end Rows
end Go.Proofs.Ytlibbfchncdimaa
