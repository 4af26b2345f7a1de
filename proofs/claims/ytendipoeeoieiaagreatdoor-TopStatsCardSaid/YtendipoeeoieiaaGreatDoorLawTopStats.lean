/- The law TopStats: the kernel runs the evaluator over its code, for each of the inputs that its guards let in, and the evaluator's word is the model's; and the law's tied card. -/
import Derived.Test.YtendipoeeoieiaaGreatDoorTopStatsO
import Derived.Test.YtendipoeeoieiaaGreatDoorTopStatsG
import Derived.Test.YtendipoeeoieiaaGreatDoorTF4
import Derived.Test.YtendipoeeoieiaaGreatDoorTF5
namespace Go.Proofs.YtendipoeeoieiaaGreatDoor.topstats
open Go.ChangeShapes Go.WideShapes Go.ChangeAt Go.RowKit
open Go.ChangeMaps (open_string shut_string)
set_option linter.unusedVariables false
set_option linter.unusedSimpArgs false
theorem proved : Rows.TopStatsCardSaid :=
  Claim7.holds_tied_plain_at .later [] [.data, .data, .data, .data, .sentinel, .sentinel, .pinned] true (true, "471b05ce7ec0fa74945d7a431ccf951354dfa106854c3448556dbfcac6035de4") true over (fun _ h => by cases h) cText (fun _ h => by cases h) topStats_row_tie rfl ⟨rfl, rfl⟩ top.cMain rfl
    (fun f fn hf hfn => by
      obtain rfl : f = 5 := Option.some.inj (cName.symm.trans hf) |>.symm
      obtain rfl : fn = Tryz.f5 := (Option.some.inj (Tryz.func5.symm.trans hfn)).symm
      exact ⟨top.cLooks, fun j t ht => by
        rw [Tryz.params5] at ht
        have hm : t ∈ [3] := by simpa using Array.mem_of_getElem? ht
        have hall : ([3].all fun u => !Tryz.prog.wantsStandIn u) = true := by kernel_rfl
        exact (show Tryz.prog.wantsStandIn t = false by simpa using List.all_eq_true.1 hall t hm)⟩)
    cGoes
end Go.Proofs.YtendipoeeoieiaaGreatDoor.topstats
namespace Go.Proofs.YtendipoeeoieiaaGreatDoor
/-- The card, under a short name, for the claim. -/
theorem topstats_holds : Rows.TopStatsCardSaid := topstats.proved
end Go.Proofs.YtendipoeeoieiaaGreatDoor
