/- The law TopMerge: the kernel runs the evaluator over its code, for each of the inputs that its guards let in, and the evaluator's word is the model's; and the law's tied card. -/
import Derived.Test.YtpficieiefgbfaaGreatDoorTopMergeO
import Derived.Test.YtpficieiefgbfaaGreatDoorTF6
import Derived.Test.YtpficieiefgbfaaGreatDoorTopMergeH
import Derived.Test.YtpficieiefgbfaaGreatDoorTF4
import Derived.Test.YtpficieiefgbfaaGreatDoorTF5
namespace Go.Proofs.YtpficieiefgbfaaGreatDoor.topmerge
open Go.ChangeShapes Go.WideShapes Go.ChangeAt Go.RowKit
open Go.ChangeMaps (open_string shut_string)
set_option linter.unusedVariables false
set_option linter.unusedSimpArgs false
theorem proved : Rows.TopMergeCardSaid :=
  Claim7.holds_tied_plain_at .later [] [.data, .data, .data, .data, .sentinel, .sentinel, .pinned] true (true, "6cf8229b689b0448856056dd4b339509460a15b5fedd38ccc96de598f7b58c1a") true over (fun _ h => by cases h) cText (fun _ h => by cases h) topMerge_row_tie rfl ⟨rfl, rfl⟩ top.cMain rfl
    (fun f fn hf hfn => by
      obtain rfl : f = 6 := Option.some.inj (cName.symm.trans hf) |>.symm
      obtain rfl : fn = Tryz.f6 := (Option.some.inj (Tryz.func6.symm.trans hfn)).symm
      exact ⟨top.cLooks, fun j t ht => by
        rw [Tryz.params6] at ht
        have hm : t ∈ [3, 3] := by simpa using Array.mem_of_getElem? ht
        have hall : ([3, 3].all fun u => !Tryz.prog.wantsStandIn u) = true := by kernel_rfl
        exact (show Tryz.prog.wantsStandIn t = false by simpa using List.all_eq_true.1 hall t hm)⟩)
    (top.cGoes _)
end Go.Proofs.YtpficieiefgbfaaGreatDoor.topmerge
namespace Go.Proofs.YtpficieiefgbfaaGreatDoor
/-- The card, under a short name, for the claim. -/
theorem topmerge_holds : Rows.TopMergeCardSaid := topmerge.proved
end Go.Proofs.YtpficieiefgbfaaGreatDoor
