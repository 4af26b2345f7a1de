/- The law TopSpoof: the kernel runs the evaluator over its code, for each of the inputs that its guards let in, and the evaluator's word is the model's; and the law's tied card. -/
import Derived.Test.YtemmgompegkgkaaGreatDoorTopSpoofO
import Derived.Test.YtemmgompegkgkaaGreatDoorTF6
import Derived.Test.YtemmgompegkgkaaGreatDoorTopSpoofH
import Derived.Test.YtemmgompegkgkaaGreatDoorTF4
import Derived.Test.YtemmgompegkgkaaGreatDoorTF5
namespace Go.Proofs.YtemmgompegkgkaaGreatDoor.topspoof
open Go.ChangeShapes Go.WideShapes Go.ChangeAt Go.RowKit
open Go.ChangeMaps (open_string shut_string)
set_option linter.unusedVariables false
set_option linter.unusedSimpArgs false
theorem proved : Rows.TopSpoofCardSaid :=
  Claim7.holds_tied_plain_at .later [] [.data, .data, .data, .data, .sentinel, .sentinel, .pinned] true (true, "6e945fde472b169eae9fd522baa2eada81a12cc5a62fde05d3471a05be40f119") true over (fun _ h => by cases h) cText (fun _ h => by cases h) topSpoof_row_tie rfl ⟨rfl, rfl⟩ top.cMain rfl
    (fun f fn hf hfn => by
      obtain rfl : f = 4 := Option.some.inj (cName.symm.trans hf) |>.symm
      obtain rfl : fn = Tryz.f4 := (Option.some.inj (Tryz.func4.symm.trans hfn)).symm
      exact ⟨top.cLooks, fun j t ht => by
        rw [Tryz.params4] at ht
        have hm : t ∈ [3, 3] := by simpa using Array.mem_of_getElem? ht
        have hall : ([3, 3].all fun u => !Tryz.prog.wantsStandIn u) = true := by kernel_rfl
        exact (show Tryz.prog.wantsStandIn t = false by simpa using List.all_eq_true.1 hall t hm)⟩)
    (top.cGoes _)
end Go.Proofs.YtemmgompegkgkaaGreatDoor.topspoof
namespace Go.Proofs.YtemmgompegkgkaaGreatDoor
/-- The card, under a short name, for the claim. -/
theorem topspoof_holds : Rows.TopSpoofCardSaid := topspoof.proved
end Go.Proofs.YtemmgompegkgkaaGreatDoor
