/- The law TopSpoof: its row. -/
import Derived.Test.YtemmgompegkgkaaGreatDoorTopSpoofL
import Derived.Test.YtemmgompegkgkaaGreatDoorTopSpoofF
import Derived.Test.YtemmgompegkgkaaGreatDoorTopSpoofE
import Derived.Test.YtemmgompegkgkaaGreatDoorTF1
import Derived.Test.YtemmgompegkgkaaGreatDoorTF2
import Derived.Test.YtemmgompegkgkaaGreatDoorTF3
namespace Go.Proofs.YtemmgompegkgkaaGreatDoor.topspoof
open Go.ChangeShapes Go.WideShapes Go.ChangeAt Go.RowKit
open Go.ChangeMaps (open_string shut_string)
set_option linter.unusedVariables false
set_option linter.unusedSimpArgs false
theorem tt {a b : Bool} (h : a = true) (k : b = true) : (a && b) = true := by rw [h, k]; rfl
set_option maxRecDepth 100000 in
theorem closed : joinedFacts Tryz.prog 4 Tryz.f4 Rows.topSpoofSpec Rows.topSpoofRow = true := by
  have hr := cRoad
  simp only [Bool.and_eq_true] at hr
  obtain ⟨⟨r1, r2⟩, r3, r4⟩ := hr
  unfold joinedFacts
  refine tt (tt (tt (tt (tt (tt (tt (tt (tt (tt (tt (tt (tt (tt (tt (tt (tt (tt (tt (tt (tt (tt (tt (tt (tt (tt (tt (tt (tt (tt (tt ?_ ?_) ?_) ?_) ?_) ?_) ?_) ?_) ?_) ?_) ?_) ?_) ?_) ?_) ?_) ?_) ?_) ?_) ?_) ?_) ?_) ?_) ?_) ?_) ?_) ?_) ?_) ?_) ?_) ?_) ?_) ?_
  · kernel_rfl
  · exact top.cLaid
  · exact top.cMaps
  · kernel_rfl
  · kernel_rfl
  · kernel_rfl
  · exact top.cStops
  · kernel_rfl
  · exact top.cKnobs
  · exact r1
  · exact r2
  · exact r3
  · exact r4
  · kernel_rfl
  · kernel_rfl
  · kernel_rfl
  · kernel_rfl
  · kernel_rfl
  · kernel_rfl
  · kernel_rfl
  · kernel_rfl
  · kernel_rfl
  · rw [top.cKeys]; kernel_rfl
  · kernel_rfl
  · exact top.cHeard
  · exact top.cEnter
  · kernel_rfl
  · kernel_rfl
  · kernel_rfl
  · kernel_rfl
  · kernel_rfl
  · kernel_rfl
theorem over : Rows.topSpoofRow.holds Tryz.pinned (OpenSpec.ofChange Rows.topSpoofSpec) :=
  OpenClaim.holds_of_wide 4 Tryz.f4 rfl rfl rfl rfl rfl rfl rfl ⟨rfl, rfl, rfl, rfl, rfl⟩ rfl rfl rfl rfl rfl cName Tryz.func4 closed
    (of_decide_eq_true (by kernel_rfl)) (by unfold Func.isWrapper; first | (rw [if_pos (by decide +kernel)]; kernel_rfl) | (rw [if_neg (by decide +kernel)]; exact ⟨rfl, rfl⟩))
    (fun os started H enc _ => lifted os started H enc)
end Go.Proofs.YtemmgompegkgkaaGreatDoor.topspoof
