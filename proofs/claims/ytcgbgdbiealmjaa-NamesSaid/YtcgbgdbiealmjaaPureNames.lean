/- The row Names in plain Lean: the two lists that the row compares are alike, and fifty-eight rounds reach their end; the kernel counts them. -/
import Derived.Test.YtcgbgdbiealmjaaPNamesx1
namespace Go.Proofs.Ytcgbgdbiealmjaa.Pure
open Go.RowKit Go.Proofs.Ytcgbgdbiealmjaa.PNames Go.Proofs.YtcgbgdbiealmjaaW.PrintWords Go.Proofs.YtcgbgdbiealmjaaW.PrintLast

set_option maxRecDepth 100000 in
/-- The two lists are alike, so the loop runs to its end and answers true. -/
theorem Names : conciergelaw0_Names.Pure :=
  ⟨60, by decide +kernel⟩

end Go.Proofs.Ytcgbgdbiealmjaa.Pure
