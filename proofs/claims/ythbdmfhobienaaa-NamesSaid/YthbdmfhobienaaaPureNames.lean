/- The closed law Names: the plain law answers true at forty rounds. No conditions. -/
import Derived.Test.YthbdmfhobienaaaPNamesx1
namespace Go.Proofs.Ythbdmfhobienaaa.Pure
open Go.RowKit Go.Proofs.Ythbdmfhobienaaa.PNames Go.Proofs.YthbdmfhobienaaaW.PrintWords Go.Proofs.YthbdmfhobienaaaW.PrintLast

/-- YOURS: ∃ k, evermorelaw_Names.f k  = some true
What it reaches (each with k first where it has rounds; `.mono`: more rounds tell the same; `.l0`, ..: its loops, with `.mono_l`): api_Errno_Error.f, evermoreref1_Words.f, evermorelaw_Names.f -/
theorem Names : evermorelaw_Names.Pure := by
  exact ⟨40, by decide +kernel⟩

end Go.Proofs.Ythbdmfhobienaaa.Pure
