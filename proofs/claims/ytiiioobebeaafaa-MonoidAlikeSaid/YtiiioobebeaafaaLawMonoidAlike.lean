import Derived.Test.YtiiioobebeaafaaHMonoidAlike
import Derived.Test.YtiiioobebeaafaaPureMonoidAlike
namespace Go.Proofs.Ytiiioobebeaafaa
/-- The row, under a short name, for the claim. -/
theorem monoidAlike_holds : Rows.MonoidAlikeSaid := monoidAlike.proved Pure.MonoidAlike
#print axioms monoidAlike_holds
end Go.Proofs.Ytiiioobebeaafaa
