import Derived.Test.YtiiioobebeaafaaHMonoidCounts
import Derived.Test.YtiiioobebeaafaaPureMonoidCounts
namespace Go.Proofs.Ytiiioobebeaafaa
/-- The row, under a short name, for the claim. -/
theorem monoidCounts_holds : Rows.MonoidCountsSaid := monoidCounts.proved Pure.MonoidCounts
#print axioms monoidCounts_holds
end Go.Proofs.Ytiiioobebeaafaa
