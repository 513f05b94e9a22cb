import Derived.Test.YtiiioobebeaafaaHHigmanCloses
import Derived.Test.YtiiioobebeaafaaPureHigmanCloses
namespace Go.Proofs.Ytiiioobebeaafaa
/-- The row, under a short name, for the claim. -/
theorem higmanCloses_holds : Rows.HigmanClosesSaid := higmanCloses.proved Pure.HigmanCloses
#print axioms higmanCloses_holds
end Go.Proofs.Ytiiioobebeaafaa
