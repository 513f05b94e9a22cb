import Derived.Test.YtiiioobebeaafaaHTwoDet
import Derived.Test.YtiiioobebeaafaaPureTwoDet
namespace Go.Proofs.Ytiiioobebeaafaa
/-- The row, under a short name, for the claim. -/
theorem twoDet_holds : Rows.TwoDetSaid := twoDet.proved Pure.TwoDet
#print axioms twoDet_holds
end Go.Proofs.Ytiiioobebeaafaa
