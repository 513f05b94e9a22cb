import Derived.Test.YtiiioobebeaafaaHDetMixed
import Derived.Test.YtiiioobebeaafaaPureDetMixed
namespace Go.Proofs.Ytiiioobebeaafaa
/-- The row, under a short name, for the claim. -/
theorem detMixed_holds : Rows.DetMixedSaid := detMixed.proved Pure.DetMixed
#print axioms detMixed_holds
end Go.Proofs.Ytiiioobebeaafaa
