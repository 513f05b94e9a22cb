import Derived.Test.YtfkilmmldjajmaaHTopWays
import Derived.Test.YtfkilmmldjajmaaPureTopWays
namespace Go.Proofs.Ytfkilmmldjajmaa
/-- The row, under a short name, for the claim. -/
theorem topWays_holds : Rows.TopWaysSaid := topWays.proved Pure.TopWays
#print axioms topWays_holds
end Go.Proofs.Ytfkilmmldjajmaa
