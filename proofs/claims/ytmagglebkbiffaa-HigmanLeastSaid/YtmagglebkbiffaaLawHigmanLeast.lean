import Derived.Test.YtmagglebkbiffaaHHigmanLeast
import Derived.Test.YtmagglebkbiffaaPureHigmanLeast
namespace Go.Proofs.Ytmagglebkbiffaa
/-- The row, under a short name, for the claim. -/
theorem higmanLeast_holds : Rows.HigmanLeastSaid := higmanLeast.proved Pure.HigmanLeast
#print axioms higmanLeast_holds
end Go.Proofs.Ytmagglebkbiffaa
