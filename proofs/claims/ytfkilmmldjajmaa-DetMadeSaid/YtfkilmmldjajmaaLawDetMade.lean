import Derived.Test.YtfkilmmldjajmaaHDetMade
import Derived.Test.YtfkilmmldjajmaaPureDetMade
namespace Go.Proofs.Ytfkilmmldjajmaa
/-- The row, under a short name, for the claim. -/
theorem detMade_holds : Rows.DetMadeSaid := detMade.proved Pure.DetMade
#print axioms detMade_holds
end Go.Proofs.Ytfkilmmldjajmaa
