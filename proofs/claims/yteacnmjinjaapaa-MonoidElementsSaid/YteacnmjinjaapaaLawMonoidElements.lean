import Derived.Test.YteacnmjinjaapaaHMonoidElements
import Derived.Test.YteacnmjinjaapaaPureMonoidElements
namespace Go.Proofs.Yteacnmjinjaapaa
/-- The row, under a short name, for the claim. -/
theorem monoidElements_holds : Rows.MonoidElementsSaid := monoidElements.proved Pure.MonoidElements
#print axioms monoidElements_holds
end Go.Proofs.Yteacnmjinjaapaa
