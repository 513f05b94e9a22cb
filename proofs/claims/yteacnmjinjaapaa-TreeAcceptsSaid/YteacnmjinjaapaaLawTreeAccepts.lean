-- Printed over the kit's print by a program of this session (wip/hprint.py), with contracts of its own hand.
import Derived.Test.YteacnmjinjaapaaHTreeAccepts
import Derived.Test.YteacnmjinjaapaaPureTreeAccepts
namespace Go.Proofs.Yteacnmjinjaapaa
/-- The row, under a short name, for the claim. -/
theorem treeAccepts_holds : Rows.TreeAcceptsSaid := treeAccepts.proved Pure.TreeAccepts
#print axioms treeAccepts_holds
end Go.Proofs.Yteacnmjinjaapaa
