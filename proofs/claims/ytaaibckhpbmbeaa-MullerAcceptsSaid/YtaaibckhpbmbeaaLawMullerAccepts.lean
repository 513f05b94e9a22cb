-- Printed over the kit's print by a program of this session (wip/hprint.py), with contracts of its own hand.
import Derived.Test.YtaaibckhpbmbeaaHMullerAccepts
import Derived.Test.YtaaibckhpbmbeaaPureMullerAccepts
namespace Go.Proofs.Ytaaibckhpbmbeaa
/-- The row, under a short name, for the claim. -/
theorem mullerAccepts_holds : Rows.MullerAcceptsSaid := mullerAccepts.proved Pure.MullerAccepts
#print axioms mullerAccepts_holds
end Go.Proofs.Ytaaibckhpbmbeaa
