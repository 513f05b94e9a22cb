-- Printed over the kit's print by a program of this session (wip/hprint.py), with contracts of its own hand.
import Derived.Test.YtaaibckhpbmbeaaHSafraAccepts
import Derived.Test.YtaaibckhpbmbeaaPureSafraAccepts
namespace Go.Proofs.Ytaaibckhpbmbeaa
/-- The row, under a short name, for the claim. -/
theorem safraAccepts_holds : Rows.SafraAcceptsSaid := safraAccepts.proved Pure.SafraAccepts
#print axioms safraAccepts_holds
end Go.Proofs.Ytaaibckhpbmbeaa
