-- Printed over the kit's print by a program of this session (wip/hprint.py), with contracts of its own hand.
import Derived.Test.YtaaibckhpbmbeaaHTwoRuns
import Derived.Test.YtaaibckhpbmbeaaPureTwoRuns
namespace Go.Proofs.Ytaaibckhpbmbeaa
/-- The row, under a short name, for the claim. -/
theorem twoRuns_holds : Rows.TwoRunsSaid := twoRuns.proved Pure.TwoRuns
#print axioms twoRuns_holds
end Go.Proofs.Ytaaibckhpbmbeaa
