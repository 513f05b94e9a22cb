-- Printed over the kit's print by a program of this session (wip/hprint.py), with contracts of its own hand.
import Derived.Test.YtklkcdphcmimoaaHTransRuns
import Derived.Test.YtklkcdphcmimoaaPureTransRuns
namespace Go.Proofs.Ytklkcdphcmimoaa
/-- The row, under a short name, for the claim. -/
theorem transRuns_holds : Rows.TransRunsSaid := transRuns.proved Pure.TransRuns
#print axioms transRuns_holds
end Go.Proofs.Ytklkcdphcmimoaa
