-- Printed over the kit's print by a program of this session (wip/hprint.py), with contracts of its own hand.
import Derived.Test.YtklkcdphcmimoaaHSameHolds
import Derived.Test.YtklkcdphcmimoaaPureSameHolds
namespace Go.Proofs.Ytklkcdphcmimoaa
/-- The row, under a short name, for the claim. -/
theorem sameHolds_holds : Rows.SameHoldsSaid := sameHolds.proved Pure.SameHolds
#print axioms sameHolds_holds
end Go.Proofs.Ytklkcdphcmimoaa
