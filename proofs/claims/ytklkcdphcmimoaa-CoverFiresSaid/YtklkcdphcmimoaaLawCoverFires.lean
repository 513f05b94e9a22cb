-- Printed over the kit's print by a program of this session (wip/hprint.py), with contracts of its own hand.
import Derived.Test.YtklkcdphcmimoaaHCoverFires
import Derived.Test.YtklkcdphcmimoaaPureCoverFires
namespace Go.Proofs.Ytklkcdphcmimoaa
/-- The row, under a short name, for the claim. -/
theorem coverFires_holds : Rows.CoverFiresSaid := coverFires.proved Pure.CoverFires
#print axioms coverFires_holds
end Go.Proofs.Ytklkcdphcmimoaa
