-- Printed over the kit's print by a program of this session (wip/hprint.py), with contracts of its own hand.
import Derived.Test.YtklkcdphcmimoaaPSameHoldsx10
namespace Go.Proofs.Ytklkcdphcmimoaa.PSameHolds
open Go.RowKit Go.Proofs.YtklkcdphcmimoaaW.PrintWords Go.Proofs.YtklkcdphcmimoaaW.PrintLast
/-- The one pure statement of the law, over whatever arguments can be read. -/
def evermorelaw_SameHolds.PureH : Prop := ∀ (a0_0 : Int) (a0_1 : Int) (l0_2 : List (S133)) (l1 : List (S138)), (((Lit.int .i64 a0_0).wf = true) ∧ ((Lit.int .i64 a0_1).wf = true) ∧ (l0_2.length ≤ 9223372036854775807 ∧ l0_2.length * 24 ≤ 140737488351232 ∧ ∀ x1_ ∈ l0_2, (((Lit.int .i64 x1_.f0).wf = true) ∧ ((Lit.int .i64 x1_.f1).wf = true) ∧ (Lit.int .i64 x1_.f2).wf = true))) → (l1.length ≤ 9223372036854775807 ∧ l1.length * 32 ≤ 140737488351232 ∧ ∀ x2_ ∈ l1, (((Lit.int .i64 x2_.f0).wf = true) ∧ ((Lit.int .i64 x2_.f1).wf = true) ∧ ((Lit.int .i64 x2_.f2).wf = true) ∧ (Lit.int .i64 x2_.f3).wf = true)) → ∃ k, evermorelaw_SameHolds.f k a0_0 a0_1 l0_2 l1 = some true
end Go.Proofs.Ytklkcdphcmimoaa.PSameHolds
