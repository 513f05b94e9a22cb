-- Printed over the kit's print by a program of this session (wip/hprint.py), with contracts of its own hand.
import Derived.Test.YtklkcdphcmimoaaPCoverFiresx5
namespace Go.Proofs.Ytklkcdphcmimoaa.PCoverFires
open Go.RowKit Go.Proofs.YtklkcdphcmimoaaW.PrintWords Go.Proofs.YtklkcdphcmimoaaW.PrintLast
/-- The one pure statement of the law, over whatever arguments can be read. -/
def evermorelaw_CoverFires.PureH : Prop := ∀ (a0_0 : Int) (l0_1 : List (List Int)) (l0_2 : List (List Int)) (l1 : List Int) (a2 : Int), (((Lit.int .i64 a0_0).wf = true) ∧ ((l0_1.length ≤ 9223372036854775807 ∧ l0_1.length * 24 ≤ 140737488351232 ∧ ∀ x1_ ∈ l0_1, (x1_.length ≤ 9223372036854775807 ∧ x1_.length * 8 ≤ 140737488351232 ∧ ∀ x2_ ∈ x1_, (Lit.int .i64 x2_).wf = true))) ∧ (l0_2.length ≤ 9223372036854775807 ∧ l0_2.length * 24 ≤ 140737488351232 ∧ ∀ x3_ ∈ l0_2, (x3_.length ≤ 9223372036854775807 ∧ x3_.length * 8 ≤ 140737488351232 ∧ ∀ x4_ ∈ x3_, (Lit.int .i64 x4_).wf = true))) → (l1.length ≤ 9223372036854775807 ∧ l1.length * 8 ≤ 140737488351232 ∧ ∀ x5_ ∈ l1, (Lit.int .i64 x5_).wf = true) → (Lit.int .i64 a2).wf = true → ∃ k, evermorelaw_CoverFires.f k a0_0 l0_1 l0_2 l1 a2 = some true
end Go.Proofs.Ytklkcdphcmimoaa.PCoverFires
