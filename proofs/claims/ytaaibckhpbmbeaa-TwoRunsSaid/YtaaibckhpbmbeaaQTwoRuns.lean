-- Printed over the kit's print by a program of this session (wip/hprint.py), with contracts of its own hand.
import Derived.Test.YtaaibckhpbmbeaaPTwoRunsx7
namespace Go.Proofs.Ytaaibckhpbmbeaa.PTwoRuns
open Go.RowKit Go.Proofs.YtaaibckhpbmbeaaW.PrintWords Go.Proofs.YtaaibckhpbmbeaaW.PrintLast
/-- The one pure statement of the law, over whatever arguments can be read. -/
def evermorelaw_TwoRuns.PureH : Prop := ∀ (a0_0 : Int) (a0_1 : Int) (l0_2 : List (List (S144))) (l0_3 : List Int) (l1 : List Int), (((Lit.int .i64 a0_0).wf = true) ∧ ((Lit.int .i64 a0_1).wf = true) ∧ ((l0_2.length ≤ 9223372036854775807 ∧ l0_2.length * 24 ≤ 140737488351232 ∧ ∀ x1_ ∈ l0_2, (x1_.length ≤ 9223372036854775807 ∧ x1_.length * 16 ≤ 140737488351232 ∧ ∀ x2_ ∈ x1_, (((Lit.int .i64 x2_.f0).wf = true) ∧ (Lit.int .i64 x2_.f1).wf = true)))) ∧ (l0_3.length ≤ 9223372036854775807 ∧ l0_3.length * 8 ≤ 140737488351232 ∧ ∀ x3_ ∈ l0_3, (Lit.int .i64 x3_).wf = true)) → (l1.length ≤ 9223372036854775807 ∧ l1.length * 8 ≤ 140737488351232 ∧ ∀ x4_ ∈ l1, (Lit.int .i64 x4_).wf = true) → ∃ k, evermorelaw_TwoRuns.f k a0_0 a0_1 l0_2 l0_3 l1 = some true
end Go.Proofs.Ytaaibckhpbmbeaa.PTwoRuns
