-- Printed over the kit's print by a program of this session (wip/hprint.py), with contracts of its own hand.
import Derived.Test.YtaaibckhpbmbeaaPCodeSyncx5
namespace Go.Proofs.Ytaaibckhpbmbeaa.PCodeSync
open Go.RowKit Go.Proofs.YtaaibckhpbmbeaaW.PrintWords Go.Proofs.YtaaibckhpbmbeaaW.PrintLast
/-- The one pure statement of the law, over whatever arguments can be read. -/
def evermorelaw_CodeSync.PureH : Prop := ∀ (a0_0 : Int) (a0_1 : Int) (l0_2 : List (List Int)) (l0_3 : List Int), (((Lit.int .i64 a0_0).wf = true) ∧ ((Lit.int .i64 a0_1).wf = true) ∧ ((l0_2.length ≤ 9223372036854775807 ∧ l0_2.length * 24 ≤ 140737488351232 ∧ ∀ x1_ ∈ l0_2, (x1_.length ≤ 9223372036854775807 ∧ x1_.length * 8 ≤ 140737488351232 ∧ ∀ x2_ ∈ x1_, (Lit.int .i64 x2_).wf = true))) ∧ (l0_3.length ≤ 9223372036854775807 ∧ l0_3.length * 8 ≤ 140737488351232 ∧ ∀ x3_ ∈ l0_3, (Lit.int .i64 x3_).wf = true)) → ∃ k, evermorelaw_CodeSync.f k a0_0 a0_1 l0_2 l0_3 = some true
end Go.Proofs.Ytaaibckhpbmbeaa.PCodeSync
