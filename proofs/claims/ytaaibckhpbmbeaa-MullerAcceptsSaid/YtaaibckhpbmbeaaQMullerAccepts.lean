-- Printed over the kit's print by a program of this session (wip/hprint.py), with contracts of its own hand.
import Derived.Test.YtaaibckhpbmbeaaPMullerAcceptsx6
namespace Go.Proofs.Ytaaibckhpbmbeaa.PMullerAccepts
open Go.RowKit Go.Proofs.YtaaibckhpbmbeaaW.PrintWords Go.Proofs.YtaaibckhpbmbeaaW.PrintLast
/-- The one pure statement of the law, over whatever arguments can be read. -/
def evermorelaw_MullerAccepts.PureH : Prop := ∀ (a0_0 : Int) (a0_1 : Int) (l0_2 : List (List Int)) (l0_3 : List Int) (l1_0 : List Int) (l1_1 : List Int), (((Lit.int .i64 a0_0).wf = true) ∧ ((Lit.int .i64 a0_1).wf = true) ∧ ((l0_2.length ≤ 9223372036854775807 ∧ l0_2.length * 24 ≤ 140737488351232 ∧ ∀ x1_ ∈ l0_2, (x1_.length ≤ 9223372036854775807 ∧ x1_.length * 8 ≤ 140737488351232 ∧ ∀ x2_ ∈ x1_, (Lit.int .i64 x2_).wf = true))) ∧ (l0_3.length ≤ 9223372036854775807 ∧ l0_3.length * 8 ≤ 140737488351232 ∧ ∀ x3_ ∈ l0_3, (Lit.int .i64 x3_).wf = true)) → (((l1_0.length ≤ 9223372036854775807 ∧ l1_0.length * 8 ≤ 140737488351232 ∧ ∀ x4_ ∈ l1_0, (Lit.int .i64 x4_).wf = true)) ∧ (l1_1.length ≤ 9223372036854775807 ∧ l1_1.length * 8 ≤ 140737488351232 ∧ ∀ x5_ ∈ l1_1, (Lit.int .i64 x5_).wf = true)) → ∃ k, evermorelaw_MullerAccepts.f k a0_0 a0_1 l0_2 l0_3 l1_0 l1_1 = some true
end Go.Proofs.Ytaaibckhpbmbeaa.PMullerAccepts
