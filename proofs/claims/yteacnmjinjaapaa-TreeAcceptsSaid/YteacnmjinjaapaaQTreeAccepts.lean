-- Printed over the kit's print by a program of this session (wip/hprint.py), with contracts of its own hand.
import Derived.Test.YteacnmjinjaapaaPTreeAcceptsx11
namespace Go.Proofs.Yteacnmjinjaapaa.PTreeAccepts
open Go.RowKit Go.Proofs.YteacnmjinjaapaaW.PrintWords Go.Proofs.YteacnmjinjaapaaW.PrintLast
/-- The one pure statement of the law, over whatever arguments can be read. -/
def evermorelaw_TreeAccepts.PureH : Prop := ∀ (a0_0 : Int) (a0_1 : Int) (l0_2 : List (S157)) (a0_3 : Int) (l0_4 : List Int) (l1_0 : List (S162)) (a2 : Int), (((Lit.int .i64 a0_0).wf = true) ∧ ((Lit.int .i64 a0_1).wf = true) ∧ ((l0_2.length ≤ 9223372036854775807 ∧ l0_2.length * 32 ≤ 140737488351232 ∧ ∀ x1_ ∈ l0_2, (((Lit.int .i64 x1_.f0).wf = true) ∧ ((Lit.int .i64 x1_.f1).wf = true) ∧ ((Lit.int .i64 x1_.f2).wf = true) ∧ (Lit.int .i64 x1_.f3).wf = true))) ∧ ((Lit.int .i64 a0_3).wf = true) ∧ (l0_4.length ≤ 9223372036854775807 ∧ l0_4.length * 8 ≤ 140737488351232 ∧ ∀ x2_ ∈ l0_4, (Lit.int .i64 x2_).wf = true)) → ((l1_0.length ≤ 9223372036854775807 ∧ l1_0.length * 24 ≤ 140737488351232 ∧ ∀ x3_ ∈ l1_0, (((Lit.int .i64 x3_.f0).wf = true) ∧ ((Lit.int .i64 x3_.f1).wf = true) ∧ (Lit.int .i64 x3_.f2).wf = true))) → (Lit.int .i64 a2).wf = true → ∃ k, evermorelaw_TreeAccepts.f k a0_0 a0_1 l0_2 a0_3 l0_4 l1_0 a2 = some true
end Go.Proofs.Yteacnmjinjaapaa.PTreeAccepts
