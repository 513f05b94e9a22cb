-- Printed over the kit's print by a program of this session (wip/hprint.py), with contracts of its own hand.
import Derived.Test.YthbdmfhobienaaaPStackStepsx6
namespace Go.Proofs.Ythbdmfhobienaaa.PStackSteps
open Go.RowKit Go.Proofs.YthbdmfhobienaaaW.PrintWords Go.Proofs.YthbdmfhobienaaaW.PrintLast
/-- The one pure statement of the law, over whatever arguments can be read. -/
def evermorelaw_StackSteps.PureH : Prop := ∀ (l0 : List (S72)) (a1_0 : Int) (l1_1 : List Int) (a2 : Int), (l0.length ≤ 9223372036854775807 ∧ l0.length * 48 ≤ 140737488351232 ∧ ∀ x1_ ∈ l0, (((Lit.int .i64 x1_.f0).wf = true) ∧ ((Lit.int .i64 x1_.f1).wf = true) ∧ ((Lit.int .i64 x1_.f2).wf = true) ∧ (x1_.f3.length ≤ 9223372036854775807 ∧ x1_.f3.length * 8 ≤ 140737488351232 ∧ ∀ x2_ ∈ x1_.f3, (Lit.int .i64 x2_).wf = true))) → (((Lit.int .i64 a1_0).wf = true) ∧ (l1_1.length ≤ 9223372036854775807 ∧ l1_1.length * 8 ≤ 140737488351232 ∧ ∀ x3_ ∈ l1_1, (Lit.int .i64 x3_).wf = true)) → (Lit.int .i64 a2).wf = true → ∃ k, evermorelaw_StackSteps.f k l0 a1_0 l1_1 a2 = some true
end Go.Proofs.Ythbdmfhobienaaa.PStackSteps
