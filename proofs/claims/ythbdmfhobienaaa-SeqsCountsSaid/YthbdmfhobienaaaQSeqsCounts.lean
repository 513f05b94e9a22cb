-- Printed over the kit's print by a program of this session (wip/hprint.py), with contracts of its own hand.
import Derived.Test.YthbdmfhobienaaaPSeqsCountsx7
namespace Go.Proofs.Ythbdmfhobienaaa.PSeqsCounts
open Go.RowKit Go.Proofs.YthbdmfhobienaaaW.PrintWords Go.Proofs.YthbdmfhobienaaaW.PrintLast
/-- The one pure statement of the law, over whatever arguments can be read. -/
def evermorelaw_SeqsCounts.PureH : Prop := ∀ (a0_0 : Int) (l0_1 : List (List Int)) (l0_2 : List Int) (a1 : Int), (((Lit.int .i64 a0_0).wf = true) ∧ ((l0_1.length ≤ 9223372036854775807 ∧ l0_1.length * 24 ≤ 140737488351232 ∧ ∀ x1_ ∈ l0_1, (x1_.length ≤ 9223372036854775807 ∧ x1_.length * 8 ≤ 140737488351232 ∧ ∀ x2_ ∈ x1_, (Lit.int .i64 x2_).wf = true))) ∧ (l0_2.length ≤ 9223372036854775807 ∧ l0_2.length * 8 ≤ 140737488351232 ∧ ∀ x3_ ∈ l0_2, (Lit.int .i64 x3_).wf = true)) → (Lit.int .i64 a1).wf = true → ∃ k, evermorelaw_SeqsCounts.f k a0_0 l0_1 l0_2 a1 = some true
end Go.Proofs.Ythbdmfhobienaaa.PSeqsCounts
