-- Printed over the kit's print by a program of this session (wip/hprint.py), with contracts of its own hand.
import Derived.Test.YthbdmfhobienaaaPSynthSaysx4
namespace Go.Proofs.Ythbdmfhobienaaa.PSynthSays
open Go.RowKit Go.Proofs.YthbdmfhobienaaaW.PrintWords Go.Proofs.YthbdmfhobienaaaW.PrintLast
/-- The one pure statement of the law, over whatever arguments can be read. -/
def evermorelaw_SynthSays.PureH : Prop := ∀ (a0_0 : Bool) (a0_1 : Int) (l0_2 : List (S87)) (l0_3 : List (S87)) (l1 : List Int), ((True) ∧ ((Lit.int .i64 a0_1).wf = true) ∧ ((l0_2.length ≤ 9223372036854775807 ∧ l0_2.length * 16 ≤ 140737488351232 ∧ ∀ x1_ ∈ l0_2, (((Lit.int .i64 x1_.f0).wf = true) ∧ (Lit.int .i64 x1_.f1).wf = true))) ∧ (l0_3.length ≤ 9223372036854775807 ∧ l0_3.length * 16 ≤ 140737488351232 ∧ ∀ x2_ ∈ l0_3, (((Lit.int .i64 x2_.f0).wf = true) ∧ (Lit.int .i64 x2_.f1).wf = true))) → (l1.length ≤ 9223372036854775807 ∧ l1.length * 8 ≤ 140737488351232 ∧ ∀ x3_ ∈ l1, (Lit.int .i64 x3_).wf = true) → ∃ k, evermorelaw_SynthSays.f k a0_0 a0_1 l0_2 l0_3 l1 = some true
end Go.Proofs.Ythbdmfhobienaaa.PSynthSays
