-- Printed over the kit's print by a program of this session (wip/hprint.py), with contracts of its own hand.
import Derived.Test.YthbdmfhobienaaaHStackSteps
import Derived.Test.YthbdmfhobienaaaPureStackSteps
namespace Go.Proofs.Ythbdmfhobienaaa
/-- The row, under a short name, for the claim. -/
theorem stackSteps_holds : Rows.StackStepsSaid := stackSteps.proved Pure.StackSteps
#print axioms stackSteps_holds
end Go.Proofs.Ythbdmfhobienaaa
