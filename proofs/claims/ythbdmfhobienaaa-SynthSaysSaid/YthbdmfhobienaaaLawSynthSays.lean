-- Printed over the kit's print by a program of this session (wip/hprint.py), with contracts of its own hand.
import Derived.Test.YthbdmfhobienaaaHSynthSays
import Derived.Test.YthbdmfhobienaaaPureSynthSays
namespace Go.Proofs.Ythbdmfhobienaaa
/-- The row, under a short name, for the claim. -/
theorem synthSays_holds : Rows.SynthSaysSaid := synthSays.proved Pure.SynthSays
#print axioms synthSays_holds
end Go.Proofs.Ythbdmfhobienaaa
