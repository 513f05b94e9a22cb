-- Printed over the kit's print by a program of this session (wip/hprint.py), with contracts of its own hand.
import Derived.Test.YthbdmfhobienaaaHSeqsDiffers
import Derived.Test.YthbdmfhobienaaaPureSeqsDiffers
namespace Go.Proofs.Ythbdmfhobienaaa
/-- The row, under a short name, for the claim. -/
theorem seqsDiffers_holds : Rows.SeqsDiffersSaid := seqsDiffers.proved Pure.SeqsDiffers
#print axioms seqsDiffers_holds
end Go.Proofs.Ythbdmfhobienaaa
