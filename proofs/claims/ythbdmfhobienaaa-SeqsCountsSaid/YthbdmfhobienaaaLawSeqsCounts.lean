-- Printed over the kit's print by a program of this session (wip/hprint.py), with contracts of its own hand.
import Derived.Test.YthbdmfhobienaaaHSeqsCounts
import Derived.Test.YthbdmfhobienaaaPureSeqsCounts
namespace Go.Proofs.Ythbdmfhobienaaa
/-- The row, under a short name, for the claim. -/
theorem seqsCounts_holds : Rows.SeqsCountsSaid := seqsCounts.proved Pure.SeqsCounts
#print axioms seqsCounts_holds
end Go.Proofs.Ythbdmfhobienaaa
