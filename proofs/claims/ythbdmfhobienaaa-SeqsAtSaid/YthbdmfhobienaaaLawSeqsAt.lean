-- Printed over the kit's print by a program of this session (wip/hprint.py), with contracts of its own hand.
import Derived.Test.YthbdmfhobienaaaHSeqsAt
import Derived.Test.YthbdmfhobienaaaPureSeqsAt
namespace Go.Proofs.Ythbdmfhobienaaa
/-- The row, under a short name, for the claim. -/
theorem seqsAt_holds : Rows.SeqsAtSaid := seqsAt.proved Pure.SeqsAt
#print axioms seqsAt_holds
end Go.Proofs.Ythbdmfhobienaaa
