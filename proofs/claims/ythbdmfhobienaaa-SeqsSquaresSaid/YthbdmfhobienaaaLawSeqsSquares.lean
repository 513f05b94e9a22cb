-- Printed over the kit's print by a program of this session (wip/hprint.py), with contracts of its own hand.
import Derived.Test.YthbdmfhobienaaaHSeqsSquares
import Derived.Test.YthbdmfhobienaaaPureSeqsSquares
namespace Go.Proofs.Ythbdmfhobienaaa
/-- The row, under a short name, for the claim. -/
theorem seqsSquares_holds : Rows.SeqsSquaresSaid := seqsSquares.proved Pure.SeqsSquares
#print axioms seqsSquares_holds
end Go.Proofs.Ythbdmfhobienaaa
