import Derived.Test.YtklkcdphcmimoaaHSeqsKernel
import Derived.Test.YtklkcdphcmimoaaPureSeqsKernel
namespace Go.Proofs.Ytklkcdphcmimoaa
/-- The row, under a short name, for the claim. -/
theorem seqsKernel_holds : Rows.SeqsKernelSaid := seqsKernel.proved Pure.SeqsKernel
#print axioms seqsKernel_holds
end Go.Proofs.Ytklkcdphcmimoaa
