import Derived.Test.YtmagglebkbiffaaHCodeCheap
import Derived.Test.YtmagglebkbiffaaPureCodeCheap
namespace Go.Proofs.Ytmagglebkbiffaa
/-- The row, under a short name, for the claim. -/
theorem codeCheap_holds : Rows.CodeCheapSaid := codeCheap.proved Pure.CodeCheap
#print axioms codeCheap_holds
end Go.Proofs.Ytmagglebkbiffaa
