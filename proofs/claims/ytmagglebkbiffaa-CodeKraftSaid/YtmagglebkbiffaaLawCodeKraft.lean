import Derived.Test.YtmagglebkbiffaaHCodeKraft
import Derived.Test.YtmagglebkbiffaaPureCodeKraft
namespace Go.Proofs.Ytmagglebkbiffaa
/-- The row, under a short name, for the claim. -/
theorem codeKraft_holds : Rows.CodeKraftSaid := codeKraft.proved Pure.CodeKraft
#print axioms codeKraft_holds
end Go.Proofs.Ytmagglebkbiffaa
