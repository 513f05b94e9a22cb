import Derived.Test.YtfkilmmldjajmaaHCodeUnique
import Derived.Test.YtfkilmmldjajmaaPureCodeUnique
namespace Go.Proofs.Ytfkilmmldjajmaa
/-- The row, under a short name, for the claim. -/
theorem codeUnique_holds : Rows.CodeUniqueSaid := codeUnique.proved Pure.CodeUnique
#print axioms codeUnique_holds
end Go.Proofs.Ytfkilmmldjajmaa
