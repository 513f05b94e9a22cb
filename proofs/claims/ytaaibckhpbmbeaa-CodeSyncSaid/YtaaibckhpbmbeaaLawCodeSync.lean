-- Printed over the kit's print by a program of this session (wip/hprint.py), with contracts of its own hand.
import Derived.Test.YtaaibckhpbmbeaaHCodeSync
import Derived.Test.YtaaibckhpbmbeaaPureCodeSync
namespace Go.Proofs.Ytaaibckhpbmbeaa
/-- The row, under a short name, for the claim. -/
theorem codeSync_holds : Rows.CodeSyncSaid := codeSync.proved Pure.CodeSync
#print axioms codeSync_holds
end Go.Proofs.Ytaaibckhpbmbeaa
