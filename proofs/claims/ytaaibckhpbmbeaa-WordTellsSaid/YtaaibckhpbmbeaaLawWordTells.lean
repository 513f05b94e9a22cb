import Derived.Test.YtaaibckhpbmbeaaHWordTells
import Derived.Test.YtaaibckhpbmbeaaPureWordTells
namespace Go.Proofs.Ytaaibckhpbmbeaa
/-- The row, under a short name, for the claim. -/
theorem wordTells_holds : Rows.WordTellsSaid := wordTells.proved Pure.WordTells
#print axioms wordTells_holds
end Go.Proofs.Ytaaibckhpbmbeaa
