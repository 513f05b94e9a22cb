import Derived.Test.YtooagmggibdlbaaHLyndonBruijn
import Derived.Test.YtooagmggibdlbaaPureLyndonBruijn
namespace Go.Proofs.Ytooagmggibdlbaa
/-- The row, under a short name, for the claim. -/
theorem lyndonBruijn_holds : Rows.LyndonBruijnSaid := lyndonBruijn.proved Pure.LyndonBruijn
#print axioms lyndonBruijn_holds
end Go.Proofs.Ytooagmggibdlbaa
