/-
  No cell of these rows narrows 'for every input' (looked for: loops, veiled, ifaces, maps, wideKeys, modest, calm, conditions, laid).
  DERIVED. THE GIVEN ROWS OF THIS SEAT. 12 by the template 'for every input the law returns true; each argument reads behind the call as it read before'; 0 by the template 'total and deterministic' (their statements: YtmagglebkbiffaaTotals.lean).
  GIVEN WITH THE SEED: the statements are not yours to turn. If you find one false, say at which input.
  Laid BY PROGRAM, IN A SANDBOX (cutbox-rows.mjs): the forced cells as the released guide's own fill.sh prints them over the translation c6d4c0bd21032c6c… (all of the seat's roots in one cut). By AI agents, Wed Nov 11 2026. No macro, syntax, notation, axiom, sorry.
-/
import Derived.Test.YtmagglebkbiffaaChecked
import GoSem.Claim
import GoSem.ClaimJoined
import GoSem.ClaimMapViews
import Derived.JoinedTies
import Derived.KernelRfl
namespace Go.Proofs.Ytmagglebkbiffaa
/- THE CELL 'sum', in the pinned program and in every row, IS THE sha256 OF THE DUMP (.gsa) THAT YtmagglebkbiffaaProg.lean LOADS. Nothing in Lean hashes anything: it is a label: what it is worth is what the hold of that sum in a sandbox is worth. -/
noncomputable def Try.pinned : Pinned := { name := "ytmagglebkbiffaa", sum := "c6d4c0bd21032c6c12ab9ffd7b5b4aeb60377694115d86d8286062a6430817f4", checked := Try.checked }
namespace Rows
def none {H : Type} : Left H := { results := [], args := [] }

/-- 'evermorelaw.HigmanLeast': WHATEVER THE INPUT: true; the input reads as it did. -/
def higmanLeastSpec : ChangeSpec := { name := "higmanLeast", fn := fun _ => fun
  | [d1, d2] => { results := [.lit (.bool true)], args := [d1, d2] }
  | _ => none }
def higmanLeastRow : OpenClaim := { program := "ytmagglebkbiffaa", sum := "c6d4c0bd21032c6c12ab9ffd7b5b4aeb60377694115d86d8286062a6430817f4", func := "evermore/evermorelaw.HigmanLeast", spec := "higmanLeast", unfollowed := true, recurses := true, plainKeys := false, apart := false }
def HigmanLeastSaid : Prop := higmanLeastRow.holds Try.pinned (OpenSpec.ofChange higmanLeastSpec)

/-- ITS FALSE NEIGHBOUR: 'it returns false'. Refute it at one input. -/
def higmanLeastWrong : ChangeSpec := { name := "higmanLeast", fn := fun _ => fun
  | [d1, d2] => { results := [.lit (.bool false)], args := [d1, d2] }
  | _ => none }
def HigmanLeastWrongFalsely : Prop := higmanLeastRow.holds Try.pinned (OpenSpec.ofChange higmanLeastWrong)

/-- 'evermorelaw.TransDiffers': WHATEVER THE INPUT: true; the input reads as it did. -/
def transDiffersSpec : ChangeSpec := { name := "transDiffers", fn := fun _ => fun
  | [d1, d2, d3] => { results := [.lit (.bool true)], args := [d1, d2, d3] }
  | _ => none }
def transDiffersRow : OpenClaim := { program := "ytmagglebkbiffaa", sum := "c6d4c0bd21032c6c12ab9ffd7b5b4aeb60377694115d86d8286062a6430817f4", func := "evermore/evermorelaw.TransDiffers", spec := "transDiffers", unfollowed := true, recurses := true, plainKeys := false, apart := false }
def TransDiffersSaid : Prop := transDiffersRow.holds Try.pinned (OpenSpec.ofChange transDiffersSpec)

/-- ITS FALSE NEIGHBOUR: 'it returns false'. Refute it at one input. -/
def transDiffersWrong : ChangeSpec := { name := "transDiffers", fn := fun _ => fun
  | [d1, d2, d3] => { results := [.lit (.bool false)], args := [d1, d2, d3] }
  | _ => none }
def TransDiffersWrongFalsely : Prop := transDiffersRow.holds Try.pinned (OpenSpec.ofChange transDiffersWrong)

/-- 'evermorelaw.SameTells': WHATEVER THE INPUT: true; the input reads as it did. -/
def sameTellsSpec : ChangeSpec := { name := "sameTells", fn := fun _ => fun
  | [d1, d2, d3, d4] => { results := [.lit (.bool true)], args := [d1, d2, d3, d4] }
  | _ => none }
def sameTellsRow : OpenClaim := { program := "ytmagglebkbiffaa", sum := "c6d4c0bd21032c6c12ab9ffd7b5b4aeb60377694115d86d8286062a6430817f4", func := "evermore/evermorelaw.SameTells", spec := "sameTells", unfollowed := true, recurses := true, plainKeys := false, apart := false }
def SameTellsSaid : Prop := sameTellsRow.holds Try.pinned (OpenSpec.ofChange sameTellsSpec)

/-- ITS FALSE NEIGHBOUR: 'it returns false'. Refute it at one input. -/
def sameTellsWrong : ChangeSpec := { name := "sameTells", fn := fun _ => fun
  | [d1, d2, d3, d4] => { results := [.lit (.bool false)], args := [d1, d2, d3, d4] }
  | _ => none }
def SameTellsWrongFalsely : Prop := sameTellsRow.holds Try.pinned (OpenSpec.ofChange sameTellsWrong)

/-- 'evermorelaw.WeighJoins': WHATEVER THE INPUT: true; the input reads as it did. -/
def weighJoinsSpec : ChangeSpec := { name := "weighJoins", fn := fun _ => fun
  | [d1, d2, d3] => { results := [.lit (.bool true)], args := [d1, d2, d3] }
  | _ => none }
def weighJoinsRow : OpenClaim := { program := "ytmagglebkbiffaa", sum := "c6d4c0bd21032c6c12ab9ffd7b5b4aeb60377694115d86d8286062a6430817f4", func := "evermore/evermorelaw.WeighJoins", spec := "weighJoins", unfollowed := true, recurses := true, plainKeys := false, apart := false }
def WeighJoinsSaid : Prop := weighJoinsRow.holds Try.pinned (OpenSpec.ofChange weighJoinsSpec)

/-- ITS FALSE NEIGHBOUR: 'it returns false'. Refute it at one input. -/
def weighJoinsWrong : ChangeSpec := { name := "weighJoins", fn := fun _ => fun
  | [d1, d2, d3] => { results := [.lit (.bool false)], args := [d1, d2, d3] }
  | _ => none }
def WeighJoinsWrongFalsely : Prop := weighJoinsRow.holds Try.pinned (OpenSpec.ofChange weighJoinsWrong)

/-- 'evermorelaw.RewriteNormal': WHATEVER THE INPUT: true; the input reads as it did. -/
def rewriteNormalSpec : ChangeSpec := { name := "rewriteNormal", fn := fun _ => fun
  | [d1, d2, d3] => { results := [.lit (.bool true)], args := [d1, d2, d3] }
  | _ => none }
def rewriteNormalRow : OpenClaim := { program := "ytmagglebkbiffaa", sum := "c6d4c0bd21032c6c12ab9ffd7b5b4aeb60377694115d86d8286062a6430817f4", func := "evermore/evermorelaw.RewriteNormal", spec := "rewriteNormal", unfollowed := true, recurses := true, plainKeys := false, apart := false }
def RewriteNormalSaid : Prop := rewriteNormalRow.holds Try.pinned (OpenSpec.ofChange rewriteNormalSpec)

/-- ITS FALSE NEIGHBOUR: 'it returns false'. Refute it at one input. -/
def rewriteNormalWrong : ChangeSpec := { name := "rewriteNormal", fn := fun _ => fun
  | [d1, d2, d3] => { results := [.lit (.bool false)], args := [d1, d2, d3] }
  | _ => none }
def RewriteNormalWrongFalsely : Prop := rewriteNormalRow.holds Try.pinned (OpenSpec.ofChange rewriteNormalWrong)

/-- 'evermorelaw.GramUseful': WHATEVER THE INPUT: true; the input reads as it did. -/
def gramUsefulSpec : ChangeSpec := { name := "gramUseful", fn := fun _ => fun
  | [d] => { results := [.lit (.bool true)], args := [d] }
  | _ => none }
def gramUsefulRow : OpenClaim := { program := "ytmagglebkbiffaa", sum := "c6d4c0bd21032c6c12ab9ffd7b5b4aeb60377694115d86d8286062a6430817f4", func := "evermore/evermorelaw.GramUseful", spec := "gramUseful", unfollowed := true, recurses := true, plainKeys := false, apart := false }
def GramUsefulSaid : Prop := gramUsefulRow.holds Try.pinned (OpenSpec.ofChange gramUsefulSpec)

/-- ITS FALSE NEIGHBOUR: 'it returns false'. Refute it at one input. -/
def gramUsefulWrong : ChangeSpec := { name := "gramUseful", fn := fun _ => fun
  | [d] => { results := [.lit (.bool false)], args := [d] }
  | _ => none }
def GramUsefulWrongFalsely : Prop := gramUsefulRow.holds Try.pinned (OpenSpec.ofChange gramUsefulWrong)

/-- 'evermorelaw.RewriteForks': WHATEVER THE INPUT: true; the input reads as it did. -/
def rewriteForksSpec : ChangeSpec := { name := "rewriteForks", fn := fun _ => fun
  | [d1, d2] => { results := [.lit (.bool true)], args := [d1, d2] }
  | _ => none }
def rewriteForksRow : OpenClaim := { program := "ytmagglebkbiffaa", sum := "c6d4c0bd21032c6c12ab9ffd7b5b4aeb60377694115d86d8286062a6430817f4", func := "evermore/evermorelaw.RewriteForks", spec := "rewriteForks", unfollowed := true, recurses := true, plainKeys := false, apart := false }
def RewriteForksSaid : Prop := rewriteForksRow.holds Try.pinned (OpenSpec.ofChange rewriteForksSpec)

/-- ITS FALSE NEIGHBOUR: 'it returns false'. Refute it at one input. -/
def rewriteForksWrong : ChangeSpec := { name := "rewriteForks", fn := fun _ => fun
  | [d1, d2] => { results := [.lit (.bool false)], args := [d1, d2] }
  | _ => none }
def RewriteForksWrongFalsely : Prop := rewriteForksRow.holds Try.pinned (OpenSpec.ofChange rewriteForksWrong)

/-- 'evermorelaw.SameClasses': WHATEVER THE INPUT: true; the input reads as it did. -/
def sameClassesSpec : ChangeSpec := { name := "sameClasses", fn := fun _ => fun
  | [d] => { results := [.lit (.bool true)], args := [d] }
  | _ => none }
def sameClassesRow : OpenClaim := { program := "ytmagglebkbiffaa", sum := "c6d4c0bd21032c6c12ab9ffd7b5b4aeb60377694115d86d8286062a6430817f4", func := "evermore/evermorelaw.SameClasses", spec := "sameClasses", unfollowed := true, recurses := true, plainKeys := false, apart := false }
def SameClassesSaid : Prop := sameClassesRow.holds Try.pinned (OpenSpec.ofChange sameClassesSpec)

/-- ITS FALSE NEIGHBOUR: 'it returns false'. Refute it at one input. -/
def sameClassesWrong : ChangeSpec := { name := "sameClasses", fn := fun _ => fun
  | [d] => { results := [.lit (.bool false)], args := [d] }
  | _ => none }
def SameClassesWrongFalsely : Prop := sameClassesRow.holds Try.pinned (OpenSpec.ofChange sameClassesWrong)

/-- 'evermorelaw.TransLeast': WHATEVER THE INPUT: true; the input reads as it did. -/
def transLeastSpec : ChangeSpec := { name := "transLeast", fn := fun _ => fun
  | [d1, d2] => { results := [.lit (.bool true)], args := [d1, d2] }
  | _ => none }
def transLeastRow : OpenClaim := { program := "ytmagglebkbiffaa", sum := "c6d4c0bd21032c6c12ab9ffd7b5b4aeb60377694115d86d8286062a6430817f4", func := "evermore/evermorelaw.TransLeast", spec := "transLeast", unfollowed := true, recurses := true, plainKeys := false, apart := false }
def TransLeastSaid : Prop := transLeastRow.holds Try.pinned (OpenSpec.ofChange transLeastSpec)

/-- ITS FALSE NEIGHBOUR: 'it returns false'. Refute it at one input. -/
def transLeastWrong : ChangeSpec := { name := "transLeast", fn := fun _ => fun
  | [d1, d2] => { results := [.lit (.bool false)], args := [d1, d2] }
  | _ => none }
def TransLeastWrongFalsely : Prop := transLeastRow.holds Try.pinned (OpenSpec.ofChange transLeastWrong)

/-- 'evermorelaw.CodeCheap': WHATEVER THE INPUT: true; the input reads as it did. -/
def codeCheapSpec : ChangeSpec := { name := "codeCheap", fn := fun _ => fun
  | [d] => { results := [.lit (.bool true)], args := [d] }
  | _ => none }
def codeCheapRow : OpenClaim := { program := "ytmagglebkbiffaa", sum := "c6d4c0bd21032c6c12ab9ffd7b5b4aeb60377694115d86d8286062a6430817f4", func := "evermore/evermorelaw.CodeCheap", spec := "codeCheap", unfollowed := true, recurses := true, plainKeys := false, apart := false }
def CodeCheapSaid : Prop := codeCheapRow.holds Try.pinned (OpenSpec.ofChange codeCheapSpec)

/-- ITS FALSE NEIGHBOUR: 'it returns false'. Refute it at one input. -/
def codeCheapWrong : ChangeSpec := { name := "codeCheap", fn := fun _ => fun
  | [d] => { results := [.lit (.bool false)], args := [d] }
  | _ => none }
def CodeCheapWrongFalsely : Prop := codeCheapRow.holds Try.pinned (OpenSpec.ofChange codeCheapWrong)

/-- 'evermorelaw.CodeKraft': WHATEVER THE INPUT: true; the input reads as it did. -/
def codeKraftSpec : ChangeSpec := { name := "codeKraft", fn := fun _ => fun
  | [d1, d2] => { results := [.lit (.bool true)], args := [d1, d2] }
  | _ => none }
def codeKraftRow : OpenClaim := { program := "ytmagglebkbiffaa", sum := "c6d4c0bd21032c6c12ab9ffd7b5b4aeb60377694115d86d8286062a6430817f4", func := "evermore/evermorelaw.CodeKraft", spec := "codeKraft", unfollowed := true, recurses := true, plainKeys := false, apart := false }
def CodeKraftSaid : Prop := codeKraftRow.holds Try.pinned (OpenSpec.ofChange codeKraftSpec)

/-- ITS FALSE NEIGHBOUR: 'it returns false'. Refute it at one input. -/
def codeKraftWrong : ChangeSpec := { name := "codeKraft", fn := fun _ => fun
  | [d1, d2] => { results := [.lit (.bool false)], args := [d1, d2] }
  | _ => none }
def CodeKraftWrongFalsely : Prop := codeKraftRow.holds Try.pinned (OpenSpec.ofChange codeKraftWrong)

/-- 'evermorelaw.TransBehind': WHATEVER THE INPUT: true; the input reads as it did. -/
def transBehindSpec : ChangeSpec := { name := "transBehind", fn := fun _ => fun
  | [d1, d2, d3] => { results := [.lit (.bool true)], args := [d1, d2, d3] }
  | _ => none }
def transBehindRow : OpenClaim := { program := "ytmagglebkbiffaa", sum := "c6d4c0bd21032c6c12ab9ffd7b5b4aeb60377694115d86d8286062a6430817f4", func := "evermore/evermorelaw.TransBehind", spec := "transBehind", unfollowed := true, recurses := true, plainKeys := false, apart := false }
def TransBehindSaid : Prop := transBehindRow.holds Try.pinned (OpenSpec.ofChange transBehindSpec)

/-- ITS FALSE NEIGHBOUR: 'it returns false'. Refute it at one input. -/
def transBehindWrong : ChangeSpec := { name := "transBehind", fn := fun _ => fun
  | [d1, d2, d3] => { results := [.lit (.bool false)], args := [d1, d2, d3] }
  | _ => none }
def TransBehindWrongFalsely : Prop := transBehindRow.holds Try.pinned (OpenSpec.ofChange transBehindWrong)

/- THE SECOND FORM. 'bulk': how many values and letters a reading holds, each counted each time it is reached (what is shared counts as often as it is met; a slice's spare places count too). A statement '..UptoSaid' is the law's where the arguments, and the package variables that the reading takes, are together of bulk at most 1048576: NARROWER than '..Said'. Prove '..Said' where nothing that the law and all that it calls make is longer than what came in: it says more and counts as full. Else prove '..UptoSaid'. A law counts once. -/
mutual
def uptoBulk {H : Type} : DataW H → Nat
  | .lit (.string bytes) => bytes.length + 1
  | .lit _ => 1
  | .nil => 1
  | .ptr d => uptoBulk d + 1
  | .slice elems spare => uptoBulkAll elems + uptoBulkAll spare + 1
  | .agg parts => uptoBulkAll parts + 1
  | .iface _ d => uptoBulk d + 1
  | .map entries => uptoBulkEntries entries + 1
  | .held _ => 1
def uptoBulkAll {H : Type} : List (DataW H) → Nat
  | [] => 0
  | d :: r => uptoBulk d + uptoBulkAll r
def uptoBulkEntries {H : Type} : List (Lit × DataW H) → Nat
  | [] => 0
  | x :: r => uptoBulkEntry x + uptoBulkEntries r
def uptoBulkEntry {H : Type} : Lit × DataW H → Nat
  | (.string bytes, d) => bytes.length + uptoBulk d + 1
  | (_, d) => uptoBulk d + 1
 end
def uptoSmall : (H : Type) → List (DataW H) → Bool := fun _ ds => decide (uptoBulkAll ds ≤ 1048576)
def OpenSpec.upto (s : _root_.Go.ChangeSpec) : _root_.Go.OpenSpec := { _root_.Go.OpenSpec.ofChange s with cond := some uptoSmall }

/-- 'evermorelaw.HigmanLeast', WHERE WHAT IT READS IS OF BULK AT MOST 1048576: true; the input reads as it did. -/
def higmanLeastUptoRow : OpenClaim := { program := "ytmagglebkbiffaa", sum := "c6d4c0bd21032c6c12ab9ffd7b5b4aeb60377694115d86d8286062a6430817f4", func := "evermore/evermorelaw.HigmanLeast", spec := "higmanLeast", unfollowed := true, recurses := true, plainKeys := false, apart := false, narrowed := true }
def HigmanLeastUptoSaid : Prop := higmanLeastUptoRow.holds Try.pinned (OpenSpec.upto higmanLeastSpec)

/-- 'evermorelaw.TransDiffers', WHERE WHAT IT READS IS OF BULK AT MOST 1048576: true; the input reads as it did. -/
def transDiffersUptoRow : OpenClaim := { program := "ytmagglebkbiffaa", sum := "c6d4c0bd21032c6c12ab9ffd7b5b4aeb60377694115d86d8286062a6430817f4", func := "evermore/evermorelaw.TransDiffers", spec := "transDiffers", unfollowed := true, recurses := true, plainKeys := false, apart := false, narrowed := true }
def TransDiffersUptoSaid : Prop := transDiffersUptoRow.holds Try.pinned (OpenSpec.upto transDiffersSpec)

/-- 'evermorelaw.SameTells', WHERE WHAT IT READS IS OF BULK AT MOST 1048576: true; the input reads as it did. -/
def sameTellsUptoRow : OpenClaim := { program := "ytmagglebkbiffaa", sum := "c6d4c0bd21032c6c12ab9ffd7b5b4aeb60377694115d86d8286062a6430817f4", func := "evermore/evermorelaw.SameTells", spec := "sameTells", unfollowed := true, recurses := true, plainKeys := false, apart := false, narrowed := true }
def SameTellsUptoSaid : Prop := sameTellsUptoRow.holds Try.pinned (OpenSpec.upto sameTellsSpec)

/-- 'evermorelaw.WeighJoins', WHERE WHAT IT READS IS OF BULK AT MOST 1048576: true; the input reads as it did. -/
def weighJoinsUptoRow : OpenClaim := { program := "ytmagglebkbiffaa", sum := "c6d4c0bd21032c6c12ab9ffd7b5b4aeb60377694115d86d8286062a6430817f4", func := "evermore/evermorelaw.WeighJoins", spec := "weighJoins", unfollowed := true, recurses := true, plainKeys := false, apart := false, narrowed := true }
def WeighJoinsUptoSaid : Prop := weighJoinsUptoRow.holds Try.pinned (OpenSpec.upto weighJoinsSpec)

/-- 'evermorelaw.RewriteNormal', WHERE WHAT IT READS IS OF BULK AT MOST 1048576: true; the input reads as it did. -/
def rewriteNormalUptoRow : OpenClaim := { program := "ytmagglebkbiffaa", sum := "c6d4c0bd21032c6c12ab9ffd7b5b4aeb60377694115d86d8286062a6430817f4", func := "evermore/evermorelaw.RewriteNormal", spec := "rewriteNormal", unfollowed := true, recurses := true, plainKeys := false, apart := false, narrowed := true }
def RewriteNormalUptoSaid : Prop := rewriteNormalUptoRow.holds Try.pinned (OpenSpec.upto rewriteNormalSpec)

/-- 'evermorelaw.GramUseful', WHERE WHAT IT READS IS OF BULK AT MOST 1048576: true; the input reads as it did. -/
def gramUsefulUptoRow : OpenClaim := { program := "ytmagglebkbiffaa", sum := "c6d4c0bd21032c6c12ab9ffd7b5b4aeb60377694115d86d8286062a6430817f4", func := "evermore/evermorelaw.GramUseful", spec := "gramUseful", unfollowed := true, recurses := true, plainKeys := false, apart := false, narrowed := true }
def GramUsefulUptoSaid : Prop := gramUsefulUptoRow.holds Try.pinned (OpenSpec.upto gramUsefulSpec)

/-- 'evermorelaw.RewriteForks', WHERE WHAT IT READS IS OF BULK AT MOST 1048576: true; the input reads as it did. -/
def rewriteForksUptoRow : OpenClaim := { program := "ytmagglebkbiffaa", sum := "c6d4c0bd21032c6c12ab9ffd7b5b4aeb60377694115d86d8286062a6430817f4", func := "evermore/evermorelaw.RewriteForks", spec := "rewriteForks", unfollowed := true, recurses := true, plainKeys := false, apart := false, narrowed := true }
def RewriteForksUptoSaid : Prop := rewriteForksUptoRow.holds Try.pinned (OpenSpec.upto rewriteForksSpec)

/-- 'evermorelaw.SameClasses', WHERE WHAT IT READS IS OF BULK AT MOST 1048576: true; the input reads as it did. -/
def sameClassesUptoRow : OpenClaim := { program := "ytmagglebkbiffaa", sum := "c6d4c0bd21032c6c12ab9ffd7b5b4aeb60377694115d86d8286062a6430817f4", func := "evermore/evermorelaw.SameClasses", spec := "sameClasses", unfollowed := true, recurses := true, plainKeys := false, apart := false, narrowed := true }
def SameClassesUptoSaid : Prop := sameClassesUptoRow.holds Try.pinned (OpenSpec.upto sameClassesSpec)

/-- 'evermorelaw.TransLeast', WHERE WHAT IT READS IS OF BULK AT MOST 1048576: true; the input reads as it did. -/
def transLeastUptoRow : OpenClaim := { program := "ytmagglebkbiffaa", sum := "c6d4c0bd21032c6c12ab9ffd7b5b4aeb60377694115d86d8286062a6430817f4", func := "evermore/evermorelaw.TransLeast", spec := "transLeast", unfollowed := true, recurses := true, plainKeys := false, apart := false, narrowed := true }
def TransLeastUptoSaid : Prop := transLeastUptoRow.holds Try.pinned (OpenSpec.upto transLeastSpec)

/-- 'evermorelaw.CodeCheap', WHERE WHAT IT READS IS OF BULK AT MOST 1048576: true; the input reads as it did. -/
def codeCheapUptoRow : OpenClaim := { program := "ytmagglebkbiffaa", sum := "c6d4c0bd21032c6c12ab9ffd7b5b4aeb60377694115d86d8286062a6430817f4", func := "evermore/evermorelaw.CodeCheap", spec := "codeCheap", unfollowed := true, recurses := true, plainKeys := false, apart := false, narrowed := true }
def CodeCheapUptoSaid : Prop := codeCheapUptoRow.holds Try.pinned (OpenSpec.upto codeCheapSpec)

/-- 'evermorelaw.CodeKraft', WHERE WHAT IT READS IS OF BULK AT MOST 1048576: true; the input reads as it did. -/
def codeKraftUptoRow : OpenClaim := { program := "ytmagglebkbiffaa", sum := "c6d4c0bd21032c6c12ab9ffd7b5b4aeb60377694115d86d8286062a6430817f4", func := "evermore/evermorelaw.CodeKraft", spec := "codeKraft", unfollowed := true, recurses := true, plainKeys := false, apart := false, narrowed := true }
def CodeKraftUptoSaid : Prop := codeKraftUptoRow.holds Try.pinned (OpenSpec.upto codeKraftSpec)

/-- 'evermorelaw.TransBehind', WHERE WHAT IT READS IS OF BULK AT MOST 1048576: true; the input reads as it did. -/
def transBehindUptoRow : OpenClaim := { program := "ytmagglebkbiffaa", sum := "c6d4c0bd21032c6c12ab9ffd7b5b4aeb60377694115d86d8286062a6430817f4", func := "evermore/evermorelaw.TransBehind", spec := "transBehind", unfollowed := true, recurses := true, plainKeys := false, apart := false, narrowed := true }
def TransBehindUptoSaid : Prop := transBehindUptoRow.holds Try.pinned (OpenSpec.upto transBehindSpec)

end Rows
end Go.Proofs.Ytmagglebkbiffaa
