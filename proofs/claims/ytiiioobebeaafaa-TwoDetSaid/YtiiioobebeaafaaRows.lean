/-
  No cell of these rows narrows 'for every input' (looked for: loops, veiled, ifaces, maps, wideKeys, modest, calm, conditions, laid).
  DERIVED. THE GIVEN ROWS OF THIS SEAT. 12 by the template 'for every input the law returns true; each argument reads behind the call as it read before'; 0 by the template 'total and deterministic' (their statements: YtiiioobebeaafaaTotals.lean).
  GIVEN WITH THE SEED: the statements are not yours to turn. If you find one false, say at which input.
  Laid BY PROGRAM, IN A SANDBOX (cutbox-rows.mjs): the forced cells as the released guide's own fill.sh prints them over the translation 7b9ecb2eccbc5a64… (all of the seat's roots in one cut). By AI agents, Wed Nov 11 2026. No macro, syntax, notation, axiom, sorry.
-/
import Derived.Test.YtiiioobebeaafaaChecked
import GoSem.Claim
import GoSem.ClaimJoined
import GoSem.ClaimMapViews
import Derived.JoinedTies
import Derived.KernelRfl
namespace Go.Proofs.Ytiiioobebeaafaa
/- THE CELL 'sum', in the pinned program and in every row, IS THE sha256 OF THE DUMP (.gsa) THAT YtiiioobebeaafaaProg.lean LOADS. Nothing in Lean hashes anything: it is a label: what it is worth is what the hold of that sum in a sandbox is worth. -/
noncomputable def Try.pinned : Pinned := { name := "ytiiioobebeaafaa", sum := "7b9ecb2eccbc5a645b8180c378e25ce3ed012efceb01b7ab7b8d10d8234be6ee", checked := Try.checked }
namespace Rows
def none {H : Type} : Left H := { results := [], args := [] }

/-- 'evermorelaw.AlterOther': WHATEVER THE INPUT: true; the input reads as it did. -/
def alterOtherSpec : ChangeSpec := { name := "alterOther", fn := fun _ => fun
  | [d1, d2] => { results := [.lit (.bool true)], args := [d1, d2] }
  | _ => none }
def alterOtherRow : OpenClaim := { program := "ytiiioobebeaafaa", sum := "7b9ecb2eccbc5a645b8180c378e25ce3ed012efceb01b7ab7b8d10d8234be6ee", func := "evermore/evermorelaw.AlterOther", spec := "alterOther", unfollowed := true, recurses := true, plainKeys := false, apart := false }
def AlterOtherSaid : Prop := alterOtherRow.holds Try.pinned (OpenSpec.ofChange alterOtherSpec)

/-- ITS FALSE NEIGHBOUR: 'it returns false'. Refute it at one input. -/
def alterOtherWrong : ChangeSpec := { name := "alterOther", fn := fun _ => fun
  | [d1, d2] => { results := [.lit (.bool false)], args := [d1, d2] }
  | _ => none }
def AlterOtherWrongFalsely : Prop := alterOtherRow.holds Try.pinned (OpenSpec.ofChange alterOtherWrong)

/-- 'evermorelaw.WordNormal': WHATEVER THE INPUT: true; the input reads as it did. -/
def wordNormalSpec : ChangeSpec := { name := "wordNormal", fn := fun _ => fun
  | [d1, d2] => { results := [.lit (.bool true)], args := [d1, d2] }
  | _ => none }
def wordNormalRow : OpenClaim := { program := "ytiiioobebeaafaa", sum := "7b9ecb2eccbc5a645b8180c378e25ce3ed012efceb01b7ab7b8d10d8234be6ee", func := "evermore/evermorelaw.WordNormal", spec := "wordNormal", plainKeys := false, apart := false }
def WordNormalSaid : Prop := wordNormalRow.holds Try.pinned (OpenSpec.ofChange wordNormalSpec)

/-- ITS FALSE NEIGHBOUR: 'it returns false'. Refute it at one input. -/
def wordNormalWrong : ChangeSpec := { name := "wordNormal", fn := fun _ => fun
  | [d1, d2] => { results := [.lit (.bool false)], args := [d1, d2] }
  | _ => none }
def WordNormalWrongFalsely : Prop := wordNormalRow.holds Try.pinned (OpenSpec.ofChange wordNormalWrong)

/-- 'evermorelaw.CodeUnique': WHATEVER THE INPUT: true; the input reads as it did. -/
def codeUniqueSpec : ChangeSpec := { name := "codeUnique", fn := fun _ => fun
  | [d1, d2] => { results := [.lit (.bool true)], args := [d1, d2] }
  | _ => none }
def codeUniqueRow : OpenClaim := { program := "ytiiioobebeaafaa", sum := "7b9ecb2eccbc5a645b8180c378e25ce3ed012efceb01b7ab7b8d10d8234be6ee", func := "evermore/evermorelaw.CodeUnique", spec := "codeUnique", unfollowed := true, recurses := true, plainKeys := false, apart := false }
def CodeUniqueSaid : Prop := codeUniqueRow.holds Try.pinned (OpenSpec.ofChange codeUniqueSpec)

/-- ITS FALSE NEIGHBOUR: 'it returns false'. Refute it at one input. -/
def codeUniqueWrong : ChangeSpec := { name := "codeUnique", fn := fun _ => fun
  | [d1, d2] => { results := [.lit (.bool false)], args := [d1, d2] }
  | _ => none }
def CodeUniqueWrongFalsely : Prop := codeUniqueRow.holds Try.pinned (OpenSpec.ofChange codeUniqueWrong)

/-- 'evermorelaw.MullerDet': WHATEVER THE INPUT: true; the input reads as it did. -/
def mullerDetSpec : ChangeSpec := { name := "mullerDet", fn := fun _ => fun
  | [d1, d2] => { results := [.lit (.bool true)], args := [d1, d2] }
  | _ => none }
def mullerDetRow : OpenClaim := { program := "ytiiioobebeaafaa", sum := "7b9ecb2eccbc5a645b8180c378e25ce3ed012efceb01b7ab7b8d10d8234be6ee", func := "evermore/evermorelaw.MullerDet", spec := "mullerDet", unfollowed := true, recurses := true, plainKeys := false, apart := false }
def MullerDetSaid : Prop := mullerDetRow.holds Try.pinned (OpenSpec.ofChange mullerDetSpec)

/-- ITS FALSE NEIGHBOUR: 'it returns false'. Refute it at one input. -/
def mullerDetWrong : ChangeSpec := { name := "mullerDet", fn := fun _ => fun
  | [d1, d2] => { results := [.lit (.bool false)], args := [d1, d2] }
  | _ => none }
def MullerDetWrongFalsely : Prop := mullerDetRow.holds Try.pinned (OpenSpec.ofChange mullerDetWrong)

/-- 'evermorelaw.DetLeast': WHATEVER THE INPUT: true; the input reads as it did. -/
def detLeastSpec : ChangeSpec := { name := "detLeast", fn := fun _ => fun
  | [d1, d2, d3] => { results := [.lit (.bool true)], args := [d1, d2, d3] }
  | _ => none }
def detLeastRow : OpenClaim := { program := "ytiiioobebeaafaa", sum := "7b9ecb2eccbc5a645b8180c378e25ce3ed012efceb01b7ab7b8d10d8234be6ee", func := "evermore/evermorelaw.DetLeast", spec := "detLeast", unfollowed := true, recurses := true, plainKeys := false, apart := false }
def DetLeastSaid : Prop := detLeastRow.holds Try.pinned (OpenSpec.ofChange detLeastSpec)

/-- ITS FALSE NEIGHBOUR: 'it returns false'. Refute it at one input. -/
def detLeastWrong : ChangeSpec := { name := "detLeast", fn := fun _ => fun
  | [d1, d2, d3] => { results := [.lit (.bool false)], args := [d1, d2, d3] }
  | _ => none }
def DetLeastWrongFalsely : Prop := detLeastRow.holds Try.pinned (OpenSpec.ofChange detLeastWrong)

/-- 'evermoretop.TopWays': WHATEVER THE INPUT: true; the input reads as it did. -/
def topWaysSpec : ChangeSpec := { name := "topWays", fn := fun _ => fun
  | [d] => { results := [.lit (.bool true)], args := [d] }
  | _ => none }
def topWaysRow : OpenClaim := { program := "ytiiioobebeaafaa", sum := "7b9ecb2eccbc5a645b8180c378e25ce3ed012efceb01b7ab7b8d10d8234be6ee", func := "evermore/evermoretop.TopWays", spec := "topWays", unfollowed := true, recurses := true, plainKeys := false, apart := false }
def TopWaysSaid : Prop := topWaysRow.holds Try.pinned (OpenSpec.ofChange topWaysSpec)

/-- ITS FALSE NEIGHBOUR: 'it returns false'. Refute it at one input. -/
def topWaysWrong : ChangeSpec := { name := "topWays", fn := fun _ => fun
  | [d] => { results := [.lit (.bool false)], args := [d] }
  | _ => none }
def TopWaysWrongFalsely : Prop := topWaysRow.holds Try.pinned (OpenSpec.ofChange topWaysWrong)

/-- 'evermorelaw.DetMixed': WHATEVER THE INPUT: true; the input reads as it did. -/
def detMixedSpec : ChangeSpec := { name := "detMixed", fn := fun _ => fun
  | [d1, d2, d3] => { results := [.lit (.bool true)], args := [d1, d2, d3] }
  | _ => none }
def detMixedRow : OpenClaim := { program := "ytiiioobebeaafaa", sum := "7b9ecb2eccbc5a645b8180c378e25ce3ed012efceb01b7ab7b8d10d8234be6ee", func := "evermore/evermorelaw.DetMixed", spec := "detMixed", unfollowed := true, recurses := true, plainKeys := false, apart := false }
def DetMixedSaid : Prop := detMixedRow.holds Try.pinned (OpenSpec.ofChange detMixedSpec)

/-- ITS FALSE NEIGHBOUR: 'it returns false'. Refute it at one input. -/
def detMixedWrong : ChangeSpec := { name := "detMixed", fn := fun _ => fun
  | [d1, d2, d3] => { results := [.lit (.bool false)], args := [d1, d2, d3] }
  | _ => none }
def DetMixedWrongFalsely : Prop := detMixedRow.holds Try.pinned (OpenSpec.ofChange detMixedWrong)

/-- 'evermorelaw.TwoDet': WHATEVER THE INPUT: true; the input reads as it did. -/
def twoDetSpec : ChangeSpec := { name := "twoDet", fn := fun _ => fun
  | [d1, d2] => { results := [.lit (.bool true)], args := [d1, d2] }
  | _ => none }
def twoDetRow : OpenClaim := { program := "ytiiioobebeaafaa", sum := "7b9ecb2eccbc5a645b8180c378e25ce3ed012efceb01b7ab7b8d10d8234be6ee", func := "evermore/evermorelaw.TwoDet", spec := "twoDet", unfollowed := true, recurses := true, plainKeys := false, apart := false }
def TwoDetSaid : Prop := twoDetRow.holds Try.pinned (OpenSpec.ofChange twoDetSpec)

/-- ITS FALSE NEIGHBOUR: 'it returns false'. Refute it at one input. -/
def twoDetWrong : ChangeSpec := { name := "twoDet", fn := fun _ => fun
  | [d1, d2] => { results := [.lit (.bool false)], args := [d1, d2] }
  | _ => none }
def TwoDetWrongFalsely : Prop := twoDetRow.holds Try.pinned (OpenSpec.ofChange twoDetWrong)

/-- 'evermorelaw.HigmanCloses': WHATEVER THE INPUT: true; the input reads as it did. -/
def higmanClosesSpec : ChangeSpec := { name := "higmanCloses", fn := fun _ => fun
  | [d] => { results := [.lit (.bool true)], args := [d] }
  | _ => none }
def higmanClosesRow : OpenClaim := { program := "ytiiioobebeaafaa", sum := "7b9ecb2eccbc5a645b8180c378e25ce3ed012efceb01b7ab7b8d10d8234be6ee", func := "evermore/evermorelaw.HigmanCloses", spec := "higmanCloses", unfollowed := true, recurses := true, plainKeys := false, apart := false }
def HigmanClosesSaid : Prop := higmanClosesRow.holds Try.pinned (OpenSpec.ofChange higmanClosesSpec)

/-- ITS FALSE NEIGHBOUR: 'it returns false'. Refute it at one input. -/
def higmanClosesWrong : ChangeSpec := { name := "higmanCloses", fn := fun _ => fun
  | [d] => { results := [.lit (.bool false)], args := [d] }
  | _ => none }
def HigmanClosesWrongFalsely : Prop := higmanClosesRow.holds Try.pinned (OpenSpec.ofChange higmanClosesWrong)

/-- 'evermorelaw.MonoidCounts': WHATEVER THE INPUT: true; the input reads as it did. -/
def monoidCountsSpec : ChangeSpec := { name := "monoidCounts", fn := fun _ => fun
  | [d] => { results := [.lit (.bool true)], args := [d] }
  | _ => none }
def monoidCountsRow : OpenClaim := { program := "ytiiioobebeaafaa", sum := "7b9ecb2eccbc5a645b8180c378e25ce3ed012efceb01b7ab7b8d10d8234be6ee", func := "evermore/evermorelaw.MonoidCounts", spec := "monoidCounts", unfollowed := true, recurses := true, plainKeys := false, apart := false }
def MonoidCountsSaid : Prop := monoidCountsRow.holds Try.pinned (OpenSpec.ofChange monoidCountsSpec)

/-- ITS FALSE NEIGHBOUR: 'it returns false'. Refute it at one input. -/
def monoidCountsWrong : ChangeSpec := { name := "monoidCounts", fn := fun _ => fun
  | [d] => { results := [.lit (.bool false)], args := [d] }
  | _ => none }
def MonoidCountsWrongFalsely : Prop := monoidCountsRow.holds Try.pinned (OpenSpec.ofChange monoidCountsWrong)

/-- 'evermorelaw.DetMade': WHATEVER THE INPUT: true; the input reads as it did. -/
def detMadeSpec : ChangeSpec := { name := "detMade", fn := fun _ => fun
  | [d1, d2] => { results := [.lit (.bool true)], args := [d1, d2] }
  | _ => none }
def detMadeRow : OpenClaim := { program := "ytiiioobebeaafaa", sum := "7b9ecb2eccbc5a645b8180c378e25ce3ed012efceb01b7ab7b8d10d8234be6ee", func := "evermore/evermorelaw.DetMade", spec := "detMade", unfollowed := true, recurses := true, plainKeys := false, apart := false }
def DetMadeSaid : Prop := detMadeRow.holds Try.pinned (OpenSpec.ofChange detMadeSpec)

/-- ITS FALSE NEIGHBOUR: 'it returns false'. Refute it at one input. -/
def detMadeWrong : ChangeSpec := { name := "detMade", fn := fun _ => fun
  | [d1, d2] => { results := [.lit (.bool false)], args := [d1, d2] }
  | _ => none }
def DetMadeWrongFalsely : Prop := detMadeRow.holds Try.pinned (OpenSpec.ofChange detMadeWrong)

/-- 'evermorelaw.MonoidAlike': WHATEVER THE INPUT: true; the input reads as it did. -/
def monoidAlikeSpec : ChangeSpec := { name := "monoidAlike", fn := fun _ => fun
  | [d1, d2, d3] => { results := [.lit (.bool true)], args := [d1, d2, d3] }
  | _ => none }
def monoidAlikeRow : OpenClaim := { program := "ytiiioobebeaafaa", sum := "7b9ecb2eccbc5a645b8180c378e25ce3ed012efceb01b7ab7b8d10d8234be6ee", func := "evermore/evermorelaw.MonoidAlike", spec := "monoidAlike", unfollowed := true, recurses := true, plainKeys := false, apart := false }
def MonoidAlikeSaid : Prop := monoidAlikeRow.holds Try.pinned (OpenSpec.ofChange monoidAlikeSpec)

/-- ITS FALSE NEIGHBOUR: 'it returns false'. Refute it at one input. -/
def monoidAlikeWrong : ChangeSpec := { name := "monoidAlike", fn := fun _ => fun
  | [d1, d2, d3] => { results := [.lit (.bool false)], args := [d1, d2, d3] }
  | _ => none }
def MonoidAlikeWrongFalsely : Prop := monoidAlikeRow.holds Try.pinned (OpenSpec.ofChange monoidAlikeWrong)

/- THE SECOND FORM. 'bulk': how many values and letters a reading holds, each counted each time it is reached (what is shared counts as often as it is met; a slice's spare places count too). A statement '..UptoSaid' is the law's where the arguments, and the package variables that the reading takes, are together of bulk at most 1048576: NARROWER than '..Said'. Prove '..Said' where nothing that the law and all that it calls make is longer than what came in: it says more and counts as full. Else prove '..UptoSaid'. A law counts once. -/
mutual
def uptoBulk {H : Type} : DataW H → Nat
  | .lit (.string bytes) => bytes.length + 1
  | .lit _ => 1
  | .nil => 1
  | .ptr d => uptoBulk d + 1
  | .slice elems spare => uptoBulkAll elems + uptoBulkAll spare + 1
  | .agg parts => uptoBulkAll parts + 1
  | .iface _ d => uptoBulk d + 1
  | .map entries => uptoBulkEntries entries + 1
  | .held _ => 1
def uptoBulkAll {H : Type} : List (DataW H) → Nat
  | [] => 0
  | d :: r => uptoBulk d + uptoBulkAll r
def uptoBulkEntries {H : Type} : List (Lit × DataW H) → Nat
  | [] => 0
  | x :: r => uptoBulkEntry x + uptoBulkEntries r
def uptoBulkEntry {H : Type} : Lit × DataW H → Nat
  | (.string bytes, d) => bytes.length + uptoBulk d + 1
  | (_, d) => uptoBulk d + 1
 end
def uptoSmall : (H : Type) → List (DataW H) → Bool := fun _ ds => decide (uptoBulkAll ds ≤ 1048576)
def OpenSpec.upto (s : _root_.Go.ChangeSpec) : _root_.Go.OpenSpec := { _root_.Go.OpenSpec.ofChange s with cond := some uptoSmall }

/-- 'evermorelaw.AlterOther', WHERE WHAT IT READS IS OF BULK AT MOST 1048576: true; the input reads as it did. -/
def alterOtherUptoRow : OpenClaim := { program := "ytiiioobebeaafaa", sum := "7b9ecb2eccbc5a645b8180c378e25ce3ed012efceb01b7ab7b8d10d8234be6ee", func := "evermore/evermorelaw.AlterOther", spec := "alterOther", unfollowed := true, recurses := true, plainKeys := false, apart := false, narrowed := true }
def AlterOtherUptoSaid : Prop := alterOtherUptoRow.holds Try.pinned (OpenSpec.upto alterOtherSpec)

/-- 'evermorelaw.WordNormal', WHERE WHAT IT READS IS OF BULK AT MOST 1048576: true; the input reads as it did. -/
def wordNormalUptoRow : OpenClaim := { program := "ytiiioobebeaafaa", sum := "7b9ecb2eccbc5a645b8180c378e25ce3ed012efceb01b7ab7b8d10d8234be6ee", func := "evermore/evermorelaw.WordNormal", spec := "wordNormal", plainKeys := false, apart := false, narrowed := true }
def WordNormalUptoSaid : Prop := wordNormalUptoRow.holds Try.pinned (OpenSpec.upto wordNormalSpec)

/-- 'evermorelaw.CodeUnique', WHERE WHAT IT READS IS OF BULK AT MOST 1048576: true; the input reads as it did. -/
def codeUniqueUptoRow : OpenClaim := { program := "ytiiioobebeaafaa", sum := "7b9ecb2eccbc5a645b8180c378e25ce3ed012efceb01b7ab7b8d10d8234be6ee", func := "evermore/evermorelaw.CodeUnique", spec := "codeUnique", unfollowed := true, recurses := true, plainKeys := false, apart := false, narrowed := true }
def CodeUniqueUptoSaid : Prop := codeUniqueUptoRow.holds Try.pinned (OpenSpec.upto codeUniqueSpec)

/-- 'evermorelaw.MullerDet', WHERE WHAT IT READS IS OF BULK AT MOST 1048576: true; the input reads as it did. -/
def mullerDetUptoRow : OpenClaim := { program := "ytiiioobebeaafaa", sum := "7b9ecb2eccbc5a645b8180c378e25ce3ed012efceb01b7ab7b8d10d8234be6ee", func := "evermore/evermorelaw.MullerDet", spec := "mullerDet", unfollowed := true, recurses := true, plainKeys := false, apart := false, narrowed := true }
def MullerDetUptoSaid : Prop := mullerDetUptoRow.holds Try.pinned (OpenSpec.upto mullerDetSpec)

/-- 'evermorelaw.DetLeast', WHERE WHAT IT READS IS OF BULK AT MOST 1048576: true; the input reads as it did. -/
def detLeastUptoRow : OpenClaim := { program := "ytiiioobebeaafaa", sum := "7b9ecb2eccbc5a645b8180c378e25ce3ed012efceb01b7ab7b8d10d8234be6ee", func := "evermore/evermorelaw.DetLeast", spec := "detLeast", unfollowed := true, recurses := true, plainKeys := false, apart := false, narrowed := true }
def DetLeastUptoSaid : Prop := detLeastUptoRow.holds Try.pinned (OpenSpec.upto detLeastSpec)

/-- 'evermoretop.TopWays', WHERE WHAT IT READS IS OF BULK AT MOST 1048576: true; the input reads as it did. -/
def topWaysUptoRow : OpenClaim := { program := "ytiiioobebeaafaa", sum := "7b9ecb2eccbc5a645b8180c378e25ce3ed012efceb01b7ab7b8d10d8234be6ee", func := "evermore/evermoretop.TopWays", spec := "topWays", unfollowed := true, recurses := true, plainKeys := false, apart := false, narrowed := true }
def TopWaysUptoSaid : Prop := topWaysUptoRow.holds Try.pinned (OpenSpec.upto topWaysSpec)

/-- 'evermorelaw.DetMixed', WHERE WHAT IT READS IS OF BULK AT MOST 1048576: true; the input reads as it did. -/
def detMixedUptoRow : OpenClaim := { program := "ytiiioobebeaafaa", sum := "7b9ecb2eccbc5a645b8180c378e25ce3ed012efceb01b7ab7b8d10d8234be6ee", func := "evermore/evermorelaw.DetMixed", spec := "detMixed", unfollowed := true, recurses := true, plainKeys := false, apart := false, narrowed := true }
def DetMixedUptoSaid : Prop := detMixedUptoRow.holds Try.pinned (OpenSpec.upto detMixedSpec)

/-- 'evermorelaw.TwoDet', WHERE WHAT IT READS IS OF BULK AT MOST 1048576: true; the input reads as it did. -/
def twoDetUptoRow : OpenClaim := { program := "ytiiioobebeaafaa", sum := "7b9ecb2eccbc5a645b8180c378e25ce3ed012efceb01b7ab7b8d10d8234be6ee", func := "evermore/evermorelaw.TwoDet", spec := "twoDet", unfollowed := true, recurses := true, plainKeys := false, apart := false, narrowed := true }
def TwoDetUptoSaid : Prop := twoDetUptoRow.holds Try.pinned (OpenSpec.upto twoDetSpec)

/-- 'evermorelaw.HigmanCloses', WHERE WHAT IT READS IS OF BULK AT MOST 1048576: true; the input reads as it did. -/
def higmanClosesUptoRow : OpenClaim := { program := "ytiiioobebeaafaa", sum := "7b9ecb2eccbc5a645b8180c378e25ce3ed012efceb01b7ab7b8d10d8234be6ee", func := "evermore/evermorelaw.HigmanCloses", spec := "higmanCloses", unfollowed := true, recurses := true, plainKeys := false, apart := false, narrowed := true }
def HigmanClosesUptoSaid : Prop := higmanClosesUptoRow.holds Try.pinned (OpenSpec.upto higmanClosesSpec)

/-- 'evermorelaw.MonoidCounts', WHERE WHAT IT READS IS OF BULK AT MOST 1048576: true; the input reads as it did. -/
def monoidCountsUptoRow : OpenClaim := { program := "ytiiioobebeaafaa", sum := "7b9ecb2eccbc5a645b8180c378e25ce3ed012efceb01b7ab7b8d10d8234be6ee", func := "evermore/evermorelaw.MonoidCounts", spec := "monoidCounts", unfollowed := true, recurses := true, plainKeys := false, apart := false, narrowed := true }
def MonoidCountsUptoSaid : Prop := monoidCountsUptoRow.holds Try.pinned (OpenSpec.upto monoidCountsSpec)

/-- 'evermorelaw.DetMade', WHERE WHAT IT READS IS OF BULK AT MOST 1048576: true; the input reads as it did. -/
def detMadeUptoRow : OpenClaim := { program := "ytiiioobebeaafaa", sum := "7b9ecb2eccbc5a645b8180c378e25ce3ed012efceb01b7ab7b8d10d8234be6ee", func := "evermore/evermorelaw.DetMade", spec := "detMade", unfollowed := true, recurses := true, plainKeys := false, apart := false, narrowed := true }
def DetMadeUptoSaid : Prop := detMadeUptoRow.holds Try.pinned (OpenSpec.upto detMadeSpec)

/-- 'evermorelaw.MonoidAlike', WHERE WHAT IT READS IS OF BULK AT MOST 1048576: true; the input reads as it did. -/
def monoidAlikeUptoRow : OpenClaim := { program := "ytiiioobebeaafaa", sum := "7b9ecb2eccbc5a645b8180c378e25ce3ed012efceb01b7ab7b8d10d8234be6ee", func := "evermore/evermorelaw.MonoidAlike", spec := "monoidAlike", unfollowed := true, recurses := true, plainKeys := false, apart := false, narrowed := true }
def MonoidAlikeUptoSaid : Prop := monoidAlikeUptoRow.holds Try.pinned (OpenSpec.upto monoidAlikeSpec)

end Rows
end Go.Proofs.Ytiiioobebeaafaa
