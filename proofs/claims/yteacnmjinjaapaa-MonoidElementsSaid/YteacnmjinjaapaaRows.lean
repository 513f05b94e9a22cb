/-
  No cell of these rows narrows 'for every input' (looked for: loops, veiled, ifaces, maps, wideKeys, modest, calm, conditions, laid).
  DERIVED. THE GIVEN ROWS OF THIS SEAT. 12 by the template 'for every input the law returns true; each argument reads behind the call as it read before'; 0 by the template 'total and deterministic' (their statements: YteacnmjinjaapaaTotals.lean).
  GIVEN WITH THE SEED: the statements are not yours to turn. If you find one false, say at which input.
  Laid BY PROGRAM, IN A SANDBOX (cutbox-rows.mjs): the forced cells as the released guide's own fill.sh prints them over the translation 07062527af261069… (all of the seat's roots in one cut). By AI agents, Wed Nov 11 2026. No macro, syntax, notation, axiom, sorry.
-/
import Derived.Test.YteacnmjinjaapaaChecked
import GoSem.Claim
import GoSem.ClaimJoined
import GoSem.ClaimMapViews
import Derived.JoinedTies
import Derived.KernelRfl
namespace Go.Proofs.Yteacnmjinjaapaa
/- THE CELL 'sum', in the pinned program and in every row, IS THE sha256 OF THE DUMP (.gsa) THAT YteacnmjinjaapaaProg.lean LOADS. Nothing in Lean hashes anything: it is a label: what it is worth is what the hold of that sum in a sandbox is worth. -/
noncomputable def Try.pinned : Pinned := { name := "yteacnmjinjaapaa", sum := "07062527af261069c0bb5921d7a9bc3a1f51adf9c663bc0537884bc2211c8253", checked := Try.checked }
namespace Rows
def none {H : Type} : Left H := { results := [], args := [] }

/-- 'evermorelaw.DetLeast': WHATEVER THE INPUT: true; the input reads as it did. -/
def detLeastSpec : ChangeSpec := { name := "detLeast", fn := fun _ => fun
  | [d1, d2, d3] => { results := [.lit (.bool true)], args := [d1, d2, d3] }
  | _ => none }
def detLeastRow : OpenClaim := { program := "yteacnmjinjaapaa", sum := "07062527af261069c0bb5921d7a9bc3a1f51adf9c663bc0537884bc2211c8253", func := "evermore/evermorelaw.DetLeast", spec := "detLeast", unfollowed := true, recurses := true, plainKeys := false, apart := false }
def DetLeastSaid : Prop := detLeastRow.holds Try.pinned (OpenSpec.ofChange detLeastSpec)

/-- ITS FALSE NEIGHBOUR: 'it returns false'. Refute it at one input. -/
def detLeastWrong : ChangeSpec := { name := "detLeast", fn := fun _ => fun
  | [d1, d2, d3] => { results := [.lit (.bool false)], args := [d1, d2, d3] }
  | _ => none }
def DetLeastWrongFalsely : Prop := detLeastRow.holds Try.pinned (OpenSpec.ofChange detLeastWrong)

/-- 'evermorelaw.BuchiSome': WHATEVER THE INPUT: true; the input reads as it did. -/
def buchiSomeSpec : ChangeSpec := { name := "buchiSome", fn := fun _ => fun
  | [d1, d2] => { results := [.lit (.bool true)], args := [d1, d2] }
  | _ => none }
def buchiSomeRow : OpenClaim := { program := "yteacnmjinjaapaa", sum := "07062527af261069c0bb5921d7a9bc3a1f51adf9c663bc0537884bc2211c8253", func := "evermore/evermorelaw.BuchiSome", spec := "buchiSome", unfollowed := true, recurses := true, plainKeys := false, apart := false }
def BuchiSomeSaid : Prop := buchiSomeRow.holds Try.pinned (OpenSpec.ofChange buchiSomeSpec)

/-- ITS FALSE NEIGHBOUR: 'it returns false'. Refute it at one input. -/
def buchiSomeWrong : ChangeSpec := { name := "buchiSome", fn := fun _ => fun
  | [d1, d2] => { results := [.lit (.bool false)], args := [d1, d2] }
  | _ => none }
def BuchiSomeWrongFalsely : Prop := buchiSomeRow.holds Try.pinned (OpenSpec.ofChange buchiSomeWrong)

/-- 'evermorelaw.TreeAccepts': WHATEVER THE INPUT: true; the input reads as it did. -/
def treeAcceptsSpec : ChangeSpec := { name := "treeAccepts", fn := fun _ => fun
  | [d1, d2, d3] => { results := [.lit (.bool true)], args := [d1, d2, d3] }
  | _ => none }
def treeAcceptsRow : OpenClaim := { program := "yteacnmjinjaapaa", sum := "07062527af261069c0bb5921d7a9bc3a1f51adf9c663bc0537884bc2211c8253", func := "evermore/evermorelaw.TreeAccepts", spec := "treeAccepts", unfollowed := true, recurses := true, plainKeys := false, apart := false }
def TreeAcceptsSaid : Prop := treeAcceptsRow.holds Try.pinned (OpenSpec.ofChange treeAcceptsSpec)

/-- ITS FALSE NEIGHBOUR: 'it returns false'. Refute it at one input. -/
def treeAcceptsWrong : ChangeSpec := { name := "treeAccepts", fn := fun _ => fun
  | [d1, d2, d3] => { results := [.lit (.bool false)], args := [d1, d2, d3] }
  | _ => none }
def TreeAcceptsWrongFalsely : Prop := treeAcceptsRow.holds Try.pinned (OpenSpec.ofChange treeAcceptsWrong)

/-- 'evermoretop.TopWays': WHATEVER THE INPUT: true; the input reads as it did. -/
def topWaysSpec : ChangeSpec := { name := "topWays", fn := fun _ => fun
  | [d] => { results := [.lit (.bool true)], args := [d] }
  | _ => none }
def topWaysRow : OpenClaim := { program := "yteacnmjinjaapaa", sum := "07062527af261069c0bb5921d7a9bc3a1f51adf9c663bc0537884bc2211c8253", func := "evermore/evermoretop.TopWays", spec := "topWays", unfollowed := true, recurses := true, plainKeys := false, apart := false }
def TopWaysSaid : Prop := topWaysRow.holds Try.pinned (OpenSpec.ofChange topWaysSpec)

/-- ITS FALSE NEIGHBOUR: 'it returns false'. Refute it at one input. -/
def topWaysWrong : ChangeSpec := { name := "topWays", fn := fun _ => fun
  | [d] => { results := [.lit (.bool false)], args := [d] }
  | _ => none }
def TopWaysWrongFalsely : Prop := topWaysRow.holds Try.pinned (OpenSpec.ofChange topWaysWrong)

/-- 'evermorelaw.TransDiffers': WHATEVER THE INPUT: true; the input reads as it did. -/
def transDiffersSpec : ChangeSpec := { name := "transDiffers", fn := fun _ => fun
  | [d1, d2, d3] => { results := [.lit (.bool true)], args := [d1, d2, d3] }
  | _ => none }
def transDiffersRow : OpenClaim := { program := "yteacnmjinjaapaa", sum := "07062527af261069c0bb5921d7a9bc3a1f51adf9c663bc0537884bc2211c8253", func := "evermore/evermorelaw.TransDiffers", spec := "transDiffers", unfollowed := true, recurses := true, plainKeys := false, apart := false }
def TransDiffersSaid : Prop := transDiffersRow.holds Try.pinned (OpenSpec.ofChange transDiffersSpec)

/-- ITS FALSE NEIGHBOUR: 'it returns false'. Refute it at one input. -/
def transDiffersWrong : ChangeSpec := { name := "transDiffers", fn := fun _ => fun
  | [d1, d2, d3] => { results := [.lit (.bool false)], args := [d1, d2, d3] }
  | _ => none }
def TransDiffersWrongFalsely : Prop := transDiffersRow.holds Try.pinned (OpenSpec.ofChange transDiffersWrong)

/-- 'evermorelaw.DetMixed': WHATEVER THE INPUT: true; the input reads as it did. -/
def detMixedSpec : ChangeSpec := { name := "detMixed", fn := fun _ => fun
  | [d1, d2, d3] => { results := [.lit (.bool true)], args := [d1, d2, d3] }
  | _ => none }
def detMixedRow : OpenClaim := { program := "yteacnmjinjaapaa", sum := "07062527af261069c0bb5921d7a9bc3a1f51adf9c663bc0537884bc2211c8253", func := "evermore/evermorelaw.DetMixed", spec := "detMixed", unfollowed := true, recurses := true, plainKeys := false, apart := false }
def DetMixedSaid : Prop := detMixedRow.holds Try.pinned (OpenSpec.ofChange detMixedSpec)

/-- ITS FALSE NEIGHBOUR: 'it returns false'. Refute it at one input. -/
def detMixedWrong : ChangeSpec := { name := "detMixed", fn := fun _ => fun
  | [d1, d2, d3] => { results := [.lit (.bool false)], args := [d1, d2, d3] }
  | _ => none }
def DetMixedWrongFalsely : Prop := detMixedRow.holds Try.pinned (OpenSpec.ofChange detMixedWrong)

/-- 'evermorelaw.RegularText': WHATEVER THE INPUT: true; the input reads as it did. -/
def regularTextSpec : ChangeSpec := { name := "regularText", fn := fun _ => fun
  | [d1, d2] => { results := [.lit (.bool true)], args := [d1, d2] }
  | _ => none }
def regularTextRow : OpenClaim := { program := "yteacnmjinjaapaa", sum := "07062527af261069c0bb5921d7a9bc3a1f51adf9c663bc0537884bc2211c8253", func := "evermore/evermorelaw.RegularText", spec := "regularText", unfollowed := true, recurses := true, plainKeys := false, apart := false }
def RegularTextSaid : Prop := regularTextRow.holds Try.pinned (OpenSpec.ofChange regularTextSpec)

/-- ITS FALSE NEIGHBOUR: 'it returns false'. Refute it at one input. -/
def regularTextWrong : ChangeSpec := { name := "regularText", fn := fun _ => fun
  | [d1, d2] => { results := [.lit (.bool false)], args := [d1, d2] }
  | _ => none }
def RegularTextWrongFalsely : Prop := regularTextRow.holds Try.pinned (OpenSpec.ofChange regularTextWrong)

/-- 'evermorelaw.CoverBounds': WHATEVER THE INPUT: true; the input reads as it did. -/
def coverBoundsSpec : ChangeSpec := { name := "coverBounds", fn := fun _ => fun
  | [d1, d2] => { results := [.lit (.bool true)], args := [d1, d2] }
  | _ => none }
def coverBoundsRow : OpenClaim := { program := "yteacnmjinjaapaa", sum := "07062527af261069c0bb5921d7a9bc3a1f51adf9c663bc0537884bc2211c8253", func := "evermore/evermorelaw.CoverBounds", spec := "coverBounds", unfollowed := true, recurses := true, plainKeys := false, apart := false }
def CoverBoundsSaid : Prop := coverBoundsRow.holds Try.pinned (OpenSpec.ofChange coverBoundsSpec)

/-- ITS FALSE NEIGHBOUR: 'it returns false'. Refute it at one input. -/
def coverBoundsWrong : ChangeSpec := { name := "coverBounds", fn := fun _ => fun
  | [d1, d2] => { results := [.lit (.bool false)], args := [d1, d2] }
  | _ => none }
def CoverBoundsWrongFalsely : Prop := coverBoundsRow.holds Try.pinned (OpenSpec.ofChange coverBoundsWrong)

/-- 'evermorelaw.AlterDet': WHATEVER THE INPUT: true; the input reads as it did. -/
def alterDetSpec : ChangeSpec := { name := "alterDet", fn := fun _ => fun
  | [d1, d2] => { results := [.lit (.bool true)], args := [d1, d2] }
  | _ => none }
def alterDetRow : OpenClaim := { program := "yteacnmjinjaapaa", sum := "07062527af261069c0bb5921d7a9bc3a1f51adf9c663bc0537884bc2211c8253", func := "evermore/evermorelaw.AlterDet", spec := "alterDet", unfollowed := true, recurses := true, plainKeys := false, apart := false }
def AlterDetSaid : Prop := alterDetRow.holds Try.pinned (OpenSpec.ofChange alterDetSpec)

/-- ITS FALSE NEIGHBOUR: 'it returns false'. Refute it at one input. -/
def alterDetWrong : ChangeSpec := { name := "alterDet", fn := fun _ => fun
  | [d1, d2] => { results := [.lit (.bool false)], args := [d1, d2] }
  | _ => none }
def AlterDetWrongFalsely : Prop := alterDetRow.holds Try.pinned (OpenSpec.ofChange alterDetWrong)

/-- 'evermorelaw.TwoDet': WHATEVER THE INPUT: true; the input reads as it did. -/
def twoDetSpec : ChangeSpec := { name := "twoDet", fn := fun _ => fun
  | [d1, d2] => { results := [.lit (.bool true)], args := [d1, d2] }
  | _ => none }
def twoDetRow : OpenClaim := { program := "yteacnmjinjaapaa", sum := "07062527af261069c0bb5921d7a9bc3a1f51adf9c663bc0537884bc2211c8253", func := "evermore/evermorelaw.TwoDet", spec := "twoDet", unfollowed := true, recurses := true, plainKeys := false, apart := false }
def TwoDetSaid : Prop := twoDetRow.holds Try.pinned (OpenSpec.ofChange twoDetSpec)

/-- ITS FALSE NEIGHBOUR: 'it returns false'. Refute it at one input. -/
def twoDetWrong : ChangeSpec := { name := "twoDet", fn := fun _ => fun
  | [d1, d2] => { results := [.lit (.bool false)], args := [d1, d2] }
  | _ => none }
def TwoDetWrongFalsely : Prop := twoDetRow.holds Try.pinned (OpenSpec.ofChange twoDetWrong)

/-- 'evermorelaw.SameTells': WHATEVER THE INPUT: true; the input reads as it did. -/
def sameTellsSpec : ChangeSpec := { name := "sameTells", fn := fun _ => fun
  | [d1, d2, d3, d4] => { results := [.lit (.bool true)], args := [d1, d2, d3, d4] }
  | _ => none }
def sameTellsRow : OpenClaim := { program := "yteacnmjinjaapaa", sum := "07062527af261069c0bb5921d7a9bc3a1f51adf9c663bc0537884bc2211c8253", func := "evermore/evermorelaw.SameTells", spec := "sameTells", unfollowed := true, recurses := true, plainKeys := false, apart := false }
def SameTellsSaid : Prop := sameTellsRow.holds Try.pinned (OpenSpec.ofChange sameTellsSpec)

/-- ITS FALSE NEIGHBOUR: 'it returns false'. Refute it at one input. -/
def sameTellsWrong : ChangeSpec := { name := "sameTells", fn := fun _ => fun
  | [d1, d2, d3, d4] => { results := [.lit (.bool false)], args := [d1, d2, d3, d4] }
  | _ => none }
def SameTellsWrongFalsely : Prop := sameTellsRow.holds Try.pinned (OpenSpec.ofChange sameTellsWrong)

/-- 'evermorelaw.MonoidElements': WHATEVER THE INPUT: true; the input reads as it did. -/
def monoidElementsSpec : ChangeSpec := { name := "monoidElements", fn := fun _ => fun
  | [d] => { results := [.lit (.bool true)], args := [d] }
  | _ => none }
def monoidElementsRow : OpenClaim := { program := "yteacnmjinjaapaa", sum := "07062527af261069c0bb5921d7a9bc3a1f51adf9c663bc0537884bc2211c8253", func := "evermore/evermorelaw.MonoidElements", spec := "monoidElements", unfollowed := true, recurses := true, plainKeys := false, apart := false }
def MonoidElementsSaid : Prop := monoidElementsRow.holds Try.pinned (OpenSpec.ofChange monoidElementsSpec)

/-- ITS FALSE NEIGHBOUR: 'it returns false'. Refute it at one input. -/
def monoidElementsWrong : ChangeSpec := { name := "monoidElements", fn := fun _ => fun
  | [d] => { results := [.lit (.bool false)], args := [d] }
  | _ => none }
def MonoidElementsWrongFalsely : Prop := monoidElementsRow.holds Try.pinned (OpenSpec.ofChange monoidElementsWrong)

/- THE SECOND FORM. 'bulk': how many values and letters a reading holds, each counted each time it is reached (what is shared counts as often as it is met; a slice's spare places count too). A statement '..UptoSaid' is the law's where the arguments, and the package variables that the reading takes, are together of bulk at most 1048576: NARROWER than '..Said'. Prove '..Said' where nothing that the law and all that it calls make is longer than what came in: it says more and counts as full. Else prove '..UptoSaid'. A law counts once. -/
mutual
def uptoBulk {H : Type} : DataW H → Nat
  | .lit (.string bytes) => bytes.length + 1
  | .lit _ => 1
  | .nil => 1
  | .ptr d => uptoBulk d + 1
  | .slice elems spare => uptoBulkAll elems + uptoBulkAll spare + 1
  | .agg parts => uptoBulkAll parts + 1
  | .iface _ d => uptoBulk d + 1
  | .map entries => uptoBulkEntries entries + 1
  | .held _ => 1
def uptoBulkAll {H : Type} : List (DataW H) → Nat
  | [] => 0
  | d :: r => uptoBulk d + uptoBulkAll r
def uptoBulkEntries {H : Type} : List (Lit × DataW H) → Nat
  | [] => 0
  | x :: r => uptoBulkEntry x + uptoBulkEntries r
def uptoBulkEntry {H : Type} : Lit × DataW H → Nat
  | (.string bytes, d) => bytes.length + uptoBulk d + 1
  | (_, d) => uptoBulk d + 1
 end
def uptoSmall : (H : Type) → List (DataW H) → Bool := fun _ ds => decide (uptoBulkAll ds ≤ 1048576)
def OpenSpec.upto (s : _root_.Go.ChangeSpec) : _root_.Go.OpenSpec := { _root_.Go.OpenSpec.ofChange s with cond := some uptoSmall }

/-- 'evermorelaw.DetLeast', WHERE WHAT IT READS IS OF BULK AT MOST 1048576: true; the input reads as it did. -/
def detLeastUptoRow : OpenClaim := { program := "yteacnmjinjaapaa", sum := "07062527af261069c0bb5921d7a9bc3a1f51adf9c663bc0537884bc2211c8253", func := "evermore/evermorelaw.DetLeast", spec := "detLeast", unfollowed := true, recurses := true, plainKeys := false, apart := false, narrowed := true }
def DetLeastUptoSaid : Prop := detLeastUptoRow.holds Try.pinned (OpenSpec.upto detLeastSpec)

/-- 'evermorelaw.BuchiSome', WHERE WHAT IT READS IS OF BULK AT MOST 1048576: true; the input reads as it did. -/
def buchiSomeUptoRow : OpenClaim := { program := "yteacnmjinjaapaa", sum := "07062527af261069c0bb5921d7a9bc3a1f51adf9c663bc0537884bc2211c8253", func := "evermore/evermorelaw.BuchiSome", spec := "buchiSome", unfollowed := true, recurses := true, plainKeys := false, apart := false, narrowed := true }
def BuchiSomeUptoSaid : Prop := buchiSomeUptoRow.holds Try.pinned (OpenSpec.upto buchiSomeSpec)

/-- 'evermorelaw.TreeAccepts', WHERE WHAT IT READS IS OF BULK AT MOST 1048576: true; the input reads as it did. -/
def treeAcceptsUptoRow : OpenClaim := { program := "yteacnmjinjaapaa", sum := "07062527af261069c0bb5921d7a9bc3a1f51adf9c663bc0537884bc2211c8253", func := "evermore/evermorelaw.TreeAccepts", spec := "treeAccepts", unfollowed := true, recurses := true, plainKeys := false, apart := false, narrowed := true }
def TreeAcceptsUptoSaid : Prop := treeAcceptsUptoRow.holds Try.pinned (OpenSpec.upto treeAcceptsSpec)

/-- 'evermoretop.TopWays', WHERE WHAT IT READS IS OF BULK AT MOST 1048576: true; the input reads as it did. -/
def topWaysUptoRow : OpenClaim := { program := "yteacnmjinjaapaa", sum := "07062527af261069c0bb5921d7a9bc3a1f51adf9c663bc0537884bc2211c8253", func := "evermore/evermoretop.TopWays", spec := "topWays", unfollowed := true, recurses := true, plainKeys := false, apart := false, narrowed := true }
def TopWaysUptoSaid : Prop := topWaysUptoRow.holds Try.pinned (OpenSpec.upto topWaysSpec)

/-- 'evermorelaw.TransDiffers', WHERE WHAT IT READS IS OF BULK AT MOST 1048576: true; the input reads as it did. -/
def transDiffersUptoRow : OpenClaim := { program := "yteacnmjinjaapaa", sum := "07062527af261069c0bb5921d7a9bc3a1f51adf9c663bc0537884bc2211c8253", func := "evermore/evermorelaw.TransDiffers", spec := "transDiffers", unfollowed := true, recurses := true, plainKeys := false, apart := false, narrowed := true }
def TransDiffersUptoSaid : Prop := transDiffersUptoRow.holds Try.pinned (OpenSpec.upto transDiffersSpec)

/-- 'evermorelaw.DetMixed', WHERE WHAT IT READS IS OF BULK AT MOST 1048576: true; the input reads as it did. -/
def detMixedUptoRow : OpenClaim := { program := "yteacnmjinjaapaa", sum := "07062527af261069c0bb5921d7a9bc3a1f51adf9c663bc0537884bc2211c8253", func := "evermore/evermorelaw.DetMixed", spec := "detMixed", unfollowed := true, recurses := true, plainKeys := false, apart := false, narrowed := true }
def DetMixedUptoSaid : Prop := detMixedUptoRow.holds Try.pinned (OpenSpec.upto detMixedSpec)

/-- 'evermorelaw.RegularText', WHERE WHAT IT READS IS OF BULK AT MOST 1048576: true; the input reads as it did. -/
def regularTextUptoRow : OpenClaim := { program := "yteacnmjinjaapaa", sum := "07062527af261069c0bb5921d7a9bc3a1f51adf9c663bc0537884bc2211c8253", func := "evermore/evermorelaw.RegularText", spec := "regularText", unfollowed := true, recurses := true, plainKeys := false, apart := false, narrowed := true }
def RegularTextUptoSaid : Prop := regularTextUptoRow.holds Try.pinned (OpenSpec.upto regularTextSpec)

/-- 'evermorelaw.CoverBounds', WHERE WHAT IT READS IS OF BULK AT MOST 1048576: true; the input reads as it did. -/
def coverBoundsUptoRow : OpenClaim := { program := "yteacnmjinjaapaa", sum := "07062527af261069c0bb5921d7a9bc3a1f51adf9c663bc0537884bc2211c8253", func := "evermore/evermorelaw.CoverBounds", spec := "coverBounds", unfollowed := true, recurses := true, plainKeys := false, apart := false, narrowed := true }
def CoverBoundsUptoSaid : Prop := coverBoundsUptoRow.holds Try.pinned (OpenSpec.upto coverBoundsSpec)

/-- 'evermorelaw.AlterDet', WHERE WHAT IT READS IS OF BULK AT MOST 1048576: true; the input reads as it did. -/
def alterDetUptoRow : OpenClaim := { program := "yteacnmjinjaapaa", sum := "07062527af261069c0bb5921d7a9bc3a1f51adf9c663bc0537884bc2211c8253", func := "evermore/evermorelaw.AlterDet", spec := "alterDet", unfollowed := true, recurses := true, plainKeys := false, apart := false, narrowed := true }
def AlterDetUptoSaid : Prop := alterDetUptoRow.holds Try.pinned (OpenSpec.upto alterDetSpec)

/-- 'evermorelaw.TwoDet', WHERE WHAT IT READS IS OF BULK AT MOST 1048576: true; the input reads as it did. -/
def twoDetUptoRow : OpenClaim := { program := "yteacnmjinjaapaa", sum := "07062527af261069c0bb5921d7a9bc3a1f51adf9c663bc0537884bc2211c8253", func := "evermore/evermorelaw.TwoDet", spec := "twoDet", unfollowed := true, recurses := true, plainKeys := false, apart := false, narrowed := true }
def TwoDetUptoSaid : Prop := twoDetUptoRow.holds Try.pinned (OpenSpec.upto twoDetSpec)

/-- 'evermorelaw.SameTells', WHERE WHAT IT READS IS OF BULK AT MOST 1048576: true; the input reads as it did. -/
def sameTellsUptoRow : OpenClaim := { program := "yteacnmjinjaapaa", sum := "07062527af261069c0bb5921d7a9bc3a1f51adf9c663bc0537884bc2211c8253", func := "evermore/evermorelaw.SameTells", spec := "sameTells", unfollowed := true, recurses := true, plainKeys := false, apart := false, narrowed := true }
def SameTellsUptoSaid : Prop := sameTellsUptoRow.holds Try.pinned (OpenSpec.upto sameTellsSpec)

/-- 'evermorelaw.MonoidElements', WHERE WHAT IT READS IS OF BULK AT MOST 1048576: true; the input reads as it did. -/
def monoidElementsUptoRow : OpenClaim := { program := "yteacnmjinjaapaa", sum := "07062527af261069c0bb5921d7a9bc3a1f51adf9c663bc0537884bc2211c8253", func := "evermore/evermorelaw.MonoidElements", spec := "monoidElements", unfollowed := true, recurses := true, plainKeys := false, apart := false, narrowed := true }
def MonoidElementsUptoSaid : Prop := monoidElementsUptoRow.holds Try.pinned (OpenSpec.upto monoidElementsSpec)

end Rows
end Go.Proofs.Yteacnmjinjaapaa
