/-
  No cell of these rows narrows 'for every input' (looked for: loops, veiled, ifaces, maps, wideKeys, modest, calm, conditions, laid).
  DERIVED. THE GIVEN ROWS OF THIS SEAT. 12 by the template 'for every input the law returns true; each argument reads behind the call as it read before'; 0 by the template 'total and deterministic' (their statements: YtfkilmmldjajmaaTotals.lean).
  GIVEN WITH THE SEED: the statements are not yours to turn. If you find one false, say at which input.
  Laid BY PROGRAM, IN A SANDBOX (cutbox-rows.mjs): the forced cells as the released guide's own fill.sh prints them over the translation 6878324f9b2ec7f1… (all of the seat's roots in one cut). By AI agents, Wed Nov 11 2026. No macro, syntax, notation, axiom, sorry.
-/
import Derived.Test.YtfkilmmldjajmaaChecked
import GoSem.Claim
import GoSem.ClaimJoined
import GoSem.ClaimMapViews
import Derived.JoinedTies
import Derived.KernelRfl
namespace Go.Proofs.Ytfkilmmldjajmaa
/- THE CELL 'sum', in the pinned program and in every row, IS THE sha256 OF THE DUMP (.gsa) THAT YtfkilmmldjajmaaProg.lean LOADS. Nothing in Lean hashes anything: it is a label: what it is worth is what the hold of that sum in a sandbox is worth. -/
noncomputable def Try.pinned : Pinned := { name := "ytfkilmmldjajmaa", sum := "6878324f9b2ec7f1a44d5741b5439d452c3455cf551a07fd526760ed521cf391", checked := Try.checked }
namespace Rows
def none {H : Type} : Left H := { results := [], args := [] }

/-- 'evermorelaw.AlterOther': WHATEVER THE INPUT: true; the input reads as it did. -/
def alterOtherSpec : ChangeSpec := { name := "alterOther", fn := fun _ => fun
  | [d1, d2] => { results := [.lit (.bool true)], args := [d1, d2] }
  | _ => none }
def alterOtherRow : OpenClaim := { program := "ytfkilmmldjajmaa", sum := "6878324f9b2ec7f1a44d5741b5439d452c3455cf551a07fd526760ed521cf391", func := "evermore/evermorelaw.AlterOther", spec := "alterOther", unfollowed := true, recurses := true, plainKeys := false, apart := false }
def AlterOtherSaid : Prop := alterOtherRow.holds Try.pinned (OpenSpec.ofChange alterOtherSpec)

/-- ITS FALSE NEIGHBOUR: 'it returns false'. Refute it at one input. -/
def alterOtherWrong : ChangeSpec := { name := "alterOther", fn := fun _ => fun
  | [d1, d2] => { results := [.lit (.bool false)], args := [d1, d2] }
  | _ => none }
def AlterOtherWrongFalsely : Prop := alterOtherRow.holds Try.pinned (OpenSpec.ofChange alterOtherWrong)

/-- 'evermorelaw.WordNormal': WHATEVER THE INPUT: true; the input reads as it did. -/
def wordNormalSpec : ChangeSpec := { name := "wordNormal", fn := fun _ => fun
  | [d1, d2] => { results := [.lit (.bool true)], args := [d1, d2] }
  | _ => none }
def wordNormalRow : OpenClaim := { program := "ytfkilmmldjajmaa", sum := "6878324f9b2ec7f1a44d5741b5439d452c3455cf551a07fd526760ed521cf391", func := "evermore/evermorelaw.WordNormal", spec := "wordNormal", plainKeys := false, apart := false }
def WordNormalSaid : Prop := wordNormalRow.holds Try.pinned (OpenSpec.ofChange wordNormalSpec)

/-- ITS FALSE NEIGHBOUR: 'it returns false'. Refute it at one input. -/
def wordNormalWrong : ChangeSpec := { name := "wordNormal", fn := fun _ => fun
  | [d1, d2] => { results := [.lit (.bool false)], args := [d1, d2] }
  | _ => none }
def WordNormalWrongFalsely : Prop := wordNormalRow.holds Try.pinned (OpenSpec.ofChange wordNormalWrong)

/-- 'evermorelaw.AlterAccepts': WHATEVER THE INPUT: true; the input reads as it did. -/
def alterAcceptsSpec : ChangeSpec := { name := "alterAccepts", fn := fun _ => fun
  | [d1, d2] => { results := [.lit (.bool true)], args := [d1, d2] }
  | _ => none }
def alterAcceptsRow : OpenClaim := { program := "ytfkilmmldjajmaa", sum := "6878324f9b2ec7f1a44d5741b5439d452c3455cf551a07fd526760ed521cf391", func := "evermore/evermorelaw.AlterAccepts", spec := "alterAccepts", unfollowed := true, recurses := true, plainKeys := false, apart := false }
def AlterAcceptsSaid : Prop := alterAcceptsRow.holds Try.pinned (OpenSpec.ofChange alterAcceptsSpec)

/-- ITS FALSE NEIGHBOUR: 'it returns false'. Refute it at one input. -/
def alterAcceptsWrong : ChangeSpec := { name := "alterAccepts", fn := fun _ => fun
  | [d1, d2] => { results := [.lit (.bool false)], args := [d1, d2] }
  | _ => none }
def AlterAcceptsWrongFalsely : Prop := alterAcceptsRow.holds Try.pinned (OpenSpec.ofChange alterAcceptsWrong)

/-- 'evermorelaw.CodeUnique': WHATEVER THE INPUT: true; the input reads as it did. -/
def codeUniqueSpec : ChangeSpec := { name := "codeUnique", fn := fun _ => fun
  | [d1, d2] => { results := [.lit (.bool true)], args := [d1, d2] }
  | _ => none }
def codeUniqueRow : OpenClaim := { program := "ytfkilmmldjajmaa", sum := "6878324f9b2ec7f1a44d5741b5439d452c3455cf551a07fd526760ed521cf391", func := "evermore/evermorelaw.CodeUnique", spec := "codeUnique", unfollowed := true, recurses := true, plainKeys := false, apart := false }
def CodeUniqueSaid : Prop := codeUniqueRow.holds Try.pinned (OpenSpec.ofChange codeUniqueSpec)

/-- ITS FALSE NEIGHBOUR: 'it returns false'. Refute it at one input. -/
def codeUniqueWrong : ChangeSpec := { name := "codeUnique", fn := fun _ => fun
  | [d1, d2] => { results := [.lit (.bool false)], args := [d1, d2] }
  | _ => none }
def CodeUniqueWrongFalsely : Prop := codeUniqueRow.holds Try.pinned (OpenSpec.ofChange codeUniqueWrong)

/-- 'evermorelaw.MullerDet': WHATEVER THE INPUT: true; the input reads as it did. -/
def mullerDetSpec : ChangeSpec := { name := "mullerDet", fn := fun _ => fun
  | [d1, d2] => { results := [.lit (.bool true)], args := [d1, d2] }
  | _ => none }
def mullerDetRow : OpenClaim := { program := "ytfkilmmldjajmaa", sum := "6878324f9b2ec7f1a44d5741b5439d452c3455cf551a07fd526760ed521cf391", func := "evermore/evermorelaw.MullerDet", spec := "mullerDet", unfollowed := true, recurses := true, plainKeys := false, apart := false }
def MullerDetSaid : Prop := mullerDetRow.holds Try.pinned (OpenSpec.ofChange mullerDetSpec)

/-- ITS FALSE NEIGHBOUR: 'it returns false'. Refute it at one input. -/
def mullerDetWrong : ChangeSpec := { name := "mullerDet", fn := fun _ => fun
  | [d1, d2] => { results := [.lit (.bool false)], args := [d1, d2] }
  | _ => none }
def MullerDetWrongFalsely : Prop := mullerDetRow.holds Try.pinned (OpenSpec.ofChange mullerDetWrong)

/-- 'evermorelaw.DetLeast': WHATEVER THE INPUT: true; the input reads as it did. -/
def detLeastSpec : ChangeSpec := { name := "detLeast", fn := fun _ => fun
  | [d1, d2, d3] => { results := [.lit (.bool true)], args := [d1, d2, d3] }
  | _ => none }
def detLeastRow : OpenClaim := { program := "ytfkilmmldjajmaa", sum := "6878324f9b2ec7f1a44d5741b5439d452c3455cf551a07fd526760ed521cf391", func := "evermore/evermorelaw.DetLeast", spec := "detLeast", unfollowed := true, recurses := true, plainKeys := false, apart := false }
def DetLeastSaid : Prop := detLeastRow.holds Try.pinned (OpenSpec.ofChange detLeastSpec)

/-- ITS FALSE NEIGHBOUR: 'it returns false'. Refute it at one input. -/
def detLeastWrong : ChangeSpec := { name := "detLeast", fn := fun _ => fun
  | [d1, d2, d3] => { results := [.lit (.bool false)], args := [d1, d2, d3] }
  | _ => none }
def DetLeastWrongFalsely : Prop := detLeastRow.holds Try.pinned (OpenSpec.ofChange detLeastWrong)

/-- 'evermorelaw.BuchiSome': WHATEVER THE INPUT: true; the input reads as it did. -/
def buchiSomeSpec : ChangeSpec := { name := "buchiSome", fn := fun _ => fun
  | [d1, d2] => { results := [.lit (.bool true)], args := [d1, d2] }
  | _ => none }
def buchiSomeRow : OpenClaim := { program := "ytfkilmmldjajmaa", sum := "6878324f9b2ec7f1a44d5741b5439d452c3455cf551a07fd526760ed521cf391", func := "evermore/evermorelaw.BuchiSome", spec := "buchiSome", unfollowed := true, recurses := true, plainKeys := false, apart := false }
def BuchiSomeSaid : Prop := buchiSomeRow.holds Try.pinned (OpenSpec.ofChange buchiSomeSpec)

/-- ITS FALSE NEIGHBOUR: 'it returns false'. Refute it at one input. -/
def buchiSomeWrong : ChangeSpec := { name := "buchiSome", fn := fun _ => fun
  | [d1, d2] => { results := [.lit (.bool false)], args := [d1, d2] }
  | _ => none }
def BuchiSomeWrongFalsely : Prop := buchiSomeRow.holds Try.pinned (OpenSpec.ofChange buchiSomeWrong)

/-- 'evermoretop.TopWays': WHATEVER THE INPUT: true; the input reads as it did. -/
def topWaysSpec : ChangeSpec := { name := "topWays", fn := fun _ => fun
  | [d] => { results := [.lit (.bool true)], args := [d] }
  | _ => none }
def topWaysRow : OpenClaim := { program := "ytfkilmmldjajmaa", sum := "6878324f9b2ec7f1a44d5741b5439d452c3455cf551a07fd526760ed521cf391", func := "evermore/evermoretop.TopWays", spec := "topWays", unfollowed := true, recurses := true, plainKeys := false, apart := false }
def TopWaysSaid : Prop := topWaysRow.holds Try.pinned (OpenSpec.ofChange topWaysSpec)

/-- ITS FALSE NEIGHBOUR: 'it returns false'. Refute it at one input. -/
def topWaysWrong : ChangeSpec := { name := "topWays", fn := fun _ => fun
  | [d] => { results := [.lit (.bool false)], args := [d] }
  | _ => none }
def TopWaysWrongFalsely : Prop := topWaysRow.holds Try.pinned (OpenSpec.ofChange topWaysWrong)

/-- 'evermorelaw.RegularText': WHATEVER THE INPUT: true; the input reads as it did. -/
def regularTextSpec : ChangeSpec := { name := "regularText", fn := fun _ => fun
  | [d1, d2] => { results := [.lit (.bool true)], args := [d1, d2] }
  | _ => none }
def regularTextRow : OpenClaim := { program := "ytfkilmmldjajmaa", sum := "6878324f9b2ec7f1a44d5741b5439d452c3455cf551a07fd526760ed521cf391", func := "evermore/evermorelaw.RegularText", spec := "regularText", unfollowed := true, recurses := true, plainKeys := false, apart := false }
def RegularTextSaid : Prop := regularTextRow.holds Try.pinned (OpenSpec.ofChange regularTextSpec)

/-- ITS FALSE NEIGHBOUR: 'it returns false'. Refute it at one input. -/
def regularTextWrong : ChangeSpec := { name := "regularText", fn := fun _ => fun
  | [d1, d2] => { results := [.lit (.bool false)], args := [d1, d2] }
  | _ => none }
def RegularTextWrongFalsely : Prop := regularTextRow.holds Try.pinned (OpenSpec.ofChange regularTextWrong)

/-- 'evermorelaw.AlterDet': WHATEVER THE INPUT: true; the input reads as it did. -/
def alterDetSpec : ChangeSpec := { name := "alterDet", fn := fun _ => fun
  | [d1, d2] => { results := [.lit (.bool true)], args := [d1, d2] }
  | _ => none }
def alterDetRow : OpenClaim := { program := "ytfkilmmldjajmaa", sum := "6878324f9b2ec7f1a44d5741b5439d452c3455cf551a07fd526760ed521cf391", func := "evermore/evermorelaw.AlterDet", spec := "alterDet", unfollowed := true, recurses := true, plainKeys := false, apart := false }
def AlterDetSaid : Prop := alterDetRow.holds Try.pinned (OpenSpec.ofChange alterDetSpec)

/-- ITS FALSE NEIGHBOUR: 'it returns false'. Refute it at one input. -/
def alterDetWrong : ChangeSpec := { name := "alterDet", fn := fun _ => fun
  | [d1, d2] => { results := [.lit (.bool false)], args := [d1, d2] }
  | _ => none }
def AlterDetWrongFalsely : Prop := alterDetRow.holds Try.pinned (OpenSpec.ofChange alterDetWrong)

/-- 'evermorelaw.BuchiAccepts': WHATEVER THE INPUT: true; the input reads as it did. -/
def buchiAcceptsSpec : ChangeSpec := { name := "buchiAccepts", fn := fun _ => fun
  | [d1, d2] => { results := [.lit (.bool true)], args := [d1, d2] }
  | _ => none }
def buchiAcceptsRow : OpenClaim := { program := "ytfkilmmldjajmaa", sum := "6878324f9b2ec7f1a44d5741b5439d452c3455cf551a07fd526760ed521cf391", func := "evermore/evermorelaw.BuchiAccepts", spec := "buchiAccepts", unfollowed := true, recurses := true, plainKeys := false, apart := false }
def BuchiAcceptsSaid : Prop := buchiAcceptsRow.holds Try.pinned (OpenSpec.ofChange buchiAcceptsSpec)

/-- ITS FALSE NEIGHBOUR: 'it returns false'. Refute it at one input. -/
def buchiAcceptsWrong : ChangeSpec := { name := "buchiAccepts", fn := fun _ => fun
  | [d1, d2] => { results := [.lit (.bool false)], args := [d1, d2] }
  | _ => none }
def BuchiAcceptsWrongFalsely : Prop := buchiAcceptsRow.holds Try.pinned (OpenSpec.ofChange buchiAcceptsWrong)

/-- 'evermorelaw.DetMade': WHATEVER THE INPUT: true; the input reads as it did. -/
def detMadeSpec : ChangeSpec := { name := "detMade", fn := fun _ => fun
  | [d1, d2] => { results := [.lit (.bool true)], args := [d1, d2] }
  | _ => none }
def detMadeRow : OpenClaim := { program := "ytfkilmmldjajmaa", sum := "6878324f9b2ec7f1a44d5741b5439d452c3455cf551a07fd526760ed521cf391", func := "evermore/evermorelaw.DetMade", spec := "detMade", unfollowed := true, recurses := true, plainKeys := false, apart := false }
def DetMadeSaid : Prop := detMadeRow.holds Try.pinned (OpenSpec.ofChange detMadeSpec)

/-- ITS FALSE NEIGHBOUR: 'it returns false'. Refute it at one input. -/
def detMadeWrong : ChangeSpec := { name := "detMade", fn := fun _ => fun
  | [d1, d2] => { results := [.lit (.bool false)], args := [d1, d2] }
  | _ => none }
def DetMadeWrongFalsely : Prop := detMadeRow.holds Try.pinned (OpenSpec.ofChange detMadeWrong)

/- THE SECOND FORM. 'bulk': how many values and letters a reading holds, each counted each time it is reached (what is shared counts as often as it is met; a slice's spare places count too). A statement '..UptoSaid' is the law's where the arguments, and the package variables that the reading takes, are together of bulk at most 1048576: NARROWER than '..Said'. Prove '..Said' where nothing that the law and all that it calls make is longer than what came in: it says more and counts as full. Else prove '..UptoSaid'. A law counts once. -/
mutual
def uptoBulk {H : Type} : DataW H → Nat
  | .lit (.string bytes) => bytes.length + 1
  | .lit _ => 1
  | .nil => 1
  | .ptr d => uptoBulk d + 1
  | .slice elems spare => uptoBulkAll elems + uptoBulkAll spare + 1
  | .agg parts => uptoBulkAll parts + 1
  | .iface _ d => uptoBulk d + 1
  | .map entries => uptoBulkEntries entries + 1
  | .held _ => 1
def uptoBulkAll {H : Type} : List (DataW H) → Nat
  | [] => 0
  | d :: r => uptoBulk d + uptoBulkAll r
def uptoBulkEntries {H : Type} : List (Lit × DataW H) → Nat
  | [] => 0
  | x :: r => uptoBulkEntry x + uptoBulkEntries r
def uptoBulkEntry {H : Type} : Lit × DataW H → Nat
  | (.string bytes, d) => bytes.length + uptoBulk d + 1
  | (_, d) => uptoBulk d + 1
 end
def uptoSmall : (H : Type) → List (DataW H) → Bool := fun _ ds => decide (uptoBulkAll ds ≤ 1048576)
def OpenSpec.upto (s : _root_.Go.ChangeSpec) : _root_.Go.OpenSpec := { _root_.Go.OpenSpec.ofChange s with cond := some uptoSmall }

/-- 'evermorelaw.AlterOther', WHERE WHAT IT READS IS OF BULK AT MOST 1048576: true; the input reads as it did. -/
def alterOtherUptoRow : OpenClaim := { program := "ytfkilmmldjajmaa", sum := "6878324f9b2ec7f1a44d5741b5439d452c3455cf551a07fd526760ed521cf391", func := "evermore/evermorelaw.AlterOther", spec := "alterOther", unfollowed := true, recurses := true, plainKeys := false, apart := false, narrowed := true }
def AlterOtherUptoSaid : Prop := alterOtherUptoRow.holds Try.pinned (OpenSpec.upto alterOtherSpec)

/-- 'evermorelaw.WordNormal', WHERE WHAT IT READS IS OF BULK AT MOST 1048576: true; the input reads as it did. -/
def wordNormalUptoRow : OpenClaim := { program := "ytfkilmmldjajmaa", sum := "6878324f9b2ec7f1a44d5741b5439d452c3455cf551a07fd526760ed521cf391", func := "evermore/evermorelaw.WordNormal", spec := "wordNormal", plainKeys := false, apart := false, narrowed := true }
def WordNormalUptoSaid : Prop := wordNormalUptoRow.holds Try.pinned (OpenSpec.upto wordNormalSpec)

/-- 'evermorelaw.AlterAccepts', WHERE WHAT IT READS IS OF BULK AT MOST 1048576: true; the input reads as it did. -/
def alterAcceptsUptoRow : OpenClaim := { program := "ytfkilmmldjajmaa", sum := "6878324f9b2ec7f1a44d5741b5439d452c3455cf551a07fd526760ed521cf391", func := "evermore/evermorelaw.AlterAccepts", spec := "alterAccepts", unfollowed := true, recurses := true, plainKeys := false, apart := false, narrowed := true }
def AlterAcceptsUptoSaid : Prop := alterAcceptsUptoRow.holds Try.pinned (OpenSpec.upto alterAcceptsSpec)

/-- 'evermorelaw.CodeUnique', WHERE WHAT IT READS IS OF BULK AT MOST 1048576: true; the input reads as it did. -/
def codeUniqueUptoRow : OpenClaim := { program := "ytfkilmmldjajmaa", sum := "6878324f9b2ec7f1a44d5741b5439d452c3455cf551a07fd526760ed521cf391", func := "evermore/evermorelaw.CodeUnique", spec := "codeUnique", unfollowed := true, recurses := true, plainKeys := false, apart := false, narrowed := true }
def CodeUniqueUptoSaid : Prop := codeUniqueUptoRow.holds Try.pinned (OpenSpec.upto codeUniqueSpec)

/-- 'evermorelaw.MullerDet', WHERE WHAT IT READS IS OF BULK AT MOST 1048576: true; the input reads as it did. -/
def mullerDetUptoRow : OpenClaim := { program := "ytfkilmmldjajmaa", sum := "6878324f9b2ec7f1a44d5741b5439d452c3455cf551a07fd526760ed521cf391", func := "evermore/evermorelaw.MullerDet", spec := "mullerDet", unfollowed := true, recurses := true, plainKeys := false, apart := false, narrowed := true }
def MullerDetUptoSaid : Prop := mullerDetUptoRow.holds Try.pinned (OpenSpec.upto mullerDetSpec)

/-- 'evermorelaw.DetLeast', WHERE WHAT IT READS IS OF BULK AT MOST 1048576: true; the input reads as it did. -/
def detLeastUptoRow : OpenClaim := { program := "ytfkilmmldjajmaa", sum := "6878324f9b2ec7f1a44d5741b5439d452c3455cf551a07fd526760ed521cf391", func := "evermore/evermorelaw.DetLeast", spec := "detLeast", unfollowed := true, recurses := true, plainKeys := false, apart := false, narrowed := true }
def DetLeastUptoSaid : Prop := detLeastUptoRow.holds Try.pinned (OpenSpec.upto detLeastSpec)

/-- 'evermorelaw.BuchiSome', WHERE WHAT IT READS IS OF BULK AT MOST 1048576: true; the input reads as it did. -/
def buchiSomeUptoRow : OpenClaim := { program := "ytfkilmmldjajmaa", sum := "6878324f9b2ec7f1a44d5741b5439d452c3455cf551a07fd526760ed521cf391", func := "evermore/evermorelaw.BuchiSome", spec := "buchiSome", unfollowed := true, recurses := true, plainKeys := false, apart := false, narrowed := true }
def BuchiSomeUptoSaid : Prop := buchiSomeUptoRow.holds Try.pinned (OpenSpec.upto buchiSomeSpec)

/-- 'evermoretop.TopWays', WHERE WHAT IT READS IS OF BULK AT MOST 1048576: true; the input reads as it did. -/
def topWaysUptoRow : OpenClaim := { program := "ytfkilmmldjajmaa", sum := "6878324f9b2ec7f1a44d5741b5439d452c3455cf551a07fd526760ed521cf391", func := "evermore/evermoretop.TopWays", spec := "topWays", unfollowed := true, recurses := true, plainKeys := false, apart := false, narrowed := true }
def TopWaysUptoSaid : Prop := topWaysUptoRow.holds Try.pinned (OpenSpec.upto topWaysSpec)

/-- 'evermorelaw.RegularText', WHERE WHAT IT READS IS OF BULK AT MOST 1048576: true; the input reads as it did. -/
def regularTextUptoRow : OpenClaim := { program := "ytfkilmmldjajmaa", sum := "6878324f9b2ec7f1a44d5741b5439d452c3455cf551a07fd526760ed521cf391", func := "evermore/evermorelaw.RegularText", spec := "regularText", unfollowed := true, recurses := true, plainKeys := false, apart := false, narrowed := true }
def RegularTextUptoSaid : Prop := regularTextUptoRow.holds Try.pinned (OpenSpec.upto regularTextSpec)

/-- 'evermorelaw.AlterDet', WHERE WHAT IT READS IS OF BULK AT MOST 1048576: true; the input reads as it did. -/
def alterDetUptoRow : OpenClaim := { program := "ytfkilmmldjajmaa", sum := "6878324f9b2ec7f1a44d5741b5439d452c3455cf551a07fd526760ed521cf391", func := "evermore/evermorelaw.AlterDet", spec := "alterDet", unfollowed := true, recurses := true, plainKeys := false, apart := false, narrowed := true }
def AlterDetUptoSaid : Prop := alterDetUptoRow.holds Try.pinned (OpenSpec.upto alterDetSpec)

/-- 'evermorelaw.BuchiAccepts', WHERE WHAT IT READS IS OF BULK AT MOST 1048576: true; the input reads as it did. -/
def buchiAcceptsUptoRow : OpenClaim := { program := "ytfkilmmldjajmaa", sum := "6878324f9b2ec7f1a44d5741b5439d452c3455cf551a07fd526760ed521cf391", func := "evermore/evermorelaw.BuchiAccepts", spec := "buchiAccepts", unfollowed := true, recurses := true, plainKeys := false, apart := false, narrowed := true }
def BuchiAcceptsUptoSaid : Prop := buchiAcceptsUptoRow.holds Try.pinned (OpenSpec.upto buchiAcceptsSpec)

/-- 'evermorelaw.DetMade', WHERE WHAT IT READS IS OF BULK AT MOST 1048576: true; the input reads as it did. -/
def detMadeUptoRow : OpenClaim := { program := "ytfkilmmldjajmaa", sum := "6878324f9b2ec7f1a44d5741b5439d452c3455cf551a07fd526760ed521cf391", func := "evermore/evermorelaw.DetMade", spec := "detMade", unfollowed := true, recurses := true, plainKeys := false, apart := false, narrowed := true }
def DetMadeUptoSaid : Prop := detMadeUptoRow.holds Try.pinned (OpenSpec.upto detMadeSpec)

end Rows
end Go.Proofs.Ytfkilmmldjajmaa
