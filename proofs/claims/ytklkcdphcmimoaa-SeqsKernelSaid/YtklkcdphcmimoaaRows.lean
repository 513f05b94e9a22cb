/-
  No cell of these rows narrows 'for every input' (looked for: loops, veiled, ifaces, maps, wideKeys, modest, calm, conditions, laid).
  DERIVED. THE GIVEN ROWS OF THIS SEAT. 12 by the template 'for every input the law returns true; each argument reads behind the call as it read before'; 0 by the template 'total and deterministic' (their statements: YtklkcdphcmimoaaTotals.lean).
  GIVEN WITH THE SEED: the statements are not yours to turn. If you find one false, say at which input.
  Laid BY PROGRAM, IN A SANDBOX (cutbox-rows.mjs): the forced cells as the released guide's own fill.sh prints them over the translation f9546bc70e0c85ba… (all of the seat's roots in one cut). By AI agents, Wed Nov 11 2026. No macro, syntax, notation, axiom, sorry.
-/
import Derived.Test.YtklkcdphcmimoaaChecked
import GoSem.Claim
import GoSem.ClaimJoined
import GoSem.ClaimMapViews
import Derived.JoinedTies
import Derived.KernelRfl
namespace Go.Proofs.Ytklkcdphcmimoaa
/- THE CELL 'sum', in the pinned program and in every row, IS THE sha256 OF THE DUMP (.gsa) THAT YtklkcdphcmimoaaProg.lean LOADS. Nothing in Lean hashes anything: it is a label: what it is worth is what the hold of that sum in a sandbox is worth. -/
noncomputable def Try.pinned : Pinned := { name := "ytklkcdphcmimoaa", sum := "f9546bc70e0c85bade45d1530368b993dedca3ec3fd5e537d843b576c25abf2f", checked := Try.checked }
namespace Rows
def none {H : Type} : Left H := { results := [], args := [] }

/-- 'evermorelaw.GramMany': WHATEVER THE INPUT: true; the input reads as it did. -/
def gramManySpec : ChangeSpec := { name := "gramMany", fn := fun _ => fun
  | [d1, d2] => { results := [.lit (.bool true)], args := [d1, d2] }
  | _ => none }
def gramManyRow : OpenClaim := { program := "ytklkcdphcmimoaa", sum := "f9546bc70e0c85bade45d1530368b993dedca3ec3fd5e537d843b576c25abf2f", func := "evermore/evermorelaw.GramMany", spec := "gramMany", unfollowed := true, recurses := true, plainKeys := false, apart := false }
def GramManySaid : Prop := gramManyRow.holds Try.pinned (OpenSpec.ofChange gramManySpec)

/-- ITS FALSE NEIGHBOUR: 'it returns false'. Refute it at one input. -/
def gramManyWrong : ChangeSpec := { name := "gramMany", fn := fun _ => fun
  | [d1, d2] => { results := [.lit (.bool false)], args := [d1, d2] }
  | _ => none }
def GramManyWrongFalsely : Prop := gramManyRow.holds Try.pinned (OpenSpec.ofChange gramManyWrong)

/-- 'evermorelaw.SeqsKernel': WHATEVER THE INPUT: true; the input reads as it did. -/
def seqsKernelSpec : ChangeSpec := { name := "seqsKernel", fn := fun _ => fun
  | [d] => { results := [.lit (.bool true)], args := [d] }
  | _ => none }
def seqsKernelRow : OpenClaim := { program := "ytklkcdphcmimoaa", sum := "f9546bc70e0c85bade45d1530368b993dedca3ec3fd5e537d843b576c25abf2f", func := "evermore/evermorelaw.SeqsKernel", spec := "seqsKernel", unfollowed := true, recurses := true, plainKeys := false, apart := false }
def SeqsKernelSaid : Prop := seqsKernelRow.holds Try.pinned (OpenSpec.ofChange seqsKernelSpec)

/-- ITS FALSE NEIGHBOUR: 'it returns false'. Refute it at one input. -/
def seqsKernelWrong : ChangeSpec := { name := "seqsKernel", fn := fun _ => fun
  | [d] => { results := [.lit (.bool false)], args := [d] }
  | _ => none }
def SeqsKernelWrongFalsely : Prop := seqsKernelRow.holds Try.pinned (OpenSpec.ofChange seqsKernelWrong)

/-- 'evermorelaw.SameHolds': WHATEVER THE INPUT: true; the input reads as it did. -/
def sameHoldsSpec : ChangeSpec := { name := "sameHolds", fn := fun _ => fun
  | [d1, d2] => { results := [.lit (.bool true)], args := [d1, d2] }
  | _ => none }
def sameHoldsRow : OpenClaim := { program := "ytklkcdphcmimoaa", sum := "f9546bc70e0c85bade45d1530368b993dedca3ec3fd5e537d843b576c25abf2f", func := "evermore/evermorelaw.SameHolds", spec := "sameHolds", unfollowed := true, recurses := true, plainKeys := false, apart := false }
def SameHoldsSaid : Prop := sameHoldsRow.holds Try.pinned (OpenSpec.ofChange sameHoldsSpec)

/-- ITS FALSE NEIGHBOUR: 'it returns false'. Refute it at one input. -/
def sameHoldsWrong : ChangeSpec := { name := "sameHolds", fn := fun _ => fun
  | [d1, d2] => { results := [.lit (.bool false)], args := [d1, d2] }
  | _ => none }
def SameHoldsWrongFalsely : Prop := sameHoldsRow.holds Try.pinned (OpenSpec.ofChange sameHoldsWrong)

/-- 'evermoretop.TopRules': WHATEVER THE INPUT: true; the input reads as it did. -/
def topRulesSpec : ChangeSpec := { name := "topRules", fn := fun _ => fun
  | [d1, d2] => { results := [.lit (.bool true)], args := [d1, d2] }
  | _ => none }
def topRulesRow : OpenClaim := { program := "ytklkcdphcmimoaa", sum := "f9546bc70e0c85bade45d1530368b993dedca3ec3fd5e537d843b576c25abf2f", func := "evermore/evermoretop.TopRules", spec := "topRules", unfollowed := true, recurses := true, plainKeys := false, apart := false }
def TopRulesSaid : Prop := topRulesRow.holds Try.pinned (OpenSpec.ofChange topRulesSpec)

/-- ITS FALSE NEIGHBOUR: 'it returns false'. Refute it at one input. -/
def topRulesWrong : ChangeSpec := { name := "topRules", fn := fun _ => fun
  | [d1, d2] => { results := [.lit (.bool false)], args := [d1, d2] }
  | _ => none }
def TopRulesWrongFalsely : Prop := topRulesRow.holds Try.pinned (OpenSpec.ofChange topRulesWrong)

/-- 'evermorelaw.CoverFires': WHATEVER THE INPUT: true; the input reads as it did. -/
def coverFiresSpec : ChangeSpec := { name := "coverFires", fn := fun _ => fun
  | [d1, d2, d3] => { results := [.lit (.bool true)], args := [d1, d2, d3] }
  | _ => none }
def coverFiresRow : OpenClaim := { program := "ytklkcdphcmimoaa", sum := "f9546bc70e0c85bade45d1530368b993dedca3ec3fd5e537d843b576c25abf2f", func := "evermore/evermorelaw.CoverFires", spec := "coverFires", unfollowed := true, recurses := true, plainKeys := false, apart := false }
def CoverFiresSaid : Prop := coverFiresRow.holds Try.pinned (OpenSpec.ofChange coverFiresSpec)

/-- ITS FALSE NEIGHBOUR: 'it returns false'. Refute it at one input. -/
def coverFiresWrong : ChangeSpec := { name := "coverFires", fn := fun _ => fun
  | [d1, d2, d3] => { results := [.lit (.bool false)], args := [d1, d2, d3] }
  | _ => none }
def CoverFiresWrongFalsely : Prop := coverFiresRow.holds Try.pinned (OpenSpec.ofChange coverFiresWrong)

/-- 'evermorelaw.BranchReads': WHATEVER THE INPUT: true; the input reads as it did. -/
def branchReadsSpec : ChangeSpec := { name := "branchReads", fn := fun _ => fun
  | [d] => { results := [.lit (.bool true)], args := [d] }
  | _ => none }
def branchReadsRow : OpenClaim := { program := "ytklkcdphcmimoaa", sum := "f9546bc70e0c85bade45d1530368b993dedca3ec3fd5e537d843b576c25abf2f", func := "evermore/evermorelaw.BranchReads", spec := "branchReads", unfollowed := true, recurses := true, plainKeys := false, apart := false }
def BranchReadsSaid : Prop := branchReadsRow.holds Try.pinned (OpenSpec.ofChange branchReadsSpec)

/-- ITS FALSE NEIGHBOUR: 'it returns false'. Refute it at one input. -/
def branchReadsWrong : ChangeSpec := { name := "branchReads", fn := fun _ => fun
  | [d] => { results := [.lit (.bool false)], args := [d] }
  | _ => none }
def BranchReadsWrongFalsely : Prop := branchReadsRow.holds Try.pinned (OpenSpec.ofChange branchReadsWrong)

/-- 'evermorelaw.HigmanLeast': WHATEVER THE INPUT: true; the input reads as it did. -/
def higmanLeastSpec : ChangeSpec := { name := "higmanLeast", fn := fun _ => fun
  | [d1, d2] => { results := [.lit (.bool true)], args := [d1, d2] }
  | _ => none }
def higmanLeastRow : OpenClaim := { program := "ytklkcdphcmimoaa", sum := "f9546bc70e0c85bade45d1530368b993dedca3ec3fd5e537d843b576c25abf2f", func := "evermore/evermorelaw.HigmanLeast", spec := "higmanLeast", unfollowed := true, recurses := true, plainKeys := false, apart := false }
def HigmanLeastSaid : Prop := higmanLeastRow.holds Try.pinned (OpenSpec.ofChange higmanLeastSpec)

/-- ITS FALSE NEIGHBOUR: 'it returns false'. Refute it at one input. -/
def higmanLeastWrong : ChangeSpec := { name := "higmanLeast", fn := fun _ => fun
  | [d1, d2] => { results := [.lit (.bool false)], args := [d1, d2] }
  | _ => none }
def HigmanLeastWrongFalsely : Prop := higmanLeastRow.holds Try.pinned (OpenSpec.ofChange higmanLeastWrong)

/-- 'evermorelaw.EhrenWins': WHATEVER THE INPUT: true; the input reads as it did. -/
def ehrenWinsSpec : ChangeSpec := { name := "ehrenWins", fn := fun _ => fun
  | [d1, d2, d3, d4] => { results := [.lit (.bool true)], args := [d1, d2, d3, d4] }
  | _ => none }
def ehrenWinsRow : OpenClaim := { program := "ytklkcdphcmimoaa", sum := "f9546bc70e0c85bade45d1530368b993dedca3ec3fd5e537d843b576c25abf2f", func := "evermore/evermorelaw.EhrenWins", spec := "ehrenWins", recurses := true, plainKeys := false, apart := false }
def EhrenWinsSaid : Prop := ehrenWinsRow.holds Try.pinned (OpenSpec.ofChange ehrenWinsSpec)

/-- ITS FALSE NEIGHBOUR: 'it returns false'. Refute it at one input. -/
def ehrenWinsWrong : ChangeSpec := { name := "ehrenWins", fn := fun _ => fun
  | [d1, d2, d3, d4] => { results := [.lit (.bool false)], args := [d1, d2, d3, d4] }
  | _ => none }
def EhrenWinsWrongFalsely : Prop := ehrenWinsRow.holds Try.pinned (OpenSpec.ofChange ehrenWinsWrong)

/-- 'evermorelaw.TransRuns': WHATEVER THE INPUT: true; the input reads as it did. -/
def transRunsSpec : ChangeSpec := { name := "transRuns", fn := fun _ => fun
  | [d1, d2] => { results := [.lit (.bool true)], args := [d1, d2] }
  | _ => none }
def transRunsRow : OpenClaim := { program := "ytklkcdphcmimoaa", sum := "f9546bc70e0c85bade45d1530368b993dedca3ec3fd5e537d843b576c25abf2f", func := "evermore/evermorelaw.TransRuns", spec := "transRuns", unfollowed := true, recurses := true, plainKeys := false, apart := false }
def TransRunsSaid : Prop := transRunsRow.holds Try.pinned (OpenSpec.ofChange transRunsSpec)

/-- ITS FALSE NEIGHBOUR: 'it returns false'. Refute it at one input. -/
def transRunsWrong : ChangeSpec := { name := "transRuns", fn := fun _ => fun
  | [d1, d2] => { results := [.lit (.bool false)], args := [d1, d2] }
  | _ => none }
def TransRunsWrongFalsely : Prop := transRunsRow.holds Try.pinned (OpenSpec.ofChange transRunsWrong)

/-- 'evermorelaw.TreeSome': WHATEVER THE INPUT: true; the input reads as it did. -/
def treeSomeSpec : ChangeSpec := { name := "treeSome", fn := fun _ => fun
  | [d] => { results := [.lit (.bool true)], args := [d] }
  | _ => none }
def treeSomeRow : OpenClaim := { program := "ytklkcdphcmimoaa", sum := "f9546bc70e0c85bade45d1530368b993dedca3ec3fd5e537d843b576c25abf2f", func := "evermore/evermorelaw.TreeSome", spec := "treeSome", unfollowed := true, recurses := true, plainKeys := false, apart := false }
def TreeSomeSaid : Prop := treeSomeRow.holds Try.pinned (OpenSpec.ofChange treeSomeSpec)

/-- ITS FALSE NEIGHBOUR: 'it returns false'. Refute it at one input. -/
def treeSomeWrong : ChangeSpec := { name := "treeSome", fn := fun _ => fun
  | [d] => { results := [.lit (.bool false)], args := [d] }
  | _ => none }
def TreeSomeWrongFalsely : Prop := treeSomeRow.holds Try.pinned (OpenSpec.ofChange treeSomeWrong)

/-- 'evermorelaw.GramTells': WHATEVER THE INPUT: true; the input reads as it did. -/
def gramTellsSpec : ChangeSpec := { name := "gramTells", fn := fun _ => fun
  | [d1, d2] => { results := [.lit (.bool true)], args := [d1, d2] }
  | _ => none }
def gramTellsRow : OpenClaim := { program := "ytklkcdphcmimoaa", sum := "f9546bc70e0c85bade45d1530368b993dedca3ec3fd5e537d843b576c25abf2f", func := "evermore/evermorelaw.GramTells", spec := "gramTells", unfollowed := true, recurses := true, plainKeys := false, apart := false }
def GramTellsSaid : Prop := gramTellsRow.holds Try.pinned (OpenSpec.ofChange gramTellsSpec)

/-- ITS FALSE NEIGHBOUR: 'it returns false'. Refute it at one input. -/
def gramTellsWrong : ChangeSpec := { name := "gramTells", fn := fun _ => fun
  | [d1, d2] => { results := [.lit (.bool false)], args := [d1, d2] }
  | _ => none }
def GramTellsWrongFalsely : Prop := gramTellsRow.holds Try.pinned (OpenSpec.ofChange gramTellsWrong)

/-- 'evermorelaw.TimeReads': WHATEVER THE INPUT: true; the input reads as it did. -/
def timeReadsSpec : ChangeSpec := { name := "timeReads", fn := fun _ => fun
  | [d] => { results := [.lit (.bool true)], args := [d] }
  | _ => none }
def timeReadsRow : OpenClaim := { program := "ytklkcdphcmimoaa", sum := "f9546bc70e0c85bade45d1530368b993dedca3ec3fd5e537d843b576c25abf2f", func := "evermore/evermorelaw.TimeReads", spec := "timeReads", unfollowed := true, recurses := true, plainKeys := false, apart := false }
def TimeReadsSaid : Prop := timeReadsRow.holds Try.pinned (OpenSpec.ofChange timeReadsSpec)

/-- ITS FALSE NEIGHBOUR: 'it returns false'. Refute it at one input. -/
def timeReadsWrong : ChangeSpec := { name := "timeReads", fn := fun _ => fun
  | [d] => { results := [.lit (.bool false)], args := [d] }
  | _ => none }
def TimeReadsWrongFalsely : Prop := timeReadsRow.holds Try.pinned (OpenSpec.ofChange timeReadsWrong)

/- THE SECOND FORM. 'bulk': how many values and letters a reading holds, each counted each time it is reached (what is shared counts as often as it is met; a slice's spare places count too). A statement '..UptoSaid' is the law's where the arguments, and the package variables that the reading takes, are together of bulk at most 1048576: NARROWER than '..Said'. Prove '..Said' where nothing that the law and all that it calls make is longer than what came in: it says more and counts as full. Else prove '..UptoSaid'. A law counts once. -/
mutual
def uptoBulk {H : Type} : DataW H → Nat
  | .lit (.string bytes) => bytes.length + 1
  | .lit _ => 1
  | .nil => 1
  | .ptr d => uptoBulk d + 1
  | .slice elems spare => uptoBulkAll elems + uptoBulkAll spare + 1
  | .agg parts => uptoBulkAll parts + 1
  | .iface _ d => uptoBulk d + 1
  | .map entries => uptoBulkEntries entries + 1
  | .held _ => 1
def uptoBulkAll {H : Type} : List (DataW H) → Nat
  | [] => 0
  | d :: r => uptoBulk d + uptoBulkAll r
def uptoBulkEntries {H : Type} : List (Lit × DataW H) → Nat
  | [] => 0
  | x :: r => uptoBulkEntry x + uptoBulkEntries r
def uptoBulkEntry {H : Type} : Lit × DataW H → Nat
  | (.string bytes, d) => bytes.length + uptoBulk d + 1
  | (_, d) => uptoBulk d + 1
 end
def uptoSmall : (H : Type) → List (DataW H) → Bool := fun _ ds => decide (uptoBulkAll ds ≤ 1048576)
def OpenSpec.upto (s : _root_.Go.ChangeSpec) : _root_.Go.OpenSpec := { _root_.Go.OpenSpec.ofChange s with cond := some uptoSmall }

/-- 'evermorelaw.GramMany', WHERE WHAT IT READS IS OF BULK AT MOST 1048576: true; the input reads as it did. -/
def gramManyUptoRow : OpenClaim := { program := "ytklkcdphcmimoaa", sum := "f9546bc70e0c85bade45d1530368b993dedca3ec3fd5e537d843b576c25abf2f", func := "evermore/evermorelaw.GramMany", spec := "gramMany", unfollowed := true, recurses := true, plainKeys := false, apart := false, narrowed := true }
def GramManyUptoSaid : Prop := gramManyUptoRow.holds Try.pinned (OpenSpec.upto gramManySpec)

/-- 'evermorelaw.SeqsKernel', WHERE WHAT IT READS IS OF BULK AT MOST 1048576: true; the input reads as it did. -/
def seqsKernelUptoRow : OpenClaim := { program := "ytklkcdphcmimoaa", sum := "f9546bc70e0c85bade45d1530368b993dedca3ec3fd5e537d843b576c25abf2f", func := "evermore/evermorelaw.SeqsKernel", spec := "seqsKernel", unfollowed := true, recurses := true, plainKeys := false, apart := false, narrowed := true }
def SeqsKernelUptoSaid : Prop := seqsKernelUptoRow.holds Try.pinned (OpenSpec.upto seqsKernelSpec)

/-- 'evermorelaw.SameHolds', WHERE WHAT IT READS IS OF BULK AT MOST 1048576: true; the input reads as it did. -/
def sameHoldsUptoRow : OpenClaim := { program := "ytklkcdphcmimoaa", sum := "f9546bc70e0c85bade45d1530368b993dedca3ec3fd5e537d843b576c25abf2f", func := "evermore/evermorelaw.SameHolds", spec := "sameHolds", unfollowed := true, recurses := true, plainKeys := false, apart := false, narrowed := true }
def SameHoldsUptoSaid : Prop := sameHoldsUptoRow.holds Try.pinned (OpenSpec.upto sameHoldsSpec)

/-- 'evermoretop.TopRules', WHERE WHAT IT READS IS OF BULK AT MOST 1048576: true; the input reads as it did. -/
def topRulesUptoRow : OpenClaim := { program := "ytklkcdphcmimoaa", sum := "f9546bc70e0c85bade45d1530368b993dedca3ec3fd5e537d843b576c25abf2f", func := "evermore/evermoretop.TopRules", spec := "topRules", unfollowed := true, recurses := true, plainKeys := false, apart := false, narrowed := true }
def TopRulesUptoSaid : Prop := topRulesUptoRow.holds Try.pinned (OpenSpec.upto topRulesSpec)

/-- 'evermorelaw.CoverFires', WHERE WHAT IT READS IS OF BULK AT MOST 1048576: true; the input reads as it did. -/
def coverFiresUptoRow : OpenClaim := { program := "ytklkcdphcmimoaa", sum := "f9546bc70e0c85bade45d1530368b993dedca3ec3fd5e537d843b576c25abf2f", func := "evermore/evermorelaw.CoverFires", spec := "coverFires", unfollowed := true, recurses := true, plainKeys := false, apart := false, narrowed := true }
def CoverFiresUptoSaid : Prop := coverFiresUptoRow.holds Try.pinned (OpenSpec.upto coverFiresSpec)

/-- 'evermorelaw.BranchReads', WHERE WHAT IT READS IS OF BULK AT MOST 1048576: true; the input reads as it did. -/
def branchReadsUptoRow : OpenClaim := { program := "ytklkcdphcmimoaa", sum := "f9546bc70e0c85bade45d1530368b993dedca3ec3fd5e537d843b576c25abf2f", func := "evermore/evermorelaw.BranchReads", spec := "branchReads", unfollowed := true, recurses := true, plainKeys := false, apart := false, narrowed := true }
def BranchReadsUptoSaid : Prop := branchReadsUptoRow.holds Try.pinned (OpenSpec.upto branchReadsSpec)

/-- 'evermorelaw.HigmanLeast', WHERE WHAT IT READS IS OF BULK AT MOST 1048576: true; the input reads as it did. -/
def higmanLeastUptoRow : OpenClaim := { program := "ytklkcdphcmimoaa", sum := "f9546bc70e0c85bade45d1530368b993dedca3ec3fd5e537d843b576c25abf2f", func := "evermore/evermorelaw.HigmanLeast", spec := "higmanLeast", unfollowed := true, recurses := true, plainKeys := false, apart := false, narrowed := true }
def HigmanLeastUptoSaid : Prop := higmanLeastUptoRow.holds Try.pinned (OpenSpec.upto higmanLeastSpec)

/-- 'evermorelaw.EhrenWins', WHERE WHAT IT READS IS OF BULK AT MOST 1048576: true; the input reads as it did. -/
def ehrenWinsUptoRow : OpenClaim := { program := "ytklkcdphcmimoaa", sum := "f9546bc70e0c85bade45d1530368b993dedca3ec3fd5e537d843b576c25abf2f", func := "evermore/evermorelaw.EhrenWins", spec := "ehrenWins", recurses := true, plainKeys := false, apart := false, narrowed := true }
def EhrenWinsUptoSaid : Prop := ehrenWinsUptoRow.holds Try.pinned (OpenSpec.upto ehrenWinsSpec)

/-- 'evermorelaw.TransRuns', WHERE WHAT IT READS IS OF BULK AT MOST 1048576: true; the input reads as it did. -/
def transRunsUptoRow : OpenClaim := { program := "ytklkcdphcmimoaa", sum := "f9546bc70e0c85bade45d1530368b993dedca3ec3fd5e537d843b576c25abf2f", func := "evermore/evermorelaw.TransRuns", spec := "transRuns", unfollowed := true, recurses := true, plainKeys := false, apart := false, narrowed := true }
def TransRunsUptoSaid : Prop := transRunsUptoRow.holds Try.pinned (OpenSpec.upto transRunsSpec)

/-- 'evermorelaw.TreeSome', WHERE WHAT IT READS IS OF BULK AT MOST 1048576: true; the input reads as it did. -/
def treeSomeUptoRow : OpenClaim := { program := "ytklkcdphcmimoaa", sum := "f9546bc70e0c85bade45d1530368b993dedca3ec3fd5e537d843b576c25abf2f", func := "evermore/evermorelaw.TreeSome", spec := "treeSome", unfollowed := true, recurses := true, plainKeys := false, apart := false, narrowed := true }
def TreeSomeUptoSaid : Prop := treeSomeUptoRow.holds Try.pinned (OpenSpec.upto treeSomeSpec)

/-- 'evermorelaw.GramTells', WHERE WHAT IT READS IS OF BULK AT MOST 1048576: true; the input reads as it did. -/
def gramTellsUptoRow : OpenClaim := { program := "ytklkcdphcmimoaa", sum := "f9546bc70e0c85bade45d1530368b993dedca3ec3fd5e537d843b576c25abf2f", func := "evermore/evermorelaw.GramTells", spec := "gramTells", unfollowed := true, recurses := true, plainKeys := false, apart := false, narrowed := true }
def GramTellsUptoSaid : Prop := gramTellsUptoRow.holds Try.pinned (OpenSpec.upto gramTellsSpec)

/-- 'evermorelaw.TimeReads', WHERE WHAT IT READS IS OF BULK AT MOST 1048576: true; the input reads as it did. -/
def timeReadsUptoRow : OpenClaim := { program := "ytklkcdphcmimoaa", sum := "f9546bc70e0c85bade45d1530368b993dedca3ec3fd5e537d843b576c25abf2f", func := "evermore/evermorelaw.TimeReads", spec := "timeReads", unfollowed := true, recurses := true, plainKeys := false, apart := false, narrowed := true }
def TimeReadsUptoSaid : Prop := timeReadsUptoRow.holds Try.pinned (OpenSpec.upto timeReadsSpec)

end Rows
end Go.Proofs.Ytklkcdphcmimoaa
