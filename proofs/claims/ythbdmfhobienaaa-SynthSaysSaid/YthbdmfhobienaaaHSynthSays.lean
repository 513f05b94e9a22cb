-- Printed over the kit's print by a program of this session (wip/hprint.py), with contracts of its own hand.
import Derived.Test.YthbdmfhobienaaaRows
import Derived.Test.YthbdmfhobienaaaVSynthSaysOpen
import Derived.Test.YthbdmfhobienaaaQSynthSays
import Derived.WalkKit
import Derived.ProofKit
import Derived.OpenShut
import Derived.ShutString
import Derived.ChangeOld
import Derived.Below
import Derived.SizedLaws
import Derived.ReadAgain
namespace Go.Proofs.Ythbdmfhobienaaa.synthSays
open Go.ChangeShapes Go.WideShapes Go.ChangeAt Go.RowKit Go.Proofs.YthbdmfhobienaaaW.PrintWords Go.Proofs.YthbdmfhobienaaaW.PrintOpen Go.Proofs.Ythbdmfhobienaaa.PSynthSays
open Go.ChangeMaps (open_string shut_string)
set_option linter.unusedVariables false
theorem own : ownKnob Try.prog.godebug = none := by kernel_rfl
theorem laidOut : laidOutB Try.prog = true := by kernel_rfl
set_option maxRecDepth 100000 in
set_option maxHeartbeats 4000000 in
theorem lifted (P : evermorelaw_SynthSays.PureH) (os : Os) (started : os.Started) (H : Type) (enc : TypeId × Value → H) :
    ReturnsInHanded {} Try.checked os 6 .any (Rows.synthSaysSpec.pre6 enc Try.prog Try.f6 Rows.synthSaysRow.domain false) (Rows.synthSaysSpec.post enc Try.prog Try.f6 false true false false) := by
  refine returnsInHanded_of_change_sized (C := Try.checked) own started (by kernel_rfl) Try.func6
    (ChangeSpec.witness6 (enc := enc) (C := Try.checked) false ⟨#[], #[.agg #[.bool false, .int .i64 0, .slice none 0 0, .slice none 0 0], .slice none 0 0], []⟩ 8 (by kernel_rfl) (by kernel_rfl) (by kernel_rfl) (by kernel_rfl)) ?_
  intro W base args ds gs before hval0 hW hcnd hsz0 _
  have hsz : (DataW.weightsEach Try.prog (Try.f6.params.toList ++ Rows.synthSaysSpec.plain.varTypes Try.prog) (ds ++ gs)).all (· ≤ reachBytes) = true := hsz0
  have hval : ∀ (j : Nat) t v, Try.f6.params[j]? = some t → args[j]? = some v → Value.okWide Try.prog W .any base t v := hval0
  have hW' := hW
  obtain ⟨p, q, hA0, hV, rfl, hfz, hnd⟩ := hW
  have hA : DataW.TrodAll enc Try.prog W 0 (fun _ => true) true Try.f6.params.toList args.toList ds p := hA0
  rw [Try.params6] at hA hval hsz
  obtain ⟨v0, vs0, d0, ds0, p0, q0, hargs, rfl, rfl, h0, r0⟩ := trodAll_cons hA
  obtain ⟨v1, vs1, d1, ds1, p1, q1, rfl, rfl, rfl, h1, r1⟩ := trodAll_cons r0
  obtain ⟨rfl, rfl, rfl⟩ := trodAll_nil r1
  obtain rfl : args = #[v0, v1] := by cases args; simp_all
  obtain ⟨rfl, rfl⟩ := trodVars_none hV
  have k0 := h0
  have lt0 : ∀ x ∈ p0, x.block < W.heap.size := by obtain ⟨m, hm⟩ := k0; exact DataW.trod_lt m _ _ _ hm
  obtain ⟨⟨a0_0, a0_1, l0_2, l0_3⟩, hk0, ok0⟩ := opened (P := Try.prog) (W := W) (t := 42) (op_struct Try.underlying42 (by kernel_rfl) (opf_cons rfl (by kernel_rfl) (op_bool Try.underlying4) (opf_cons rfl (by kernel_rfl) (op_int (k := .i64) Try.underlying3) (opf_cons rfl (by kernel_rfl) (op_slice (e := 87) Try.underlying40 (by kernel_rfl) 16 (by kernel_rfl) (show Go.Proofs.YthbdmfhobienaaaW.PrintOpen.Op Try.prog W 87 k87 _ from op_array (fs := [⟨default, 3, 0, false, default, default, 0⟩, ⟨default, 3, 1, false, default, default, 0⟩]) (n := 2) (c := 1) Try.underlying87 (by kernel_rfl) (by kernel_rfl) rfl (opf_cons rfl (by kernel_rfl) (op_int (k := .i64) Try.underlying3) (opf_last rfl (by kernel_rfl) (op_int (k := .i64) Try.underlying3))) (fun x : S87 => (x.f0, x.f1)) (fun y => (⟨y.1, y.2⟩ : S87)) (fun _ => rfl))) (opf_last rfl (by kernel_rfl) (op_slice (e := 87) Try.underlying40 (by kernel_rfl) 16 (by kernel_rfl) (show Go.Proofs.YthbdmfhobienaaaW.PrintOpen.Op Try.prog W 87 k87 _ from op_array (fs := [⟨default, 3, 0, false, default, default, 0⟩, ⟨default, 3, 1, false, default, default, 0⟩]) (n := 2) (c := 1) Try.underlying87 (by kernel_rfl) (by kernel_rfl) rfl (opf_cons rfl (by kernel_rfl) (op_int (k := .i64) Try.underlying3) (opf_last rfl (by kernel_rfl) (op_int (k := .i64) Try.underlying3))) (fun x : S87 => (x.f0, x.f1)) (fun y => (⟨y.1, y.2⟩ : S87)) (fun _ => rfl))))))) (fun y => y) (fun y => y) (fun _ => rfl)) h0 hsz 0 rfl rfl
  obtain ⟨cs0, rfl, _⟩ := okWide_struct Try.underlying42 (hval 0 42 v0 rfl rfl)
  obtain ⟨cl0, hcl0⟩ : ∃ cl, cl = (Value.agg cs0).cells.toList := ⟨_, rfl⟩
  rw [← hcl0] at hk0
  obtain ⟨_, _, rfl, rfl, ⟨_, _, rfl, rfl, ⟨_, _, rfl, ⟨A0_2, c0_2, rfl, hc0_2, hr0_2⟩, ⟨A0_3, c0_3, rfl, hc0_3, hr0_3⟩⟩⟩⟩ := hk0
  obtain rfl : cs0 = #[.bool a0_0, .int .i64 a0_1, .slice A0_2 l0_2.length c0_2, .slice A0_3 l0_3.length c0_3] := Array.toList_inj.1 (by simpa [Value.cells] using hcl0.symm)
  have k1 := h1
  have lt1 : ∀ x ∈ p1, x.block < W.heap.size := by obtain ⟨m, hm⟩ := k1; exact DataW.trod_lt m _ _ _ hm
  obtain ⟨l1, hk1, ok1⟩ := opened (P := Try.prog) (W := W) (t := 26) (op_slice (e := 3) Try.underlying26 (by kernel_rfl) 8 (by kernel_rfl) (op_int (k := .i64) Try.underlying3)) h1 hsz 1 rfl rfl
  obtain ⟨b1, n1, c1', rfl⟩ := okWide_slice Try.underlying26 (hval 1 26 v1 rfl rfl)
  obtain ⟨A1, c1, hcl1, hc1, hr1⟩ := hk1
  obtain ⟨rfl, rfl, rfl⟩ : A1 = b1 ∧ l1.length = n1 ∧ c1 = c1' := by have hq : b1 = A1 ∧ n1 = l1.length ∧ c1' = c1 := (by simpa [Value.cells] using hcl1); exact ⟨hq.1.symm, hq.2.1.symm, hq.2.2.symm⟩
  clear hA0 hval0 hsz0 hsz
  obtain ⟨k, hP⟩ := P a0_0 a0_1 l0_2 l0_3 l1 ok0 ok1
  refine (evermorelaw_SynthSays.calls k a0_0 a0_1 A0_2 c0_2 l0_2 A0_3 c0_3 l0_3 A1 c1 l1 true W hr0_2 hc0_2 hr0_3 hc0_3 hr1 hc1 hP).mono ?_
  intro e W' hpost
  obtain ⟨rfl, bel⟩ := hpost
  exact ⟨_, rfl, _, _, _, [], _, [], hW', trodAll_mk1 (shut_bool Try.underlying4 _), (trodAll_cons_mk (Below.trod laidOut (by kernel_rfl) (of_decide_eq_true (by kernel_rfl)) k0 bel lt0) (trodAll_cons_mk (Below.trod laidOut (by kernel_rfl) (of_decide_eq_true (by kernel_rfl)) k1 bel lt1) trodAll_mk0)), rfl, bel.frame _, fun h => by cases h⟩
theorem over (P : evermorelaw_SynthSays.PureH) : Rows.synthSaysRow.holds Try.pinned (OpenSpec.ofChange Rows.synthSaysSpec) :=
  OpenClaim.holds_of_wide 6 Try.f6 rfl rfl rfl rfl rfl rfl rfl ⟨rfl, rfl, rfl, rfl, rfl⟩ rfl rfl rfl rfl rfl (by kernel_rfl) Try.func6 (by kernel_rfl)
    (of_decide_eq_true (by kernel_rfl)) (by unfold Func.isWrapper; first | (rw [if_pos (by decide +kernel)]; kernel_rfl) | (rw [if_neg (by decide +kernel)]; exact ⟨rfl, rfl⟩))
    (fun os started H enc _ => lifted P os started H enc)
theorem proved (P : evermorelaw_SynthSays.PureH) : Rows.SynthSaysSaid := over P
end Go.Proofs.Ythbdmfhobienaaa.synthSays
