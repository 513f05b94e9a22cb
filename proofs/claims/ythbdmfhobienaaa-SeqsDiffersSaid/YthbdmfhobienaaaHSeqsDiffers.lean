-- Printed over the kit's print by a program of this session (wip/hprint.py), with contracts of its own hand.
import Derived.Test.YthbdmfhobienaaaRows
import Derived.Test.YthbdmfhobienaaaVSeqsDiffersOpen
import Derived.Test.YthbdmfhobienaaaQSeqsDiffers
import Derived.WalkKit
import Derived.ProofKit
import Derived.OpenShut
import Derived.ShutString
import Derived.ChangeOld
import Derived.Below
import Derived.SizedLaws
import Derived.ReadAgain
namespace Go.Proofs.Ythbdmfhobienaaa.seqsDiffers
open Go.ChangeShapes Go.WideShapes Go.ChangeAt Go.RowKit Go.Proofs.YthbdmfhobienaaaW.PrintWords Go.Proofs.YthbdmfhobienaaaW.PrintOpen Go.Proofs.Ythbdmfhobienaaa.PSeqsDiffers
open Go.ChangeMaps (open_string shut_string)
set_option linter.unusedVariables false
theorem own : ownKnob Try.prog.godebug = none := by kernel_rfl
theorem laidOut : laidOutB Try.prog = true := by kernel_rfl
set_option maxRecDepth 100000 in
set_option maxHeartbeats 4000000 in
theorem lifted (P : evermorelaw_SeqsDiffers.PureH) (os : Os) (started : os.Started) (H : Type) (enc : TypeId × Value → H) :
    ReturnsInHanded {} Try.checked os 9 .any (Rows.seqsDiffersSpec.pre6 enc Try.prog Try.f9 Rows.seqsDiffersRow.domain false) (Rows.seqsDiffersSpec.post enc Try.prog Try.f9 false true false false) := by
  refine returnsInHanded_of_change_sized (C := Try.checked) own started (by kernel_rfl) Try.func9
    (ChangeSpec.witness6 (enc := enc) (C := Try.checked) false ⟨#[], #[.agg #[.int .i64 0, .slice none 0 0, .slice none 0 0], .agg #[.int .i64 0, .slice none 0 0, .slice none 0 0], .int .i64 0], []⟩ 8 (by kernel_rfl) (by kernel_rfl) (by kernel_rfl) (by kernel_rfl)) ?_
  intro W base args ds gs before hval0 hW hcnd hsz0 _
  have hsz : (DataW.weightsEach Try.prog (Try.f9.params.toList ++ Rows.seqsDiffersSpec.plain.varTypes Try.prog) (ds ++ gs)).all (· ≤ reachBytes) = true := hsz0
  have hval : ∀ (j : Nat) t v, Try.f9.params[j]? = some t → args[j]? = some v → Value.okWide Try.prog W .any base t v := hval0
  have hW' := hW
  obtain ⟨p, q, hA0, hV, rfl, hfz, hnd⟩ := hW
  have hA : DataW.TrodAll enc Try.prog W 0 (fun _ => true) true Try.f9.params.toList args.toList ds p := hA0
  rw [Try.params9] at hA hval hsz
  obtain ⟨v0, vs0, d0, ds0, p0, q0, hargs, rfl, rfl, h0, r0⟩ := trodAll_cons hA
  obtain ⟨v1, vs1, d1, ds1, p1, q1, rfl, rfl, rfl, h1, r1⟩ := trodAll_cons r0
  obtain ⟨v2, vs2, d2, ds2, p2, q2, rfl, rfl, rfl, h2, r2⟩ := trodAll_cons r1
  obtain ⟨rfl, rfl, rfl⟩ := trodAll_nil r2
  obtain rfl : args = #[v0, v1, v2] := by cases args; simp_all
  obtain ⟨rfl, rfl⟩ := trodVars_none hV
  have k0 := h0
  have lt0 : ∀ x ∈ p0, x.block < W.heap.size := by obtain ⟨m, hm⟩ := k0; exact DataW.trod_lt m _ _ _ hm
  obtain ⟨⟨a0_0, l0_1, l0_2⟩, hk0, ok0⟩ := opened (P := Try.prog) (W := W) (t := 47) (op_struct Try.underlying47 (by kernel_rfl) (opf_cons rfl (by kernel_rfl) (op_int (k := .i64) Try.underlying3) (opf_cons rfl (by kernel_rfl) (op_slice (e := 26) Try.underlying45 (by kernel_rfl) 24 (by kernel_rfl) (op_slice (e := 3) Try.underlying26 (by kernel_rfl) 8 (by kernel_rfl) (op_int (k := .i64) Try.underlying3))) (opf_last rfl (by kernel_rfl) (op_slice (e := 3) Try.underlying26 (by kernel_rfl) 8 (by kernel_rfl) (op_int (k := .i64) Try.underlying3))))) (fun y => y) (fun y => y) (fun _ => rfl)) h0 hsz 0 rfl rfl
  obtain ⟨cs0, rfl, _⟩ := okWide_struct Try.underlying47 (hval 0 47 v0 rfl rfl)
  obtain ⟨cl0, hcl0⟩ : ∃ cl, cl = (Value.agg cs0).cells.toList := ⟨_, rfl⟩
  rw [← hcl0] at hk0
  obtain ⟨_, _, rfl, rfl, ⟨_, _, rfl, ⟨A0_1, c0_1, rfl, hc0_1, hr0_1⟩, ⟨A0_2, c0_2, rfl, hc0_2, hr0_2⟩⟩⟩ := hk0
  obtain rfl : cs0 = #[.int .i64 a0_0, .slice A0_1 l0_1.length c0_1, .slice A0_2 l0_2.length c0_2] := Array.toList_inj.1 (by simpa [Value.cells] using hcl0.symm)
  have k1 := h1
  have lt1 : ∀ x ∈ p1, x.block < W.heap.size := by obtain ⟨m, hm⟩ := k1; exact DataW.trod_lt m _ _ _ hm
  obtain ⟨⟨a1_0, l1_1, l1_2⟩, hk1, ok1⟩ := opened (P := Try.prog) (W := W) (t := 47) (op_struct Try.underlying47 (by kernel_rfl) (opf_cons rfl (by kernel_rfl) (op_int (k := .i64) Try.underlying3) (opf_cons rfl (by kernel_rfl) (op_slice (e := 26) Try.underlying45 (by kernel_rfl) 24 (by kernel_rfl) (op_slice (e := 3) Try.underlying26 (by kernel_rfl) 8 (by kernel_rfl) (op_int (k := .i64) Try.underlying3))) (opf_last rfl (by kernel_rfl) (op_slice (e := 3) Try.underlying26 (by kernel_rfl) 8 (by kernel_rfl) (op_int (k := .i64) Try.underlying3))))) (fun y => y) (fun y => y) (fun _ => rfl)) h1 hsz 1 rfl rfl
  obtain ⟨cs1, rfl, _⟩ := okWide_struct Try.underlying47 (hval 1 47 v1 rfl rfl)
  obtain ⟨cl1, hcl1⟩ : ∃ cl, cl = (Value.agg cs1).cells.toList := ⟨_, rfl⟩
  rw [← hcl1] at hk1
  obtain ⟨_, _, rfl, rfl, ⟨_, _, rfl, ⟨A1_1, c1_1, rfl, hc1_1, hr1_1⟩, ⟨A1_2, c1_2, rfl, hc1_2, hr1_2⟩⟩⟩ := hk1
  obtain rfl : cs1 = #[.int .i64 a1_0, .slice A1_1 l1_1.length c1_1, .slice A1_2 l1_2.length c1_2] := Array.toList_inj.1 (by simpa [Value.cells] using hcl1.symm)
  have k2 := h2
  have lt2 : ∀ x ∈ p2, x.block < W.heap.size := by obtain ⟨m, hm⟩ := k2; exact DataW.trod_lt m _ _ _ hm
  obtain ⟨a2, hk2, ok2⟩ := opened (P := Try.prog) (W := W) (t := 3) (op_int (k := .i64) Try.underlying3) h2 hsz 2 rfl rfl
  obtain ⟨z2, rfl, _, _, _⟩ := open_int Try.underlying3 (hval 2 3 v2 rfl rfl) h2
  obtain rfl : a2 = z2 := by have hk := hk2; change [Value.int .i64 z2] = [Value.int .i64 a2] at hk; simpa using hk.symm
  clear hA0 hval0 hsz0 hsz
  obtain ⟨k, hP⟩ := P a0_0 l0_1 l0_2 a1_0 l1_1 l1_2 a2 ok0 ok1 ok2
  refine (evermorelaw_SeqsDiffers.calls k a0_0 A0_1 c0_1 l0_1 A0_2 c0_2 l0_2 a1_0 A1_1 c1_1 l1_1 A1_2 c1_2 l1_2 a2 true W hr0_1 hc0_1 hr0_2 hc0_2 hr1_1 hc1_1 hr1_2 hc1_2 hP).mono ?_
  intro e W' hpost
  obtain ⟨rfl, bel⟩ := hpost
  exact ⟨_, rfl, _, _, _, [], _, [], hW', trodAll_mk1 (shut_bool Try.underlying4 _), (trodAll_cons_mk (Below.trod laidOut (by kernel_rfl) (of_decide_eq_true (by kernel_rfl)) k0 bel lt0) (trodAll_cons_mk (Below.trod laidOut (by kernel_rfl) (of_decide_eq_true (by kernel_rfl)) k1 bel lt1) (trodAll_cons_mk (Below.trod laidOut (by kernel_rfl) (of_decide_eq_true (by kernel_rfl)) k2 bel lt2) trodAll_mk0))), rfl, bel.frame _, fun h => by cases h⟩
theorem over (P : evermorelaw_SeqsDiffers.PureH) : Rows.seqsDiffersRow.holds Try.pinned (OpenSpec.ofChange Rows.seqsDiffersSpec) :=
  OpenClaim.holds_of_wide 9 Try.f9 rfl rfl rfl rfl rfl rfl rfl ⟨rfl, rfl, rfl, rfl, rfl⟩ rfl rfl rfl rfl rfl (by kernel_rfl) Try.func9 (by kernel_rfl)
    (of_decide_eq_true (by kernel_rfl)) (by unfold Func.isWrapper; first | (rw [if_pos (by decide +kernel)]; kernel_rfl) | (rw [if_neg (by decide +kernel)]; exact ⟨rfl, rfl⟩))
    (fun os started H enc _ => lifted P os started H enc)
theorem proved (P : evermorelaw_SeqsDiffers.PureH) : Rows.SeqsDiffersSaid := over P
end Go.Proofs.Ythbdmfhobienaaa.seqsDiffers
