-- Printed over the kit's print by a program of this session (wip/hprint.py), with contracts of its own hand.
import Derived.Test.YtklkcdphcmimoaaRows
import Derived.Test.YtklkcdphcmimoaaWOpen
import Derived.Test.YtklkcdphcmimoaaQCoverFires
import Derived.WalkKit
import Derived.ProofKit
import Derived.OpenShut
import Derived.ShutString
import Derived.ChangeOld
import Derived.Below
import Derived.SizedLaws
import Derived.ReadAgain
namespace Go.Proofs.Ytklkcdphcmimoaa.coverFires
open Go.ChangeShapes Go.WideShapes Go.ChangeAt Go.RowKit Go.Proofs.YtklkcdphcmimoaaW.PrintWords Go.Proofs.YtklkcdphcmimoaaW.PrintOpen Go.Proofs.Ytklkcdphcmimoaa.PCoverFires
open Go.ChangeMaps (open_string shut_string)
set_option linter.unusedVariables false
theorem own : ownKnob Try.prog.godebug = none := by kernel_rfl
theorem laidOut : laidOutB Try.prog = true := by kernel_rfl
set_option maxRecDepth 100000 in
set_option maxHeartbeats 4000000 in
theorem lifted (P : evermorelaw_CoverFires.PureH) (os : Os) (started : os.Started) (H : Type) (enc : TypeId × Value → H) :
    ReturnsInHanded {} Try.checked os 7 .any (Rows.coverFiresSpec.pre6 enc Try.prog Try.f7 Rows.coverFiresRow.domain false) (Rows.coverFiresSpec.post enc Try.prog Try.f7 false true false false) := by
  refine returnsInHanded_of_change_sized (C := Try.checked) own started (by kernel_rfl) Try.func7
    (ChangeSpec.witness6 (enc := enc) (C := Try.checked) false ⟨#[], #[.agg #[.int .i64 0, .slice none 0 0, .slice none 0 0], .slice none 0 0, .int .i64 0], []⟩ 8 (by kernel_rfl) (by kernel_rfl) (by kernel_rfl) (by kernel_rfl)) ?_
  intro W base args ds gs before hval0 hW hcnd hsz0 _
  have hsz : (DataW.weightsEach Try.prog (Try.f7.params.toList ++ Rows.coverFiresSpec.plain.varTypes Try.prog) (ds ++ gs)).all (· ≤ reachBytes) = true := hsz0
  have hval : ∀ (j : Nat) t v, Try.f7.params[j]? = some t → args[j]? = some v → Value.okWide Try.prog W .any base t v := hval0
  have hW' := hW
  obtain ⟨p, q, hA0, hV, rfl, hfz, hnd⟩ := hW
  have hA : DataW.TrodAll enc Try.prog W 0 (fun _ => true) true Try.f7.params.toList args.toList ds p := hA0
  rw [Try.params7] at hA hval hsz
  obtain ⟨v0, vs0, d0, ds0, p0, q0, hargs, rfl, rfl, h0, r0⟩ := trodAll_cons hA
  obtain ⟨v1, vs1, d1, ds1, p1, q1, rfl, rfl, rfl, h1, r1⟩ := trodAll_cons r0
  obtain ⟨v2, vs2, d2, ds2, p2, q2, rfl, rfl, rfl, h2, r2⟩ := trodAll_cons r1
  obtain ⟨rfl, rfl, rfl⟩ := trodAll_nil r2
  obtain rfl : args = #[v0, v1, v2] := by cases args; simp_all
  obtain ⟨rfl, rfl⟩ := trodVars_none hV
  have k0 := h0
  have lt0 : ∀ x ∈ p0, x.block < W.heap.size := by obtain ⟨m, hm⟩ := k0; exact DataW.trod_lt m _ _ _ hm
  obtain ⟨⟨a0_0, l0_1, l0_2⟩, hk0, ok0⟩ := opened (P := Try.prog) (W := W) (t := 62) (op_struct Try.underlying62 (by kernel_rfl) (opf_cons rfl (by kernel_rfl) (op_int (k := .i64) Try.underlying3) (opf_cons rfl (by kernel_rfl) (op_slice (e := 32) Try.underlying31 (by kernel_rfl) 24 (by kernel_rfl) (op_slice (e := 3) Try.underlying32 (by kernel_rfl) 8 (by kernel_rfl) (op_int (k := .i64) Try.underlying3))) (opf_last rfl (by kernel_rfl) (op_slice (e := 32) Try.underlying31 (by kernel_rfl) 24 (by kernel_rfl) (op_slice (e := 3) Try.underlying32 (by kernel_rfl) 8 (by kernel_rfl) (op_int (k := .i64) Try.underlying3)))))) (fun y => y) (fun y => y) (fun _ => rfl)) h0 hsz 0 rfl rfl
  obtain ⟨cs0, rfl, _⟩ := okWide_struct Try.underlying62 (hval 0 62 v0 rfl rfl)
  obtain ⟨cl0, hcl0⟩ : ∃ cl, cl = (Value.agg cs0).cells.toList := ⟨_, rfl⟩
  rw [← hcl0] at hk0
  obtain ⟨_, _, rfl, rfl, ⟨_, _, rfl, ⟨A0_1, c0_1, rfl, hc0_1, hr0_1⟩, ⟨A0_2, c0_2, rfl, hc0_2, hr0_2⟩⟩⟩ := hk0
  obtain rfl : cs0 = #[.int .i64 a0_0, .slice A0_1 l0_1.length c0_1, .slice A0_2 l0_2.length c0_2] := Array.toList_inj.1 (by simpa [Value.cells] using hcl0.symm)
  have k1 := h1
  have lt1 : ∀ x ∈ p1, x.block < W.heap.size := by obtain ⟨m, hm⟩ := k1; exact DataW.trod_lt m _ _ _ hm
  obtain ⟨l1, hk1, ok1⟩ := opened (P := Try.prog) (W := W) (t := 32) (op_slice (e := 3) Try.underlying32 (by kernel_rfl) 8 (by kernel_rfl) (op_int (k := .i64) Try.underlying3)) h1 hsz 1 rfl rfl
  obtain ⟨b1, n1, c1', rfl⟩ := okWide_slice Try.underlying32 (hval 1 32 v1 rfl rfl)
  obtain ⟨A1, c1, hcl1, hc1, hr1⟩ := hk1
  obtain ⟨rfl, rfl, rfl⟩ : A1 = b1 ∧ l1.length = n1 ∧ c1 = c1' := by have hq : b1 = A1 ∧ n1 = l1.length ∧ c1' = c1 := (by simpa [Value.cells] using hcl1); exact ⟨hq.1.symm, hq.2.1.symm, hq.2.2.symm⟩
  have k2 := h2
  have lt2 : ∀ x ∈ p2, x.block < W.heap.size := by obtain ⟨m, hm⟩ := k2; exact DataW.trod_lt m _ _ _ hm
  obtain ⟨a2, hk2, ok2⟩ := opened (P := Try.prog) (W := W) (t := 3) (op_int (k := .i64) Try.underlying3) h2 hsz 2 rfl rfl
  obtain ⟨z2, rfl, _, _, _⟩ := open_int Try.underlying3 (hval 2 3 v2 rfl rfl) h2
  obtain rfl : a2 = z2 := by have hk := hk2; change [Value.int .i64 z2] = [Value.int .i64 a2] at hk; simpa using hk.symm
  clear hA0 hval0 hsz0 hsz
  obtain ⟨k, hP⟩ := P a0_0 l0_1 l0_2 l1 a2 ok0 ok1 ok2
  refine (evermorelaw_CoverFires.calls k a0_0 A0_1 c0_1 l0_1 A0_2 c0_2 l0_2 (fun k_ => k_ < W.heap.size) A1 c1 l1 a2 true W hr0_1 hc0_1 hr0_2 hc0_2 (Kd.V_mk hc1 (Kd.C_F (Kd.heap_int .i64) hr1)) hP).mono ?_
  intro e W' hpost
  obtain ⟨rfl, bel⟩ := hpost
  exact ⟨_, rfl, _, _, _, [], _, [], hW', trodAll_mk1 (shut_bool Try.underlying4 _), (trodAll_cons_mk (Below.trod laidOut (by kernel_rfl) (of_decide_eq_true (by kernel_rfl)) k0 bel lt0) (trodAll_cons_mk (Below.trod laidOut (by kernel_rfl) (of_decide_eq_true (by kernel_rfl)) k1 bel lt1) (trodAll_cons_mk (Below.trod laidOut (by kernel_rfl) (of_decide_eq_true (by kernel_rfl)) k2 bel lt2) trodAll_mk0))), rfl, bel.frame _, fun h => by cases h⟩
theorem over (P : evermorelaw_CoverFires.PureH) : Rows.coverFiresRow.holds Try.pinned (OpenSpec.ofChange Rows.coverFiresSpec) :=
  OpenClaim.holds_of_wide 7 Try.f7 rfl rfl rfl rfl rfl rfl rfl ⟨rfl, rfl, rfl, rfl, rfl⟩ rfl rfl rfl rfl rfl (by kernel_rfl) Try.func7 (by kernel_rfl)
    (of_decide_eq_true (by kernel_rfl)) (by unfold Func.isWrapper; first | (rw [if_pos (by decide +kernel)]; kernel_rfl) | (rw [if_neg (by decide +kernel)]; exact ⟨rfl, rfl⟩))
    (fun os started H enc _ => lifted P os started H enc)
theorem proved (P : evermorelaw_CoverFires.PureH) : Rows.CoverFiresSaid := over P
end Go.Proofs.Ytklkcdphcmimoaa.coverFires
