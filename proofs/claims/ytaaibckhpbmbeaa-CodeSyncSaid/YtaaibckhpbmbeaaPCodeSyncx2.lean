-- Printed over the kit's print by a program of this session (wip/hprint.py), with contracts of its own hand.
import Derived.Test.YtaaibckhpbmbeaaVCodeSyncMap
import Derived.Test.YtaaibckhpbmbeaaPCodeSyncx0
import Derived.Test.YtaaibckhpbmbeaaPCodeSyncx1
namespace Go.Proofs.Ytaaibckhpbmbeaa.PCodeSync
open Go.RowKit Go.Proofs.YtaaibckhpbmbeaaW.PrintWords Go.Proofs.YtaaibckhpbmbeaaW.PrintLast Go.Proofs.YtaaibckhpbmbeaaW.PrintMore Go.Proofs.YtaaibckhpbmbeaaW.PrintMap
attribute [local go_sem] max2_int min2_int max_two min_two max_three min_three max_four min_four   -- for this text's walks alone
set_option linter.unusedVariables false
set_option linter.unusedSimpArgs false

/-! ### code_Sync: function 15 -/
mutual
def code_Sync.l0 : Nat → List (S105) → Int → Int → List (List Int) → List Int → List (Int × Int) → Option (List Int × Bool × Int)
 | 0, _, _, _, _, _, _ => none
 | k + 1, x7, x102000, x102001, x102002, x102003, x104000 => if (x7.length : Int) > 0 then (if 0 < (x7.length : Int) then (if (Go.bits .and .i64 ((rd_T105 x7 0).f0) (wrap64 (((rd_T105 x7 0).f0) - 1))) = 0 then (some ((rd_T105 x7 0).f1, true, 0)) else (code_Sync.l1 k x7 x102000 0 x102000 x102001 x102002 x102003 x104000 ((rd_T105 x7 0).f0) ((rd_T105 x7 0).f1))) else (none)) else (some (([] : List Int), false, 0))
def code_Sync.l1 : Nat → List (S105) → Int → Int → Int → Int → List (List Int) → List Int → List (Int × Int) → Int → List Int → Option (List Int × Bool × Int)
 | 0, _, _, _, _, _, _, _, _, _, _ => none
 | k + 1, x7, x48, x49, x102000, x102001, x102002, x102003, x104000, x109000, x109001 => if x49 < x48 then (code_Sync.l2 k x7 x49 0 x48 x49 x102002 (x102002.length : Int) 0 x102000 x102001 x102002 x102003 x104000 x109000 x109001) else (if 1 ≤ (x7.length : Int) then (code_Sync.l0 k (x7.drop (1 : Int).toNat) x102000 x102001 x102002 x102003 x104000) else (none))
def code_Sync.l2 : Nat → List (S105) → Int → Int → Int → Int → List (List Int) → Int → Int → Int → Int → List (List Int) → List Int → List (Int × Int) → Int → List Int → Option (List Int × Bool × Int)
 | 0, _, _, _, _, _, _, _, _, _, _, _, _, _, _, _ => none
 | k + 1, x7, x9, x10, x48, x49, x53, x54, x55, x102000, x102001, x102002, x102003, x104000, x109000, x109001 => if x55 < x54 then (if 0 ≤ x55 then (if x55 < (x53.length : Int) then (if (Go.bits .and .i64 (shr .i64 x109000 x55) 1) = 1 then (if 0 ≤ x9 then (if x9 < ((rd_L1 x53 x55).length : Int) then (if 0 ≤ (rd (rd_L1 x53 x55) x9) then (code_Sync.l2 k x7 x9 (Go.bits .or .i64 x10 (shl .i64 1 (rd (rd_L1 x53 x55) x9))) x48 x49 x53 x54 (wrap64 (x55 + 1)) x102000 x102001 x102002 x102003 x104000 x109000 x109001) else (none)) else (none)) else (none)) else (code_Sync.l2 k x7 x9 x10 x48 x49 x53 x54 (wrap64 (x55 + 1)) x102000 x102001 x102002 x102003 x104000 x109000 x109001)) else (none)) else (none)) else (if (mget x104000 x10 0) = 0 then ((slices_Clone_int_int.f x109001).bind fun t115 => (if t115.length < 17592186044416 then (if x7.length < 4398046511104 then (code_Sync.l1 k (x7 ++ [(⟨x10, (t115 ++ [x9])⟩ : S105)]) x48 (wrap64 (x49 + 1)) x102000 x102001 x102002 x102003 (mput x104000 x10 1) x109000 x109001) else (none)) else (none))) else (code_Sync.l1 k x7 x48 (wrap64 (x49 + 1)) x102000 x102001 x102002 x102003 x104000 x109000 x109001))
end
def code_Sync.f (k : Nat) (a0_0 : Int) (a0_1 : Int) (l0_2 : List (List Int)) (l0_3 : List Int) : Option (List Int × Bool × Int) := (det_Check.f a0_0 a0_1 l0_2 l0_3).bind fun t102 => (if t102 = 0 then (if (l0_2.length : Int) > 8 then (some (([] : List Int), false, 1)) else (code_Sync.l0 k (([(⟨wrap64 ((shl .i64 1 (l0_2.length : Int)) - 1), ([] : List Int)⟩ : S105)] : List (S105))) a0_0 a0_1 l0_2 l0_3 ([] : List (Int × Int)))) else (some (([] : List Int), false, t102)))
theorem code_Sync.mono_l : ∀ k, (∀ y0 y1 y2 y3 y4 y5, LeO (code_Sync.l0 k y0 y1 y2 y3 y4 y5) (code_Sync.l0 (k + 1) y0 y1 y2 y3 y4 y5)) ∧ (∀ y0 y1 y2 y3 y4 y5 y6 y7 y8 y9, LeO (code_Sync.l1 k y0 y1 y2 y3 y4 y5 y6 y7 y8 y9) (code_Sync.l1 (k + 1) y0 y1 y2 y3 y4 y5 y6 y7 y8 y9)) ∧ (∀ y0 y1 y2 y3 y4 y5 y6 y7 y8 y9 y10 y11 y12 y13 y14, LeO (code_Sync.l2 k y0 y1 y2 y3 y4 y5 y6 y7 y8 y9 y10 y11 y12 y13 y14) (code_Sync.l2 (k + 1) y0 y1 y2 y3 y4 y5 y6 y7 y8 y9 y10 y11 y12 y13 y14))
 | 0 => ⟨fun _ _ _ _ _ _ r h => by simp [code_Sync.l0] at h, fun _ _ _ _ _ _ _ _ _ _ r h => by simp [code_Sync.l1] at h, fun _ _ _ _ _ _ _ _ _ _ _ _ _ _ _ r h => by simp [code_Sync.l2] at h⟩
 | k + 1 => by
  obtain ⟨ih0, ih1, ih2⟩ := code_Sync.mono_l k
  refine ⟨?_, ?_, ?_⟩
  ·intro y0 y1 y2 y3 y4 y5
   unfold code_Sync.l0
   repeat' first
   | (with_reducible exact ih0 _ _ _ _ _ _)
   | (with_reducible exact ih1 _ _ _ _ _ _ _ _ _ _)
   | (with_reducible exact ih2 _ _ _ _ _ _ _ _ _ _ _ _ _ _ _)
   | (with_reducible exact LeO.refl _)
   | (with_reducible exact LeO.none _)
   | (with_reducible refine LeO.ite ?_ ?_)
   | (with_reducible refine LeO.bind ?_ (fun _ => ?_))
   | exact ih0 _ _ _ _ _ _
   | exact ih1 _ _ _ _ _ _ _ _ _ _
   | exact ih2 _ _ _ _ _ _ _ _ _ _ _ _ _ _ _
   | exact LeO.none _
   | refine LeO.ite ?_ ?_
   | refine LeO.bind ?_ (fun _ => ?_)
  ·intro y0 y1 y2 y3 y4 y5 y6 y7 y8 y9
   unfold code_Sync.l1
   repeat' first
   | (with_reducible exact ih0 _ _ _ _ _ _)
   | (with_reducible exact ih1 _ _ _ _ _ _ _ _ _ _)
   | (with_reducible exact ih2 _ _ _ _ _ _ _ _ _ _ _ _ _ _ _)
   | (with_reducible exact LeO.refl _)
   | (with_reducible exact LeO.none _)
   | (with_reducible refine LeO.ite ?_ ?_)
   | (with_reducible refine LeO.bind ?_ (fun _ => ?_))
   | exact ih0 _ _ _ _ _ _
   | exact ih1 _ _ _ _ _ _ _ _ _ _
   | exact ih2 _ _ _ _ _ _ _ _ _ _ _ _ _ _ _
   | exact LeO.none _
   | refine LeO.ite ?_ ?_
   | refine LeO.bind ?_ (fun _ => ?_)
  ·intro y0 y1 y2 y3 y4 y5 y6 y7 y8 y9 y10 y11 y12 y13 y14
   unfold code_Sync.l2
   repeat' first
   | (with_reducible exact ih0 _ _ _ _ _ _)
   | (with_reducible exact ih1 _ _ _ _ _ _ _ _ _ _)
   | (with_reducible exact ih2 _ _ _ _ _ _ _ _ _ _ _ _ _ _ _)
   | (with_reducible exact LeO.refl _)
   | (with_reducible exact LeO.none _)
   | (with_reducible refine LeO.ite ?_ ?_)
   | (with_reducible refine LeO.bind ?_ (fun _ => ?_))
   | exact ih0 _ _ _ _ _ _
   | exact ih1 _ _ _ _ _ _ _ _ _ _
   | exact ih2 _ _ _ _ _ _ _ _ _ _ _ _ _ _ _
   | exact LeO.none _
   | refine LeO.ite ?_ ?_
   | refine LeO.bind ?_ (fun _ => ?_)
theorem code_Sync.mono : ∀ a0 a1 a2 a3 k, LeO (code_Sync.f k a0 a1 a2 a3) (code_Sync.f (k + 1) a0 a1 a2 a3) := by
 intro a0 a1 a2 a3 k
 obtain ⟨ih0, ih1, ih2⟩ := code_Sync.mono_l k
 unfold code_Sync.f
 repeat' first
   | (with_reducible exact ih0 _ _ _ _ _ _)
   | (with_reducible exact ih1 _ _ _ _ _ _ _ _ _ _)
   | (with_reducible exact ih2 _ _ _ _ _ _ _ _ _ _ _ _ _ _ _)
   | (with_reducible exact LeO.refl _)
   | (with_reducible exact LeO.none _)
   | (with_reducible refine LeO.ite ?_ ?_)
   | (with_reducible refine LeO.bind ?_ (fun _ => ?_))
   | exact ih0 _ _ _ _ _ _
   | exact ih1 _ _ _ _ _ _ _ _ _ _
   | exact ih2 _ _ _ _ _ _ _ _ _ _ _ _ _ _ _
   | exact LeO.none _
   | refine LeO.ite ?_ ?_
   | refine LeO.bind ?_ (fun _ => ?_)
set_option maxHeartbeats 8000000 in
set_option maxRecDepth 100000 in
theorem code_Sync.calls (k : Nat) (a0_0 : Int) (a0_1 : Int) (A0_2 : Option Addr) (c0_2 : Nat) (l0_2 : List (List Int)) (A0_3 : Option Addr) (c0_3 : Nat) (l0_3 : List Int) (r1 : List Int) (r2 : Bool) (r3 : Int) (w : World) (hr0_2 : Kd.C (Kd.slice 3 (Kd.int .i64)) w A0_2 l0_2.length l0_2) (hc0_2 : l0_2.length ≤ c0_2) (hr0_3 : Kd.C (Kd.int .i64) w A0_3 l0_3.length l0_3) (hc0_3 : l0_3.length ≤ c0_3) (h : code_Sync.f k a0_0 a0_1 l0_2 l0_3 = some (r1, r2, r3)) :
  Calls Try.prog 15 #[.agg #[.int .i64 a0_0, .int .i64 a0_1, .slice A0_2 l0_2.length c0_2, .slice A0_3 l0_3.length c0_3]] w fun e w' => ∃ v0_ : Value, e = .returned (.tuple #[v0_, .bool r2, .int .i64 r3]) ∧ Kd.R (Kd.int .i64) 3 w' w.heap.size (fun _ => True) v0_ r1 ∧ Below w.heap.size w w' := by
 have hu25 := Try.underlying25
 have hu105 := Try.underlying105
 have HR0_2 := Aside0.mk hr0_2
 have HC0_2 := Aside0.mk hc0_2
 clear hr0_2 hc0_2
 have HR0_3 := Aside0.mk hr0_3
 have HC0_3 := Aside0.mk hc0_3
 clear hr0_3 hc0_3
 have HB := Aside0.mk (Below.refl w.heap.size w)
 have H : ((det_Check.f a0_0 a0_1 l0_2 l0_3).bind fun t102 => (if t102 = 0 then (if (l0_2.length : Int) > 8 then (some (([] : List Int), false, 1)) else (code_Sync.l0 k (([(⟨wrap64 ((shl .i64 1 (l0_2.length : Int)) - 1), ([] : List Int)⟩ : S105)] : List (S105))) a0_0 a0_1 l0_2 l0_3 ([] : List (Int × Int)))) else (some (([] : List Int), false, t102)))) = some (r1, r2, r3) := h
 clear h
 replace H := Option.bind_eq_some_iff.mp H
 obtain ⟨t102, A20, H⟩ := H
 replace H : (if t102 = 0 then (if (l0_2.length : Int) > 8 then (some (([] : List Int), false, 1)) else (code_Sync.l0 k (([(⟨wrap64 ((shl .i64 1 (l0_2.length : Int)) - 1), ([] : List Int)⟩ : S105)] : List (S105))) a0_0 a0_1 l0_2 l0_3 ([] : List (Int × Int)))) else (some (([] : List Int), false, t102))) = some (r1, r2, r3) := H
 have A2 := Aside0.mk A20
 clear A20
 by_cases c3 : t102 = 0
 ·rw [if_pos c3] at H
  have c3b0 : (t102 == 0) = true := beq_iff_eq.mpr c3
  have c3b1 : (t102 != 0) = false := bne_eq_false_iff_eq.mpr c3
  clear c3
  by_cases c4 : (l0_2.length : Int) > 8
  ·rw [if_pos c4] at H
   have c4b0 : decide (8 < (l0_2.length : Int)) = true := decide_eq_true c4
   have c4b1 : decide (8 < l0_2.length) = true := decide_eq_true (by omega)
   clear c4
   simp only [Option.some.injEq, Prod.mk.injEq] at H
   obtain ⟨rfl, rfl, rfl⟩ := H
   go_enter Try.func15, Try.ntmps15
   go_wp2_with (first | ((with_reducible refine gate_dst (N := 1) rfl ?_); refine box_event ?hg (N := 1) ?hd (cs := #[.int .i64 a0_0, .int .i64 a0_1, .slice A0_2 l0_2.length c0_2, .slice A0_3 l0_3.length c0_3]) (t := 25) ?hr ?_; (case hd => rfl); (case hg => rfl); (case hr => first | (go_simp; done) | (go_simp; rfl)); intro gb101 hg w5 hbox hb; have n0_ := Aside0.mk (below_step (by repeat (first | (with_reducible first | exact HB.out | apply below_alloc | apply pw_below_drewN | apply below_drew1) | exact HB.out)) hb); have n1_ := Aside0.mk (hbox); have n2_ := Aside0.mk ((by rw [hg]; exact (below_size (by repeat (first | (with_reducible first | exact HB.out | apply below_alloc | apply pw_below_drewN | apply below_drew1) | exact HB.out))) : w.heap.size ≤ gb101)); have n3_ := Aside0.mk ((by rw [hg]; exact (below_size (by repeat (first | (with_reducible first | exact HB.out | apply below_alloc | apply pw_below_drewN | apply below_drew1) | exact HB.out))) : w.heap.size ≤ gb101)); clear HB; have HB := n0_; have BK101 := n1_; have GW101 := n2_; have GE101 := n3_; clear n0_ n1_ n2_ n3_; clear hb hbox hg; have hcz6_0 : w5.cell? ⟨gb101, 0, none⟩ = some (.int .i64 a0_0) := (blk_cell BK101.out 0).trans rfl; have hcz6_1 : w5.cell? ⟨gb101, 1, none⟩ = some (.int .i64 a0_1) := (blk_cell BK101.out 1).trans rfl; have hcz6_2 : w5.cell? ⟨gb101, 2, none⟩ = some (.slice A0_2 l0_2.length c0_2) := (blk_cell BK101.out 2).trans rfl; have hcz6_3 : w5.cell? ⟨gb101, 3, none⟩ = some (.slice A0_3 l0_3.length c0_3) := (blk_cell BK101.out 3).trans rfl; have hfz6_0 := blk_frozen BK101.out 0; have hfz6_1 := blk_frozen BK101.out 1; have hfz6_2 := blk_frozen BK101.out 2; have hfz6_3 := blk_frozen BK101.out 3) | ((with_reducible refine gate_callee (f := 67) rfl ?_); refine goesL_ (some 14) rfl rfl Try.func67 (by kernel_rfl) rfl #[.agg #[.int .i64 a0_0, .int .i64 a0_1, .slice A0_2 l0_2.length c0_2, .slice A0_3 l0_3.length c0_3]] rfl (by (try simp only [List.map_toArray, List.map_cons, List.map_nil]); first | done | rfl | (simp only [List.length_drop, List.length_take]; rfl)) ?_; (with_reducible refine (det_Check.calls a0_0 a0_1 _ _ l0_2 _ _ l0_3 t102 _ ?side1 ?side2 ?side3 ?side4 A2.out).mono ?_); (case side1 => repeat (first | exact (Kd.C_below HR0_2.out HB.out) | (with_reducible refine Kd.C_alloc ?_ _) | (with_reducible refine Kd.C_drewN ?_ _) | (with_reducible refine Kd.C_drew ?_))); (case side2 => exact HC0_2.out); (case side3 => repeat (first | exact (Kd.C_below HR0_3.out HB.out) | (with_reducible refine Kd.C_alloc ?_ _) | (with_reducible refine Kd.C_drewN ?_ _) | (with_reducible refine Kd.C_drew ?_))); (case side4 => exact HC0_3.out); rintro e w7 ⟨rfl, hb⟩; refine ⟨_, rfl, ?_⟩; have n0_ := Aside0.mk (blk_below (g := gb101) (o := .cells #[.int .i64 a0_0, .int .i64 a0_1, .slice A0_2 l0_2.length c0_2, .slice A0_3 l0_3.length c0_3] 25 (0, 0)) (by (with_reducible repeat (first | refine blk_drewN ?_ _ | refine blk_drew ?_ | refine blk_alloc ?_ _)); exact BK101.out) hb); have n1_ := Aside0.mk (below_step (by repeat (first | (with_reducible first | exact HB.out | apply below_alloc | apply pw_below_drewN | apply below_drew1 | refine below_set ?_ GE101.out) | exact HB.out)) hb); clear BK101; clear HB; have BK101 := n0_; have HB := n1_; clear n0_ n1_; (try clear hb); (try clear hb2); (try clear hk); (try clear hi); have hcz8_0 : w7.cell? ⟨gb101, 0, none⟩ = some (.int .i64 a0_0) := (blk_cell BK101.out 0).trans rfl; have hcz8_1 : w7.cell? ⟨gb101, 1, none⟩ = some (.int .i64 a0_1) := (blk_cell BK101.out 1).trans rfl; have hcz8_2 : w7.cell? ⟨gb101, 2, none⟩ = some (.slice A0_2 l0_2.length c0_2) := (blk_cell BK101.out 2).trans rfl; have hcz8_3 : w7.cell? ⟨gb101, 3, none⟩ = some (.slice A0_3 l0_3.length c0_3) := (blk_cell BK101.out 3).trans rfl; have hfz8_0 := blk_frozen BK101.out 0; have hfz8_1 := blk_frozen BK101.out 1; have hfz8_2 := blk_frozen BK101.out 2; have hfz8_3 := blk_frozen BK101.out 3))
   go_ret3
   exact ⟨_, by first | rfl | (simp [errW_none, errW_some] <;> rfl) | (simp [*, errW_none, errW_some] <;> rfl), by first | exact Kd.R_nil _ _ _ _ _ | exact Kd.N_nil _ _ _ _ _ | exact Kd.V_nil _ _ _ _ _ | exact Kd.Q_nil _ _ _ _ _ | exact Kd.S_nil _ _ _ _ _, by repeat (first | (with_reducible first | exact HB.out | apply below_alloc | apply pw_below_drewN | apply below_drew1 | refine below_set ?_ GE101.out) | exact HB.out)⟩
  ·rw [if_neg c4] at H
   have c4b0 : decide (8 < (l0_2.length : Int)) = false := decide_eq_false c4
   have c4b1 : decide (8 < l0_2.length) = false := decide_eq_false (by omega)
   clear c4
   obtain ⟨ji9, hji9⟩ : ∃ j_ : Int, (shl .i64 1 (l0_2.length : Int)) = j_ := ⟨_, rfl⟩
   replace H : (code_Sync.l0 k (([(⟨wrap64 ((ji9) - 1), ([] : List Int)⟩ : S105)] : List (S105))) a0_0 a0_1 l0_2 l0_3 ([] : List (Int × Int))) = some (r1, r2, r3) := by first | (rw [hji9] at H; exact H) | (simp only [hji9] at H ⊢; exact H)
   (try rw [hji9] at A2)
   have hji9_ : (IntKind.i64.wrap (1 * 2 ^ min (l0_2.length : Int).toNat 64)) = ji9 := hji9
   have hji9z : (l0_2.length : Int) ≤ 64 → (IntKind.i64.wrap (1 * 2 ^ (l0_2.length : Int).toNat)) = ji9 := shl_small hji9
   have hji9p : (IntKind.i64.wrap (1 * 2 ^ min l0_2.length 64)) = ji9 := hji9_
   have hji9q : (l0_2.length : Int) ≤ 64 → (IntKind.i64.wrap (1 * 2 ^ l0_2.length)) = ji9 := hji9z
   have hji9r : (IntKind.i64.wrap (2 ^ min l0_2.length 64)) = ji9 := by have h_ := hji9p; rw [Int.one_mul] at h_; exact h_
   have hji9s : (l0_2.length : Int) ≤ 64 → (IntKind.i64.wrap (2 ^ l0_2.length)) = ji9 := fun hle_ => by have h_ := hji9q hle_; rw [Int.one_mul] at h_; exact h_
   have hji9u : (IntKind.i64.wrap (2 ^ min (l0_2.length : Int).toNat 64)) = ji9 := by have h_ := hji9_; rw [Int.one_mul] at h_; exact h_
   have hji9v : (l0_2.length : Int) ≤ 64 → (IntKind.i64.wrap (2 ^ (l0_2.length : Int).toNat)) = ji9 := fun hle_ => by have h_ := hji9z hle_; rw [Int.one_mul] at h_; exact h_
   have hji9y : (wrap64 (1 * 2 ^ min (l0_2.length : Int).toNat 64)) = ji9 := (i64_w _).symm.trans hji9_
   have hji9x : (l0_2.length : Int) ≤ 64 → (wrap64 (1 * 2 ^ (l0_2.length : Int).toNat)) = ji9 := fun h_ => (i64_w _).symm.trans (hji9z h_)
   obtain ⟨y104, hy104⟩ : ∃ y_ : List (S105), y_ = (([(⟨wrap64 ((ji9) - 1), ([] : List Int)⟩ : S105)] : List (S105))) := ⟨_, rfl⟩
   replace H : (code_Sync.l0 k y104 a0_0 a0_1 l0_2 l0_3 ([] : List (Int × Int))) = some (r1, r2, r3) := by first | (rw [hy104]; with_reducible exact H) | (have H2_ := (Option.bind_some _ _).symm.trans H; rw [hy104]; with_reducible exact H2_) | (have H2_ := (Option.bind_some _ _).symm.trans H; with_reducible exact H2_) | with_reducible exact H | (rw [hy104]; exact H) | exact H
   have Ny104 := Aside0.mk hy104
   clear hy104
   have H' := Aside0.mk H
   clear H
   go_enter Try.func15, Try.ntmps15
   go_wp2_with (first | ((with_reducible refine gate_dst (N := 1) rfl ?_); refine box_event ?hg (N := 1) ?hd (cs := #[.int .i64 a0_0, .int .i64 a0_1, .slice A0_2 l0_2.length c0_2, .slice A0_3 l0_3.length c0_3]) (t := 25) ?hr ?_; (case hd => rfl); (case hg => rfl); (case hr => first | (go_simp; done) | (go_simp; rfl)); intro gb101 hg w10 hbox hb; have n0_ := Aside0.mk (below_step (by repeat (first | (with_reducible first | exact HB.out | apply below_alloc | apply pw_below_drewN | apply below_drew1) | exact HB.out)) hb); have n1_ := Aside0.mk (hbox); have n2_ := Aside0.mk ((by rw [hg]; exact (below_size (by repeat (first | (with_reducible first | exact HB.out | apply below_alloc | apply pw_below_drewN | apply below_drew1) | exact HB.out))) : w.heap.size ≤ gb101)); have n3_ := Aside0.mk ((by rw [hg]; exact (below_size (by repeat (first | (with_reducible first | exact HB.out | apply below_alloc | apply pw_below_drewN | apply below_drew1) | exact HB.out))) : w.heap.size ≤ gb101)); clear HB; have HB := n0_; have BK101 := n1_; have GW101 := n2_; have GE101 := n3_; clear n0_ n1_ n2_ n3_; clear hb hbox hg; have hcz11_0 : w10.cell? ⟨gb101, 0, none⟩ = some (.int .i64 a0_0) := (blk_cell BK101.out 0).trans rfl; have hcz11_1 : w10.cell? ⟨gb101, 1, none⟩ = some (.int .i64 a0_1) := (blk_cell BK101.out 1).trans rfl; have hcz11_2 : w10.cell? ⟨gb101, 2, none⟩ = some (.slice A0_2 l0_2.length c0_2) := (blk_cell BK101.out 2).trans rfl; have hcz11_3 : w10.cell? ⟨gb101, 3, none⟩ = some (.slice A0_3 l0_3.length c0_3) := (blk_cell BK101.out 3).trans rfl; have hfz11_0 := blk_frozen BK101.out 0; have hfz11_1 := blk_frozen BK101.out 1; have hfz11_2 := blk_frozen BK101.out 2; have hfz11_3 := blk_frozen BK101.out 3) | ((with_reducible refine gate_callee (f := 67) rfl ?_); refine goesL_ (some 14) rfl rfl Try.func67 (by kernel_rfl) rfl #[.agg #[.int .i64 a0_0, .int .i64 a0_1, .slice A0_2 l0_2.length c0_2, .slice A0_3 l0_3.length c0_3]] rfl (by (try simp only [List.map_toArray, List.map_cons, List.map_nil]); first | done | rfl | (simp only [List.length_drop, List.length_take]; rfl)) ?_; (with_reducible refine (det_Check.calls a0_0 a0_1 _ _ l0_2 _ _ l0_3 t102 _ ?side1 ?side2 ?side3 ?side4 A2.out).mono ?_); (case side1 => repeat (first | exact (Kd.C_below HR0_2.out HB.out) | (with_reducible refine Kd.C_alloc ?_ _) | (with_reducible refine Kd.C_drewN ?_ _) | (with_reducible refine Kd.C_drew ?_))); (case side2 => exact HC0_2.out); (case side3 => repeat (first | exact (Kd.C_below HR0_3.out HB.out) | (with_reducible refine Kd.C_alloc ?_ _) | (with_reducible refine Kd.C_drewN ?_ _) | (with_reducible refine Kd.C_drew ?_))); (case side4 => exact HC0_3.out); rintro e w12 ⟨rfl, hb⟩; refine ⟨_, rfl, ?_⟩; have n0_ := Aside0.mk (blk_below (g := gb101) (o := .cells #[.int .i64 a0_0, .int .i64 a0_1, .slice A0_2 l0_2.length c0_2, .slice A0_3 l0_3.length c0_3] 25 (0, 0)) (by (with_reducible repeat (first | refine blk_drewN ?_ _ | refine blk_drew ?_ | refine blk_alloc ?_ _)); exact BK101.out) hb); have n1_ := Aside0.mk (below_step (by repeat (first | (with_reducible first | exact HB.out | apply below_alloc | apply pw_below_drewN | apply below_drew1 | refine below_set ?_ GE101.out) | exact HB.out)) hb); clear BK101; clear HB; have BK101 := n0_; have HB := n1_; clear n0_ n1_; (try clear hb); (try clear hb2); (try clear hk); (try clear hi); have hcz13_0 : w12.cell? ⟨gb101, 0, none⟩ = some (.int .i64 a0_0) := (blk_cell BK101.out 0).trans rfl; have hcz13_1 : w12.cell? ⟨gb101, 1, none⟩ = some (.int .i64 a0_1) := (blk_cell BK101.out 1).trans rfl; have hcz13_2 : w12.cell? ⟨gb101, 2, none⟩ = some (.slice A0_2 l0_2.length c0_2) := (blk_cell BK101.out 2).trans rfl; have hcz13_3 : w12.cell? ⟨gb101, 3, none⟩ = some (.slice A0_3 l0_3.length c0_3) := (blk_cell BK101.out 3).trans rfl; have hfz13_0 := blk_frozen BK101.out 0; have hfz13_1 := blk_frozen BK101.out 1; have hfz13_2 := blk_frozen BK101.out 2; have hfz13_3 := blk_frozen BK101.out 3) | ((with_reducible refine gate_dst (N := 22) rfl ?_); refine mmade_event (t := 103) (Value.int .i64) (Value.int .i64) ?hg (N := 22) ?hd ?ho ?_; (case hd => rfl); (case hg => rfl); (case ho => rfl); intro gb103 hg w14 hbox hb; have n0_ := Aside0.mk (blk_below (g := gb101) (o := .cells #[.int .i64 a0_0, .int .i64 a0_1, .slice A0_2 l0_2.length c0_2, .slice A0_3 l0_3.length c0_3] 25 (0, 0)) (by (with_reducible repeat (first | refine blk_drewN ?_ _ | refine blk_drew ?_ | refine blk_alloc ?_ _)); exact BK101.out) hb); have n1_ := Aside0.mk (below_step (by repeat (first | (with_reducible first | exact HB.out | apply below_alloc | apply pw_below_drewN | apply below_drew1 | refine below_set ?_ GE101.out) | exact HB.out)) hb); have n2_ := Aside0.mk (hbox); have n3_ := Aside0.mk ((by rw [hg]; exact (below_size (by repeat (first | (with_reducible first | exact HB.out | apply below_alloc | apply pw_below_drewN | apply below_drew1 | refine below_set ?_ GE101.out) | exact HB.out))) : w.heap.size ≤ gb103)); have n4_ := Aside0.mk ((by rw [hg]; exact (below_size (by repeat (first | (with_reducible first | exact HB.out | apply below_alloc | apply pw_below_drewN | apply below_drew1 | refine below_set ?_ GE101.out) | exact HB.out))) : w.heap.size ≤ gb103)); have n5_ := Aside0.mk ((by rw [hg]; exact Nat.ne_of_lt (blk_lt (g := gb101) (o := .cells #[.int .i64 a0_0, .int .i64 a0_1, .slice A0_2 l0_2.length c0_2, .slice A0_3 l0_3.length c0_3] 25 (0, 0)) (by (with_reducible repeat (first | refine blk_drewN ?_ _ | refine blk_drew ?_ | refine blk_alloc ?_ _)); exact BK101.out)) : gb101 ≠ gb103)); have n6_ := Aside0.mk ((by rw [hg]; exact Nat.ne_of_gt (blk_lt (g := gb101) (o := .cells #[.int .i64 a0_0, .int .i64 a0_1, .slice A0_2 l0_2.length c0_2, .slice A0_3 l0_3.length c0_3] 25 (0, 0)) (by (with_reducible repeat (first | refine blk_drewN ?_ _ | refine blk_drew ?_ | refine blk_alloc ?_ _)); exact BK101.out)) : gb103 ≠ gb101)); clear BK101; clear HB; have BK101 := n0_; have HB := n1_; have MK103 := n2_; have GW103 := n3_; have GE103 := n4_; have NB101_103 := n5_; have NB103_101 := n6_; clear n0_ n1_ n2_ n3_ n4_ n5_ n6_; clear hb hbox hg; have hnb15 := NB101_103.out; have hnc15 := NB103_101.out; have hcz16_0 : w14.cell? ⟨gb101, 0, none⟩ = some (.int .i64 a0_0) := (blk_cell BK101.out 0).trans rfl; have hcz16_1 : w14.cell? ⟨gb101, 1, none⟩ = some (.int .i64 a0_1) := (blk_cell BK101.out 1).trans rfl; have hcz16_2 : w14.cell? ⟨gb101, 2, none⟩ = some (.slice A0_2 l0_2.length c0_2) := (blk_cell BK101.out 2).trans rfl; have hcz16_3 : w14.cell? ⟨gb101, 3, none⟩ = some (.slice A0_3 l0_3.length c0_3) := (blk_cell BK101.out 3).trans rfl; have hfz16_0 := blk_frozen BK101.out 0; have hfz16_1 := blk_frozen BK101.out 1; have hfz16_2 := blk_frozen BK101.out 2; have hfz16_3 := blk_frozen BK101.out 3) | ((with_reducible refine gate_dst (N := 29) rfl ?_); refine Kd.S_lit k105 _ 105 ?hg (N := 29) ?hd (xs := ([(⟨wrap64 ((ji9) - 1), ([] : List Int)⟩ : S105)] : List (S105))) (inner := [.int .i64 (wrap64 ((ji9) - 1)), .slice none 0 0]) (ok := fun _ => True) (okp := fun _ => True) ?hr ?hp (fun _ hk => hk) trivial (Below.refl _ _) (Nat.le_refl _) (by simp) ?_; (case hd => rfl); (case hg => rfl); (case hr => first | (go_simp; done) | (go_simp; rfl)); (case hp => exact (Reps.c2 (show Kd.M k105 _ _ _ (⟨wrap64 ((ji9) - 1), ([] : List Int)⟩ : S105) [.int .i64 (wrap64 ((ji9) - 1)), .slice none 0 0] from (k105_mkM _ _ _ (⟨wrap64 ((ji9) - 1), ([] : List Int)⟩ : S105) (Kd.R_nil _ _ _ _ _))) (Reps.none _ _))); intro v105 w17 ho18 hb hg_ hnew_; clear hg_ hnew_; (first | rw [← Ny104.out] at ho18 | (simp only [Int.reduceToNat] at ho18; rw [← Ny104.out] at ho18)); have n0_ := Aside0.mk (Kd.S_lower ho18 (below_size (by repeat (first | (with_reducible first | exact HB.out | apply below_alloc | apply pw_below_drewN | apply below_drew1 | refine below_set ?_ GE101.out | refine below_set ?_ GE103.out) | exact HB.out)))); have n1_ := Aside0.mk (blk_below (g := gb101) (o := .cells #[.int .i64 a0_0, .int .i64 a0_1, .slice A0_2 l0_2.length c0_2, .slice A0_3 l0_3.length c0_3] 25 (0, 0)) (by (with_reducible repeat (first | refine blk_drewN ?_ _ | refine blk_drew ?_ | refine blk_alloc ?_ _)); exact BK101.out) hb); have n2_ := Aside0.mk (blk_below (g := gb103) (o := mObj (Value.int .i64) (Value.int .i64) ([] : List (Int × Int))) (by (with_reducible repeat (first | refine blk_drewN ?_ _ | refine blk_drew ?_ | refine blk_alloc ?_ _)); exact MK103.out) hb); have n3_ := Aside0.mk (below_step (by repeat (first | (with_reducible first | exact HB.out | apply below_alloc | apply pw_below_drewN | apply below_drew1 | refine below_set ?_ GE101.out | refine below_set ?_ GE103.out) | exact HB.out)) hb); clear BK101; clear MK103; clear HB; have HO106 := n0_; have BK101 := n1_; have MK103 := n2_; have HB := n3_; clear n0_ n1_ n2_ n3_; clear hb ho18))
   go_loopg [7] k (fun kq v7 w' => ∃ (x7_1 : List (S105)) (x104000_1 : List (Int × Int)), Aside0 (code_Sync.l0 kq x7_1 a0_0 a0_1 l0_2 l0_3 x104000_1 = some (r1, r2, r3)) ∧ Aside0 (kq ≤ k) ∧ Aside0 (Kd.Q k105 105 w' w.heap.size (fun _ => True) v7 x7_1) ∧ Aside0 (w'.heap[gb101]? = some (.cells #[.int .i64 a0_0, .int .i64 a0_1, (.slice A0_2 l0_2.length c0_2), (.slice A0_3 l0_3.length c0_3)] 25 (0, 0))) ∧ Aside0 (w'.heap[gb103]? = some (mObj (Value.int .i64) (Value.int .i64) x104000_1)) ∧ Aside0 (Below w.heap.size w w'))
   case atStart => exact ⟨(y104), (([] : List (Int × Int))), H', ⟨Nat.le_refl _⟩, ⟨Kd.Q_of_R ((Kd.S_R (by (with_reducible repeat (first | apply Kd.S_alloc | apply Kd.S_drewN | apply Kd.S_drew)); exact HO106.out)))⟩, ⟨by (with_reducible repeat (first | refine blk_drewN ?_ _ | refine blk_drew ?_ | refine blk_alloc ?_ _)); exact BK101.out⟩, ⟨by (with_reducible repeat (first | refine blk_drewN ?_ _ | refine blk_drew ?_ | refine blk_alloc ?_ _)); exact MK103.out⟩, ⟨by repeat (first | (with_reducible first | exact HB.out | apply below_alloc | apply pw_below_drewN | apply below_drew1 | refine below_set ?_ GE101.out | refine below_set ?_ GE103.out) | exact HB.out)⟩⟩
   case round =>
    clear H'
    try clear c1
    try clear c2
    try clear p2
    try clear c3
    try clear c3b0
    try clear c3b1
    try clear c4
    try clear c4b0
    try clear c4b1
    try clear c6
    try clear p6
    try clear c15
    try clear hcz11_0
    try clear hcz11_1
    try clear hcz11_2
    try clear hcz11_3
    try clear hcz13_0
    try clear hcz13_1
    try clear hcz13_2
    try clear hcz13_3
    try clear hcz16_0
    try clear hcz16_1
    try clear hcz16_2
    try clear hcz16_3
    try clear hcz6_0
    try clear hcz6_1
    try clear hcz6_2
    try clear hcz6_3
    try clear hcz8_0
    try clear hcz8_1
    try clear hcz8_2
    try clear hcz8_3
    try clear hfz11_0
    try clear hfz11_1
    try clear hfz11_2
    try clear hfz11_3
    try clear hfz13_0
    try clear hfz13_1
    try clear hfz13_2
    try clear hfz13_3
    try clear hfz16_0
    try clear hfz16_1
    try clear hfz16_2
    try clear hfz16_3
    try clear hfz6_0
    try clear hfz6_1
    try clear hfz6_2
    try clear hfz6_3
    try clear hfz8_0
    try clear hfz8_1
    try clear hfz8_2
    try clear hfz8_3
    obtain ⟨x7_1, x104000_1, HA, HK1, HO_7, BK101, MK103, HB⟩ := hrel
    cases gk with
    | zero => exact absurd HA.out (by simp [code_Sync.l0])
    | succ k1 =>
     have H := HA.out
     clear HA
     simp only [code_Sync.l0] at H
     by_cases c19 : (x7_1.length : Int) > 0
     ·(
 rw [if_pos c19] at H
 have c19b0 : decide (0 < (x7_1.length : Int)) = true := decide_eq_true c19
 have c19b1 : decide (0 < x7_1.length) = true := decide_eq_true (by omega)
 clear c19
 by_cases c20 : 0 < (x7_1.length : Int)
 ·rw [if_pos c20] at H
  have c20b0 : decide (0 < (x7_1.length : Int)) = true := decide_eq_true c20
  have c20b1 : decide (0 < x7_1.length) = true := decide_eq_true (by omega)
  clear c20
  by_cases c21 : (Go.bits .and .i64 ((rd_T105 x7_1 0).f0) (wrap64 (((rd_T105 x7_1 0).f0) - 1))) = 0
  ·rw [if_pos c21] at H
   have c21b0 : ((Go.bits .and .i64 ((rd_T105 x7_1 0).f0) (wrap64 (((rd_T105 x7_1 0).f0) - 1))) == 0) = true := beq_iff_eq.mpr c21
   have c21b1 : ((Go.bits .and .i64 ((rd_T105 x7_1 0).f0) (wrap64 (((rd_T105 x7_1 0).f0) - 1))) != 0) = false := bne_eq_false_iff_eq.mpr c21
   clear c21
   simp only [Option.some.injEq, Prod.mk.injEq] at H
   obtain ⟨rfl, rfl, rfl⟩ := H
   obtain ⟨Ao22, co22, eo22, _⟩ := Kd.Q_slice HO_7.out
   subst eo22
   have p107 : 0 ≤ (0 : Int) := (by omega)
   have q107 : 0 < (x7_1.length : Int) := of_decide_eq_true (by first | (with_reducible assumption) | assumption)
   obtain ⟨ad107, A107_1, c107_1, e107, hx107_0, hx107_1, hl107_1, hi107_1⟩ := at_T105 (Kd.Q_reads' HO_7.out).2.2 0 p107 q107
   cases e107
   obtain ⟨ce107, hce107, hMe107, hcc107⟩ := Kd.Q_get HO_7.out z105 0 p107 (by first | exact q107 | exact of_decide_eq_true (by first | (with_reducible assumption) | assumption) | (have e_ := (Kd.Q_reads' HO_7.out).1; omega))
   obtain ⟨ve107_1, rfl, ge107_1⟩ := k105_openM hMe107
   have hv107_1 := hcc107 1 _ rfl
   rw [add_field _ _ 1 (by omega)] at hv107_1
   replace hv107_1 := Option.some.inj (hv107_1.symm.trans hx107_1)
   rw [hv107_1] at ge107_1
   have HL107_1 := Aside0.mk (show Kd.R (Kd.int .i64) 3 _ _ _ _ ((rd_T105 x7_1 0).f1) from ge107_1)
   clear hv107_1 ge107_1
   clear hcc107 hce107
   have qi107 : (0 < x7_1.length) = True := eq_true (by omega)
   (try rw [show ((0 : Int)).toNat = 0 from rfl] at hx107_0)
   (try rw [show 0 * 2 = 0 from rfl] at hx107_0)
   (try rw [Addr.add_zero'] at hx107_0)
   (try rw [show ((0 : Int)).toNat = 0 from rfl] at hx107_1)
   (try rw [show 0 * 2 = 0 from rfl] at hx107_1)
   (try rw [Addr.add_zero'] at hx107_1)
   have HR107_1 := Aside0.mk hi107_1
   have HC107_1 := Aside0.mk hl107_1
   clear hi107_1 hl107_1
   replace p107 := eq_true p107
   replace q107 := eq_true q107
   go_wp2_with (first | ((with_reducible refine gate_dst (N := 8) rfl ?_); refine box_event ?hg (N := 8) ?hd (cs := #[.int .i64 0, .slice none 0 0]) (t := 105) ?hr ?_; (case hd => rfl); (case hg => rfl); (case hr => first | (go_simp; done) | (go_simp; rfl)); intro gb108 hg w23 hbox hb; have n0_ := Aside0.mk (Kd.Q_below (Kd.Q_elderB (by (with_reducible repeat (first | apply Kd.Q_alloc | apply Kd.Q_drewN | apply Kd.Q_drew)); exact HO_7.out) gb108 (Nat.le_of_eq hg.symm)) hb); have n1_ := Aside0.mk (Kd.R_below (by (with_reducible repeat (first | apply Kd.R_alloc | apply Kd.R_drewN | apply Kd.R_drew)); exact HL107_1.out) hb); have n2_ := Aside0.mk (blk_below (g := gb101) (o := .cells #[.int .i64 a0_0, .int .i64 a0_1, .slice A0_2 l0_2.length c0_2, .slice A0_3 l0_3.length c0_3] 25 (0, 0)) (by (with_reducible repeat (first | refine blk_drewN ?_ _ | refine blk_drew ?_ | refine blk_alloc ?_ _)); exact BK101.out) hb); have n3_ := Aside0.mk (blk_below (g := gb103) (o := mObj (Value.int .i64) (Value.int .i64) x104000_1) (by (with_reducible repeat (first | refine blk_drewN ?_ _ | refine blk_drew ?_ | refine blk_alloc ?_ _)); exact MK103.out) hb); have n4_ := Aside0.mk (Kd.C_below (by repeat (first | (with_reducible exact HR107_1.out) | (with_reducible refine Kd.C_alloc ?_ _) | (with_reducible refine Kd.C_drewN ?_ _) | (with_reducible refine Kd.C_drew ?_) | exact HR107_1.out)) hb); have n5_ := Aside0.mk (below_step (by repeat (first | (with_reducible first | exact HB.out | apply below_alloc | apply pw_below_drewN | apply below_drew1 | refine below_set ?_ GE101.out | refine below_set ?_ GE103.out) | exact HB.out)) hb); have n6_ := Aside0.mk (hbox); have n7_ := Aside0.mk ((by rw [hg]; exact (below_size (by repeat (first | (with_reducible first | exact HB.out | apply below_alloc | apply pw_below_drewN | apply below_drew1 | refine below_set ?_ GE101.out | refine below_set ?_ GE103.out) | exact HB.out))) : w.heap.size ≤ gb108)); have n8_ := Aside0.mk ((by rw [hg]; exact (below_size (by repeat (first | (with_reducible first | exact HB.out | apply below_alloc | apply pw_below_drewN | apply below_drew1 | refine below_set ?_ GE101.out | refine below_set ?_ GE103.out) | exact HB.out))) : w.heap.size ≤ gb108)); have n9_ := Aside0.mk ((by rw [hg]; exact Nat.ne_of_lt (blk_lt (g := gb101) (o := .cells #[.int .i64 a0_0, .int .i64 a0_1, .slice A0_2 l0_2.length c0_2, .slice A0_3 l0_3.length c0_3] 25 (0, 0)) (by (with_reducible repeat (first | refine blk_drewN ?_ _ | refine blk_drew ?_ | refine blk_alloc ?_ _)); exact BK101.out)) : gb101 ≠ gb108)); have n10_ := Aside0.mk ((by rw [hg]; exact Nat.ne_of_gt (blk_lt (g := gb101) (o := .cells #[.int .i64 a0_0, .int .i64 a0_1, .slice A0_2 l0_2.length c0_2, .slice A0_3 l0_3.length c0_3] 25 (0, 0)) (by (with_reducible repeat (first | refine blk_drewN ?_ _ | refine blk_drew ?_ | refine blk_alloc ?_ _)); exact BK101.out)) : gb108 ≠ gb101)); have n11_ := Aside0.mk ((by rw [hg]; exact Nat.ne_of_lt (blk_lt (g := gb103) (o := mObj (Value.int .i64) (Value.int .i64) x104000_1) (by (with_reducible repeat (first | refine blk_drewN ?_ _ | refine blk_drew ?_ | refine blk_alloc ?_ _)); exact MK103.out)) : gb103 ≠ gb108)); have n12_ := Aside0.mk ((by rw [hg]; exact Nat.ne_of_gt (blk_lt (g := gb103) (o := mObj (Value.int .i64) (Value.int .i64) x104000_1) (by (with_reducible repeat (first | refine blk_drewN ?_ _ | refine blk_drew ?_ | refine blk_alloc ?_ _)); exact MK103.out)) : gb108 ≠ gb103)); clear HO_7; clear HL107_1; clear BK101; clear MK103; clear HR107_1; clear HB; have HO_7 := n0_; have HL107_1 := n1_; have BK101 := n2_; have MK103 := n3_; have HR107_1 := n4_; have HB := n5_; have BK108 := n6_; have GW108 := n7_; have GE108 := n8_; have NB101_108 := n9_; have NB108_101 := n10_; have NB103_108 := n11_; have NB108_103 := n12_; clear n0_ n1_ n2_ n3_ n4_ n5_ n6_ n7_ n8_ n9_ n10_ n11_ n12_; clear hb hbox hg; have hnb24 := NB108_101.out; have hnc24 := NB101_108.out; have hnb25 := NB108_103.out; have hnc25 := NB103_108.out; have hcz26_0 : w23.cell? ⟨gb108, 0, none⟩ = some (.int .i64 0) := (blk_cell BK108.out 0).trans rfl; have hcz26_1 : w23.cell? ⟨gb108, 1, none⟩ = some (.slice none 0 0) := (blk_cell BK108.out 1).trans rfl; have hfz26_0 := blk_frozen BK108.out 0; have hfz26_1 := blk_frozen BK108.out 1))
   go_ret3
   exact ⟨_, by first | rfl | (simp [errW_none, errW_some] <;> rfl) | (simp only [← hji9]; first | rfl | (simp [errW_none, errW_some] <;> rfl)) | (simp [*, errW_none, errW_some] <;> rfl), by (with_reducible repeat (first | apply Kd.R_alloc | apply Kd.R_drewN | apply Kd.R_drew)); exact Kd.R_mono (Kd.R_far (p := ⟨gb108, 1, none⟩) (Kd.R_far (p := ⟨gb108, 0, none⟩) (Kd.R_types HL107_1.out BK108.out (by decide)) (fun _ hk => hk.2) (.int .i64 ((rd_T105 x7_1 0).f0))) (fun _ hk => hk.2) (.slice A107_1 ((rd_T105 x7_1 0).f1).length c107_1)) (fun _ hk => trivial), by repeat (first | (with_reducible first | exact HB.out | apply below_alloc | apply pw_below_drewN | apply below_drew1 | refine below_set ?_ GE101.out | refine below_set ?_ GE103.out | refine below_set ?_ GE108.out) | exact HB.out)⟩
  ·rw [if_neg c21] at H
   have c21b0 : ((Go.bits .and .i64 ((rd_T105 x7_1 0).f0) (wrap64 (((rd_T105 x7_1 0).f0) - 1))) == 0) = false := beq_eq_false_iff_ne.mpr c21
   have c21b1 : ((Go.bits .and .i64 ((rd_T105 x7_1 0).f0) (wrap64 (((rd_T105 x7_1 0).f0) - 1))) != 0) = true := bne_iff_ne.mpr c21
   have H' := Aside0.mk H
   clear H
   obtain ⟨Ao27, co27, eo27, _⟩ := Kd.Q_slice HO_7.out
   subst eo27
   have p107 : 0 ≤ (0 : Int) := (by omega)
   have q107 : 0 < (x7_1.length : Int) := of_decide_eq_true (by first | (with_reducible assumption) | assumption)
   obtain ⟨ad107, A107_1, c107_1, e107, hx107_0, hx107_1, hl107_1, hi107_1⟩ := at_T105 (Kd.Q_reads' HO_7.out).2.2 0 p107 q107
   cases e107
   obtain ⟨ce107, hce107, hMe107, hcc107⟩ := Kd.Q_get HO_7.out z105 0 p107 (by first | exact q107 | exact of_decide_eq_true (by first | (with_reducible assumption) | assumption) | (have e_ := (Kd.Q_reads' HO_7.out).1; omega))
   obtain ⟨ve107_1, rfl, ge107_1⟩ := k105_openM hMe107
   have hv107_1 := hcc107 1 _ rfl
   rw [add_field _ _ 1 (by omega)] at hv107_1
   replace hv107_1 := Option.some.inj (hv107_1.symm.trans hx107_1)
   rw [hv107_1] at ge107_1
   have HL107_1 := Aside0.mk (show Kd.R (Kd.int .i64) 3 _ _ _ _ ((rd_T105 x7_1 0).f1) from ge107_1)
   clear hv107_1 ge107_1
   clear hcc107 hce107
   have qi107 : (0 < x7_1.length) = True := eq_true (by omega)
   (try rw [show ((0 : Int)).toNat = 0 from rfl] at hx107_0)
   (try rw [show 0 * 2 = 0 from rfl] at hx107_0)
   (try rw [Addr.add_zero'] at hx107_0)
   (try rw [show ((0 : Int)).toNat = 0 from rfl] at hx107_1)
   (try rw [show 0 * 2 = 0 from rfl] at hx107_1)
   (try rw [Addr.add_zero'] at hx107_1)
   have HR107_1 := Aside0.mk hi107_1
   have HC107_1 := Aside0.mk hl107_1
   clear hi107_1 hl107_1
   replace p107 := eq_true p107
   replace q107 := eq_true q107
   go_wp2_with (first | ((with_reducible refine gate_dst (N := 8) rfl ?_); refine box_event ?hg (N := 8) ?hd (cs := #[.int .i64 0, .slice none 0 0]) (t := 105) ?hr ?_; (case hd => rfl); (case hg => rfl); (case hr => first | (go_simp; done) | (go_simp; rfl)); intro gb108 hg w28 hbox hb; have n0_ := Aside0.mk (Kd.Q_below (Kd.Q_elderB (by (with_reducible repeat (first | apply Kd.Q_alloc | apply Kd.Q_drewN | apply Kd.Q_drew)); exact HO_7.out) gb108 (Nat.le_of_eq hg.symm)) hb); have n1_ := Aside0.mk (Kd.R_below (by (with_reducible repeat (first | apply Kd.R_alloc | apply Kd.R_drewN | apply Kd.R_drew)); exact HL107_1.out) hb); have n2_ := Aside0.mk (blk_below (g := gb101) (o := .cells #[.int .i64 a0_0, .int .i64 a0_1, .slice A0_2 l0_2.length c0_2, .slice A0_3 l0_3.length c0_3] 25 (0, 0)) (by (with_reducible repeat (first | refine blk_drewN ?_ _ | refine blk_drew ?_ | refine blk_alloc ?_ _)); exact BK101.out) hb); have n3_ := Aside0.mk (blk_below (g := gb103) (o := mObj (Value.int .i64) (Value.int .i64) x104000_1) (by (with_reducible repeat (first | refine blk_drewN ?_ _ | refine blk_drew ?_ | refine blk_alloc ?_ _)); exact MK103.out) hb); have n4_ := Aside0.mk (Kd.C_below (by repeat (first | (with_reducible exact HR107_1.out) | (with_reducible refine Kd.C_alloc ?_ _) | (with_reducible refine Kd.C_drewN ?_ _) | (with_reducible refine Kd.C_drew ?_) | exact HR107_1.out)) hb); have n5_ := Aside0.mk (below_step (by repeat (first | (with_reducible first | exact HB.out | apply below_alloc | apply pw_below_drewN | apply below_drew1 | refine below_set ?_ GE101.out | refine below_set ?_ GE103.out) | exact HB.out)) hb); have n6_ := Aside0.mk (hbox); have n7_ := Aside0.mk ((by rw [hg]; exact (below_size (by repeat (first | (with_reducible first | exact HB.out | apply below_alloc | apply pw_below_drewN | apply below_drew1 | refine below_set ?_ GE101.out | refine below_set ?_ GE103.out) | exact HB.out))) : w.heap.size ≤ gb108)); have n8_ := Aside0.mk ((by rw [hg]; exact (below_size (by repeat (first | (with_reducible first | exact HB.out | apply below_alloc | apply pw_below_drewN | apply below_drew1 | refine below_set ?_ GE101.out | refine below_set ?_ GE103.out) | exact HB.out))) : w.heap.size ≤ gb108)); have n9_ := Aside0.mk ((by rw [hg]; exact Nat.ne_of_lt (blk_lt (g := gb101) (o := .cells #[.int .i64 a0_0, .int .i64 a0_1, .slice A0_2 l0_2.length c0_2, .slice A0_3 l0_3.length c0_3] 25 (0, 0)) (by (with_reducible repeat (first | refine blk_drewN ?_ _ | refine blk_drew ?_ | refine blk_alloc ?_ _)); exact BK101.out)) : gb101 ≠ gb108)); have n10_ := Aside0.mk ((by rw [hg]; exact Nat.ne_of_gt (blk_lt (g := gb101) (o := .cells #[.int .i64 a0_0, .int .i64 a0_1, .slice A0_2 l0_2.length c0_2, .slice A0_3 l0_3.length c0_3] 25 (0, 0)) (by (with_reducible repeat (first | refine blk_drewN ?_ _ | refine blk_drew ?_ | refine blk_alloc ?_ _)); exact BK101.out)) : gb108 ≠ gb101)); have n11_ := Aside0.mk ((by rw [hg]; exact Nat.ne_of_lt (blk_lt (g := gb103) (o := mObj (Value.int .i64) (Value.int .i64) x104000_1) (by (with_reducible repeat (first | refine blk_drewN ?_ _ | refine blk_drew ?_ | refine blk_alloc ?_ _)); exact MK103.out)) : gb103 ≠ gb108)); have n12_ := Aside0.mk ((by rw [hg]; exact Nat.ne_of_gt (blk_lt (g := gb103) (o := mObj (Value.int .i64) (Value.int .i64) x104000_1) (by (with_reducible repeat (first | refine blk_drewN ?_ _ | refine blk_drew ?_ | refine blk_alloc ?_ _)); exact MK103.out)) : gb108 ≠ gb103)); clear HO_7; clear HL107_1; clear BK101; clear MK103; clear HR107_1; clear HB; have HO_7 := n0_; have HL107_1 := n1_; have BK101 := n2_; have MK103 := n3_; have HR107_1 := n4_; have HB := n5_; have BK108 := n6_; have GW108 := n7_; have GE108 := n8_; have NB101_108 := n9_; have NB108_101 := n10_; have NB103_108 := n11_; have NB108_103 := n12_; clear n0_ n1_ n2_ n3_ n4_ n5_ n6_ n7_ n8_ n9_ n10_ n11_ n12_; clear hb hbox hg; have hnb29 := NB108_101.out; have hnc29 := NB101_108.out; have hnb30 := NB108_103.out; have hnc30 := NB103_108.out; have hcz31_0 : w28.cell? ⟨gb108, 0, none⟩ = some (.int .i64 0) := (blk_cell BK108.out 0).trans rfl; have hcz31_1 : w28.cell? ⟨gb108, 1, none⟩ = some (.slice none 0 0) := (blk_cell BK108.out 1).trans rfl; have hfz31_0 := blk_frozen BK108.out 0; have hfz31_1 := blk_frozen BK108.out 1; have hnb32 := NB101_103.out; have hnc32 := NB103_101.out; have hcz33_0 : w28.cell? ⟨gb101, 0, none⟩ = some (.int .i64 a0_0) := (blk_cell BK101.out 0).trans rfl; have hcz33_1 : w28.cell? ⟨gb101, 1, none⟩ = some (.int .i64 a0_1) := (blk_cell BK101.out 1).trans rfl; have hcz33_2 : w28.cell? ⟨gb101, 2, none⟩ = some (.slice A0_2 l0_2.length c0_2) := (blk_cell BK101.out 2).trans rfl; have hcz33_3 : w28.cell? ⟨gb101, 3, none⟩ = some (.slice A0_3 l0_3.length c0_3) := (blk_cell BK101.out 3).trans rfl; have hfz33_0 := blk_frozen BK101.out 0; have hfz33_1 := blk_frozen BK101.out 1; have hfz33_2 := blk_frozen BK101.out 2; have hfz33_3 := blk_frozen BK101.out 3))
   go_loopg [7, 49] k1 (fun kq v7 v49 w' => ∃ (x7_2 : List (S105)) (x49_2 : Int) (x104000_2 : List (Int × Int)), v49 = .int .i64 x49_2 ∧ Aside0 (code_Sync.l1 kq x7_2 a0_0 x49_2 a0_0 a0_1 l0_2 l0_3 x104000_2 ((rd_T105 x7_1 0).f0) ((rd_T105 x7_1 0).f1) = some (r1, r2, r3)) ∧ Aside0 (kq ≤ k1) ∧ Aside0 (Kd.Q k105 105 w' w.heap.size (fun k_ => k_ ≠ gb108) v7 x7_2) ∧ Aside0 (w'.heap[gb101]? = some (.cells #[.int .i64 a0_0, .int .i64 a0_1, (.slice A0_2 l0_2.length c0_2), (.slice A0_3 l0_3.length c0_3)] 25 (0, 0))) ∧ Aside0 (w'.heap[gb103]? = some (mObj (Value.int .i64) (Value.int .i64) x104000_2)) ∧ Aside0 (w'.heap[gb108]? = some (.cells #[.int .i64 ((rd_T105 x7_1 0).f0), (.slice A107_1 ((rd_T105 x7_1 0).f1).length c107_1)] 105 (0, 0))) ∧ Aside0 (Kd.R (Kd.int .i64) 3 w' w.heap.size (fun k_ => some k_ ≠ (v7 : Value).ownBlock) (.slice A107_1 ((rd_T105 x7_1 0).f1).length c107_1) ((rd_T105 x7_1 0).f1)) ∧ Aside0 (Kd.C (Kd.int .i64) w' A107_1 ((rd_T105 x7_1 0).f1).length ((rd_T105 x7_1 0).f1)) ∧ Aside0 (Below w.heap.size w w'))
   case atStart => exact ⟨(x7_1), (0), (x104000_1), (by first | rfl | (simp; done) | (simp [*]; done)), H', ⟨Nat.le_refl _⟩, ⟨by (with_reducible repeat (first | apply Kd.Q_alloc | apply Kd.Q_drewN | apply Kd.Q_drew)); exact Kd.Q_mono (Kd.Q_far (p := ⟨gb108, 1, none⟩) (Kd.Q_far (p := ⟨gb108, 0, none⟩) (Kd.Q_mono HO_7.out (fun k_ hk => (⟨hk, hk.2⟩ : _ ∧ k_ ≠ gb108))) (fun _ hk => hk.2) (.int .i64 ((rd_T105 x7_1 0).f0))) (fun _ hk => hk.2) (.slice A107_1 ((rd_T105 x7_1 0).f1).length c107_1)) (fun _ hk => hk.1.2)⟩, ⟨by (with_reducible repeat (first | refine blk_drewN ?_ _ | refine blk_drew ?_ | refine blk_alloc ?_ _)); refine blk_far ?_ NB101_108.out _; (with_reducible repeat (first | refine blk_drewN ?_ _ | refine blk_drew ?_ | refine blk_alloc ?_ _)); refine blk_far ?_ NB101_108.out _; (with_reducible repeat (first | refine blk_drewN ?_ _ | refine blk_drew ?_ | refine blk_alloc ?_ _)); exact BK101.out⟩, ⟨by (with_reducible repeat (first | refine blk_drewN ?_ _ | refine blk_drew ?_ | refine blk_alloc ?_ _)); refine blk_farO ?_ NB103_108.out _; (with_reducible repeat (first | refine blk_drewN ?_ _ | refine blk_drew ?_ | refine blk_alloc ?_ _)); refine blk_farO ?_ NB103_108.out _; (with_reducible repeat (first | refine blk_drewN ?_ _ | refine blk_drew ?_ | refine blk_alloc ?_ _)); exact MK103.out⟩, ⟨by (with_reducible repeat (first | refine blk_drewN ?_ _ | refine blk_drew ?_ | refine blk_alloc ?_ _)); refine blk_put (cs := #[.int .i64 ((rd_T105 x7_1 0).f0), .slice none 0 0]) ?_ 1 _ rfl; (with_reducible repeat (first | refine blk_drewN ?_ _ | refine blk_drew ?_ | refine blk_alloc ?_ _)); refine blk_put (cs := #[.int .i64 0, .slice none 0 0]) ?_ 0 _ rfl; (with_reducible repeat (first | refine blk_drewN ?_ _ | refine blk_drew ?_ | refine blk_alloc ?_ _)); exact BK108.out⟩, ⟨by (with_reducible repeat (first | apply Kd.R_alloc | apply Kd.R_drewN | apply Kd.R_drew)); exact Kd.R_mono (Kd.R_far (p := ⟨gb108, 1, none⟩) (Kd.R_far (p := ⟨gb108, 0, none⟩) (Kd.R_types HL107_1.out BK108.out (by decide)) (fun _ hk => hk.2) (.int .i64 ((rd_T105 x7_1 0).f0))) (fun _ hk => hk.2) (.slice A107_1 ((rd_T105 x7_1 0).f1).length c107_1)) (fun _ hk => hk.1.2)⟩, ⟨(Kd.R_reads' (by (with_reducible repeat (first | apply Kd.R_alloc | apply Kd.R_drewN | apply Kd.R_drew)); exact (Kd.R_mono (Kd.R_far (p := ⟨gb108, 1, none⟩) (Kd.R_far (p := ⟨gb108, 0, none⟩) (Kd.R_types HL107_1.out BK108.out (by decide)) (fun _ hk => hk.2) (.int .i64 ((rd_T105 x7_1 0).f0))) (fun _ hk => hk.2) (.slice A107_1 ((rd_T105 x7_1 0).f1).length c107_1)) (fun _ h_ => h_.1)))).2.2⟩, ⟨by repeat (first | (with_reducible first | exact HB.out | apply below_alloc | apply pw_below_drewN | apply below_drew1 | refine below_set ?_ GE101.out | refine below_set ?_ GE103.out | refine below_set ?_ GE108.out) | exact HB.out)⟩⟩
   case round =>
    clear H'
    try clear c1
    try clear p1
    try clear q1
    try clear hx1
    try clear qi1
    try clear c2
    try clear p2
    try clear c3
    try clear c3b0
    try clear c3b1
    try clear c4
    try clear c4b0
    try clear c4b1
    try clear c6
    try clear p6
    try clear c10
    try clear p10
    try clear q10
    try clear hx10
    try clear qi10
    try clear c15
    try clear c19
    try clear c19b0
    try clear c19b1
    try clear c20
    try clear c20b0
    try clear c20b1
    try clear c21
    try clear c21b0
    try clear c21b1
    try clear c24
    try clear c25
    try clear c29
    try clear c30
    try clear c32
    try clear hcz11_0
    try clear hcz11_1
    try clear hcz11_2
    try clear hcz11_3
    try clear hcz13_0
    try clear hcz13_1
    try clear hcz13_2
    try clear hcz13_3
    try clear hcz16_0
    try clear hcz16_1
    try clear hcz16_2
    try clear hcz16_3
    try clear hcz26_0
    try clear hcz26_1
    try clear hcz31_0
    try clear hcz31_1
    try clear hcz33_0
    try clear hcz33_1
    try clear hcz33_2
    try clear hcz33_3
    try clear hcz6_0
    try clear hcz6_1
    try clear hcz6_2
    try clear hcz6_3
    try clear hcz8_0
    try clear hcz8_1
    try clear hcz8_2
    try clear hcz8_3
    try clear hfz11_0
    try clear hfz11_1
    try clear hfz11_2
    try clear hfz11_3
    try clear hfz13_0
    try clear hfz13_1
    try clear hfz13_2
    try clear hfz13_3
    try clear hfz16_0
    try clear hfz16_1
    try clear hfz16_2
    try clear hfz16_3
    try clear hfz26_0
    try clear hfz26_1
    try clear hfz31_0
    try clear hfz31_1
    try clear hfz33_0
    try clear hfz33_1
    try clear hfz33_2
    try clear hfz33_3
    try clear hfz6_0
    try clear hfz6_1
    try clear hfz6_2
    try clear hfz6_3
    try clear hfz8_0
    try clear hfz8_1
    try clear hfz8_2
    try clear hfz8_3
    try clear hx107_0
    try clear hx107_1
    try clear p107
    try clear p2
    try clear p6
    try clear q107
    obtain ⟨x7_2, x49_2, x104000_2, rfl, HA, HK2, HO_7, BK101, MK103, BK108, HL107_1, HR107_1, HB⟩ := hrel
    cases gk with
    | zero => exact absurd HA.out (by simp [code_Sync.l1])
    | succ k2 =>
     have H := HA.out
     clear HA
     simp only [code_Sync.l1] at H
     by_cases c34 : x49_2 < a0_0
     ·(
 rw [if_pos c34] at H
 have c34b0 : decide (x49_2 < a0_0) = true := decide_eq_true c34
 clear c34
 have H' := Aside0.mk H
 clear H
 have hnb35 := NB101_103.out
 have hnc35 := NB103_101.out
 have hnb36 := NB101_108.out
 have hnc36 := NB108_101.out
 have hcz37_0 : wr.cell? ⟨gb101, 0, none⟩ = some (.int .i64 a0_0) := (blk_cell BK101.out 0).trans rfl
 have hcz37_1 : wr.cell? ⟨gb101, 1, none⟩ = some (.int .i64 a0_1) := (blk_cell BK101.out 1).trans rfl
 have hcz37_2 : wr.cell? ⟨gb101, 2, none⟩ = some (.slice A0_2 l0_2.length c0_2) := (blk_cell BK101.out 2).trans rfl
 have hcz37_3 : wr.cell? ⟨gb101, 3, none⟩ = some (.slice A0_3 l0_3.length c0_3) := (blk_cell BK101.out 3).trans rfl
 have hfz37_0 := blk_frozen BK101.out 0
 have hfz37_1 := blk_frozen BK101.out 1
 have hfz37_2 := blk_frozen BK101.out 2
 have hfz37_3 := blk_frozen BK101.out 3
 go_wp2
 go_loopg [10, 55] k2 (fun kq v10 v55 w' => ∃ (x10_3 : Int) (x55_3 : Int), v10 = .int .i64 x10_3 ∧ v55 = .int .i64 x55_3 ∧ Aside0 (code_Sync.l2 kq x7_2 x49_2 x10_3 a0_0 x49_2 l0_2 (l0_2.length : Int) x55_3 a0_0 a0_1 l0_2 l0_3 x104000_2 ((rd_T105 x7_1 0).f0) ((rd_T105 x7_1 0).f1) = some (r1, r2, r3)) ∧ Aside0 (kq ≤ k2) ∧ Aside0 (Kd.Q k105 105 w' w.heap.size (fun k_ => k_ ≠ gb108) u7 x7_2) ∧ Aside0 (w'.heap[gb101]? = some (.cells #[.int .i64 a0_0, .int .i64 a0_1, (.slice A0_2 l0_2.length c0_2), (.slice A0_3 l0_3.length c0_3)] 25 (0, 0))) ∧ Aside0 (w'.heap[gb103]? = some (mObj (Value.int .i64) (Value.int .i64) x104000_2)) ∧ Aside0 (w'.heap[gb108]? = some (.cells #[.int .i64 ((rd_T105 x7_1 0).f0), (.slice A107_1 ((rd_T105 x7_1 0).f1).length c107_1)] 105 (0, 0))) ∧ Aside0 (Kd.R (Kd.int .i64) 3 w' w.heap.size (fun k_ => some k_ ≠ (u7 : Value).ownBlock) (.slice A107_1 ((rd_T105 x7_1 0).f1).length c107_1) ((rd_T105 x7_1 0).f1)) ∧ Aside0 (Kd.C (Kd.int .i64) w' A107_1 ((rd_T105 x7_1 0).f1).length ((rd_T105 x7_1 0).f1)) ∧ Aside0 (Below w.heap.size w w'))
 case atStart => exact ⟨(0), (0), (by first | rfl | (simp; done) | (simp [*]; done)), (by first | rfl | (simp; done) | (simp [*]; done)), H', ⟨Nat.le_refl _⟩, ⟨by (with_reducible repeat (first | apply Kd.Q_alloc | apply Kd.Q_drewN | apply Kd.Q_drew)); exact HO_7.out⟩, ⟨by (with_reducible repeat (first | refine blk_drewN ?_ _ | refine blk_drew ?_ | refine blk_alloc ?_ _)); exact BK101.out⟩, ⟨by (with_reducible repeat (first | refine blk_drewN ?_ _ | refine blk_drew ?_ | refine blk_alloc ?_ _)); exact MK103.out⟩, ⟨by (with_reducible repeat (first | refine blk_drewN ?_ _ | refine blk_drew ?_ | refine blk_alloc ?_ _)); exact BK108.out⟩, ⟨by (with_reducible repeat (first | apply Kd.R_alloc | apply Kd.R_drewN | apply Kd.R_drew)); exact HL107_1.out⟩, ⟨by repeat (first | (with_reducible exact HR107_1.out) | (with_reducible refine Kd.C_alloc ?_ _) | (with_reducible refine Kd.C_drewN ?_ _) | (with_reducible refine Kd.C_drew ?_) | exact HR107_1.out)⟩, ⟨by repeat (first | (with_reducible first | exact HB.out | apply below_alloc | apply pw_below_drewN | apply below_drew1 | refine below_set ?_ GE101.out | refine below_set ?_ GE103.out | refine below_set ?_ GE108.out) | exact HB.out)⟩⟩
 case round =>
  clear H'
  try clear c1
  try clear p1
  try clear q1
  try clear hx1
  try clear qi1
  try clear c2
  try clear p2
  try clear c3
  try clear c3b0
  try clear c3b1
  try clear c4
  try clear c4b0
  try clear c4b1
  try clear c6
  try clear p6
  try clear c10
  try clear p10
  try clear q10
  try clear hx10
  try clear qi10
  try clear c15
  try clear c19
  try clear c19b0
  try clear c19b1
  try clear c20
  try clear c20b0
  try clear c20b1
  try clear c21
  try clear c21b0
  try clear c21b1
  try clear c24
  try clear c25
  try clear c29
  try clear c30
  try clear c32
  try clear c34
  try clear c34b0
  try clear c35
  try clear c36
  try clear hcz11_0
  try clear hcz11_1
  try clear hcz11_2
  try clear hcz11_3
  try clear hcz13_0
  try clear hcz13_1
  try clear hcz13_2
  try clear hcz13_3
  try clear hcz16_0
  try clear hcz16_1
  try clear hcz16_2
  try clear hcz16_3
  try clear hcz26_0
  try clear hcz26_1
  try clear hcz31_0
  try clear hcz31_1
  try clear hcz33_0
  try clear hcz33_1
  try clear hcz33_2
  try clear hcz33_3
  try clear hcz37_0
  try clear hcz37_1
  try clear hcz37_2
  try clear hcz37_3
  try clear hcz6_0
  try clear hcz6_1
  try clear hcz6_2
  try clear hcz6_3
  try clear hcz8_0
  try clear hcz8_1
  try clear hcz8_2
  try clear hcz8_3
  try clear hfz11_0
  try clear hfz11_1
  try clear hfz11_2
  try clear hfz11_3
  try clear hfz13_0
  try clear hfz13_1
  try clear hfz13_2
  try clear hfz13_3
  try clear hfz16_0
  try clear hfz16_1
  try clear hfz16_2
  try clear hfz16_3
  try clear hfz26_0
  try clear hfz26_1
  try clear hfz31_0
  try clear hfz31_1
  try clear hfz33_0
  try clear hfz33_1
  try clear hfz33_2
  try clear hfz33_3
  try clear hfz37_0
  try clear hfz37_1
  try clear hfz37_2
  try clear hfz37_3
  try clear hfz6_0
  try clear hfz6_1
  try clear hfz6_2
  try clear hfz6_3
  try clear hfz8_0
  try clear hfz8_1
  try clear hfz8_2
  try clear hfz8_3
  try clear hx107_0
  try clear hx107_1
  try clear p1
  try clear p10
  try clear p107
  try clear p2
  try clear p6
  try clear q1
  try clear q10
  try clear q107
  obtain ⟨x10_3, x55_3, rfl, rfl, HA, HK3, HO_7, BK101, MK103, BK108, HL107_1, HR107_1, HB⟩ := hrel
  cases gk with
  | zero => exact absurd HA.out (by simp [code_Sync.l2])
  | succ k3 =>
   have H := HA.out
   clear HA
   simp only [code_Sync.l2] at H
   by_cases c38 : x55_3 < (l0_2.length : Int)
   ·rw [if_pos c38] at H
    have c38b0 : decide (x55_3 < (l0_2.length : Int)) = true := decide_eq_true c38
    clear c38
    by_cases c39 : 0 ≤ x55_3
    ·(
 rw [if_pos c39] at H
 have c39b0 : decide (0 ≤ x55_3) = true := decide_eq_true c39
 clear c39
 by_cases c40 : x55_3 < (l0_2.length : Int)
 ·rw [if_pos c40] at H
  have c40b0 : decide (x55_3 < (l0_2.length : Int)) = true := decide_eq_true c40
  clear c40
  have c41b0 := eq_true (of_decide_eq_true (by first | (with_reducible assumption) | assumption) : 0 ≤ x55_3)
  obtain ⟨ji42, hji42⟩ : ∃ j_ : Int, (shr .i64 ((rd_T105 x7_1 0).f0) x55_3) = j_ := ⟨_, rfl⟩
  replace H : (if (Go.bits .and .i64 (ji42) 1) = 1 then (if 0 ≤ x49_2 then (if x49_2 < ((rd_L1 l0_2 x55_3).length : Int) then (if 0 ≤ (rd (rd_L1 l0_2 x55_3) x49_2) then (code_Sync.l2 k3 x7_2 x49_2 (Go.bits .or .i64 x10_3 (shl .i64 1 (rd (rd_L1 l0_2 x55_3) x49_2))) a0_0 x49_2 l0_2 (l0_2.length : Int) (wrap64 (x55_3 + 1)) a0_0 a0_1 l0_2 l0_3 x104000_2 ((rd_T105 x7_1 0).f0) ((rd_T105 x7_1 0).f1)) else (none)) else (none)) else (none)) else (code_Sync.l2 k3 x7_2 x49_2 x10_3 a0_0 x49_2 l0_2 (l0_2.length : Int) (wrap64 (x55_3 + 1)) a0_0 a0_1 l0_2 l0_3 x104000_2 ((rd_T105 x7_1 0).f0) ((rd_T105 x7_1 0).f1))) = some (r1, r2, r3) := by first | (rw [hji42] at H; exact H) | (simp only [hji42] at H ⊢; exact H)
  have hji42_ : (((rd_T105 x7_1 0).f0) / 2 ^ min x55_3.toNat 64) = ji42 := hji42
  have hji42z : x55_3 ≤ 64 → (((rd_T105 x7_1 0).f0) / 2 ^ x55_3.toNat) = ji42 := shr_small hji42
  by_cases c43 : (Go.bits .and .i64 (ji42) 1) = 1
  ·rw [if_pos c43] at H
   have c43b0 : ((Go.bits .and .i64 (ji42) 1) == 1) = true := beq_iff_eq.mpr c43
   have c43b1 : ((Go.bits .and .i64 (ji42) 1) != 1) = false := bne_eq_false_iff_eq.mpr c43
   clear c43
   by_cases c44 : 0 ≤ x49_2
   ·rw [if_pos c44] at H
    have c44b0 : decide (0 ≤ x49_2) = true := decide_eq_true c44
    clear c44
    by_cases c45 : x49_2 < ((rd_L1 l0_2 x55_3).length : Int)
    ·(
 rw [if_pos c45] at H
 have c45b0 : decide (x49_2 < ((rd_L1 l0_2 x55_3).length : Int)) = true := decide_eq_true c45
 clear c45
 by_cases c46 : 0 ≤ (rd (rd_L1 l0_2 x55_3) x49_2)
 ·rw [if_pos c46] at H
  have c46b0 := eq_true c46
  have c46b1 : decide (0 ≤ (rd (rd_L1 l0_2 x55_3) x49_2)) = true := decide_eq_true c46
  clear c46
  obtain ⟨ji47, hji47⟩ : ∃ j_ : Int, (shl .i64 1 (rd (rd_L1 l0_2 x55_3) x49_2)) = j_ := ⟨_, rfl⟩
  replace H : (code_Sync.l2 k3 x7_2 x49_2 (Go.bits .or .i64 x10_3 (ji47)) a0_0 x49_2 l0_2 (l0_2.length : Int) (wrap64 (x55_3 + 1)) a0_0 a0_1 l0_2 l0_3 x104000_2 ((rd_T105 x7_1 0).f0) ((rd_T105 x7_1 0).f1)) = some (r1, r2, r3) := by first | (rw [hji47] at H; exact H) | (simp only [hji47] at H ⊢; exact H)
  have hji47_ : (IntKind.i64.wrap (1 * 2 ^ min (rd (rd_L1 l0_2 x55_3) x49_2).toNat 64)) = ji47 := hji47
  have hji47z : (rd (rd_L1 l0_2 x55_3) x49_2) ≤ 64 → (IntKind.i64.wrap (1 * 2 ^ (rd (rd_L1 l0_2 x55_3) x49_2).toNat)) = ji47 := shl_small hji47
  have hji47u : (IntKind.i64.wrap (2 ^ min (rd (rd_L1 l0_2 x55_3) x49_2).toNat 64)) = ji47 := by have h_ := hji47_; rw [Int.one_mul] at h_; exact h_
  have hji47v : (rd (rd_L1 l0_2 x55_3) x49_2) ≤ 64 → (IntKind.i64.wrap (2 ^ (rd (rd_L1 l0_2 x55_3) x49_2).toNat)) = ji47 := fun hle_ => by have h_ := hji47z hle_; rw [Int.one_mul] at h_; exact h_
  have hji47y : (wrap64 (1 * 2 ^ min (rd (rd_L1 l0_2 x55_3) x49_2).toNat 64)) = ji47 := (i64_w _).symm.trans hji47_
  have hji47x : (rd (rd_L1 l0_2 x55_3) x49_2) ≤ 64 → (wrap64 (1 * 2 ^ (rd (rd_L1 l0_2 x55_3) x49_2).toNat)) = ji47 := fun h_ => (i64_w _).symm.trans (hji47z h_)
  have H' := Aside0.mk H
  clear H
  have p112 : 0 ≤ (x55_3 : Int) := of_decide_eq_true (by first | (with_reducible assumption) | assumption)
  have q112 : x55_3 < (l0_2.length : Int) := of_decide_eq_true (by first | (with_reducible assumption) | assumption)
  obtain ⟨ad112, A112_0, c112_0, e112, hx112_0, hl112_0, hi112_0⟩ := at_L1 HR0_2.out x55_3 p112 q112
  cases e112
  replace hx112_0 := (HB.out.cell (World.block_lt_of_cell? w _ hx112_0)).trans hx112_0
  have HR112_0 := Aside0.mk hi112_0
  have HC112_0 := Aside0.mk hl112_0
  clear hi112_0 hl112_0
  replace p112 := eq_true p112
  replace q112 := eq_true q112
  have hnb48 := NB108_101.out
  have hnc48 := NB101_108.out
  have hnb49 := NB108_103.out
  have hnc49 := NB103_108.out
  have hcz50_0 : wr.cell? ⟨gb108, 0, none⟩ = some (.int .i64 ((rd_T105 x7_1 0).f0)) := (blk_cell BK108.out 0).trans rfl
  have hcz50_1 : wr.cell? ⟨gb108, 1, none⟩ = some (.slice A107_1 ((rd_T105 x7_1 0).f1).length c107_1) := (blk_cell BK108.out 1).trans rfl
  have hfz50_0 := blk_frozen BK108.out 0
  have hfz50_1 := blk_frozen BK108.out 1
  have p113 : 0 ≤ (x49_2 : Int) := of_decide_eq_true (by first | (with_reducible assumption) | assumption)
  have q113 : x49_2 < ((rd_L1 l0_2 x55_3).length : Int) := of_decide_eq_true (by first | (with_reducible assumption) | assumption)
  obtain ⟨ad113, e113, hx113_0⟩ := Kd.at_int HR112_0.out x49_2 p113 q113
  cases e113
  replace hx113_0 := (HB.out.cell (World.block_lt_of_cell? w _ hx113_0)).trans hx113_0
  replace p113 := eq_true p113
  replace q113 := eq_true q113
  go_wp2
  go_roundg k3
  case measure => have := HK1.out; have := HK2.out; have := HK3.out; omega
  case rel => exact ⟨(Go.bits .or .i64 x10_3 (ji47)), (wrap64 (x55_3 + 1)), (by first | rfl | (simp; done) | (simp only [← hji47] <;> (first | rfl | simp)) | (simp [*]; done)), (by first | rfl | (simp; done) | (simp [*]; done)), H', ⟨by have := HK1.out; have := HK2.out; have := HK3.out; omega⟩, ⟨by (with_reducible repeat (first | apply Kd.Q_alloc | apply Kd.Q_drewN | apply Kd.Q_drew)); exact HO_7.out⟩, ⟨by (with_reducible repeat (first | refine blk_drewN ?_ _ | refine blk_drew ?_ | refine blk_alloc ?_ _)); exact BK101.out⟩, ⟨by (with_reducible repeat (first | refine blk_drewN ?_ _ | refine blk_drew ?_ | refine blk_alloc ?_ _)); exact MK103.out⟩, ⟨by (with_reducible repeat (first | refine blk_drewN ?_ _ | refine blk_drew ?_ | refine blk_alloc ?_ _)); exact BK108.out⟩, ⟨by (with_reducible repeat (first | apply Kd.R_alloc | apply Kd.R_drewN | apply Kd.R_drew)); exact HL107_1.out⟩, ⟨by repeat (first | (with_reducible exact HR107_1.out) | (with_reducible refine Kd.C_alloc ?_ _) | (with_reducible refine Kd.C_drewN ?_ _) | (with_reducible refine Kd.C_drew ?_) | exact HR107_1.out)⟩, ⟨by repeat (first | (with_reducible first | exact HB.out | apply below_alloc | apply pw_below_drewN | apply below_drew1 | refine below_set ?_ GE101.out | refine below_set ?_ GE103.out | refine below_set ?_ GE108.out) | exact HB.out)⟩⟩
 ·rw [if_neg c46] at H
  exact absurd H (by simp))
    ·(
 rw [if_neg c45] at H
 exact absurd H (by simp))
   ·rw [if_neg c44] at H
    exact absurd H (by simp)
  ·rw [if_neg c43] at H
   have c43b0 : ((Go.bits .and .i64 (ji42) 1) == 1) = false := beq_eq_false_iff_ne.mpr c43
   have c43b1 : ((Go.bits .and .i64 (ji42) 1) != 1) = true := bne_iff_ne.mpr c43
   have H' := Aside0.mk H
   clear H
   have p112 : 0 ≤ (x55_3 : Int) := of_decide_eq_true (by first | (with_reducible assumption) | assumption)
   have q112 : x55_3 < (l0_2.length : Int) := of_decide_eq_true (by first | (with_reducible assumption) | assumption)
   obtain ⟨ad112, A112_0, c112_0, e112, hx112_0, hl112_0, hi112_0⟩ := at_L1 HR0_2.out x55_3 p112 q112
   cases e112
   replace hx112_0 := (HB.out.cell (World.block_lt_of_cell? w _ hx112_0)).trans hx112_0
   have HR112_0 := Aside0.mk hi112_0
   have HC112_0 := Aside0.mk hl112_0
   clear hi112_0 hl112_0
   replace p112 := eq_true p112
   replace q112 := eq_true q112
   have hnb51 := NB108_101.out
   have hnc51 := NB101_108.out
   have hnb52 := NB108_103.out
   have hnc52 := NB103_108.out
   have hcz53_0 : wr.cell? ⟨gb108, 0, none⟩ = some (.int .i64 ((rd_T105 x7_1 0).f0)) := (blk_cell BK108.out 0).trans rfl
   have hcz53_1 : wr.cell? ⟨gb108, 1, none⟩ = some (.slice A107_1 ((rd_T105 x7_1 0).f1).length c107_1) := (blk_cell BK108.out 1).trans rfl
   have hfz53_0 := blk_frozen BK108.out 0
   have hfz53_1 := blk_frozen BK108.out 1
   go_wp2
   go_roundg k3
   case measure => have := HK1.out; have := HK2.out; have := HK3.out; omega
   case rel => exact ⟨(x10_3), (wrap64 (x55_3 + 1)), (by first | rfl | (simp; done) | (simp [*]; done)), (by first | rfl | (simp; done) | (simp [*]; done)), H', ⟨by have := HK1.out; have := HK2.out; have := HK3.out; omega⟩, ⟨by (with_reducible repeat (first | apply Kd.Q_alloc | apply Kd.Q_drewN | apply Kd.Q_drew)); exact HO_7.out⟩, ⟨by (with_reducible repeat (first | refine blk_drewN ?_ _ | refine blk_drew ?_ | refine blk_alloc ?_ _)); exact BK101.out⟩, ⟨by (with_reducible repeat (first | refine blk_drewN ?_ _ | refine blk_drew ?_ | refine blk_alloc ?_ _)); exact MK103.out⟩, ⟨by (with_reducible repeat (first | refine blk_drewN ?_ _ | refine blk_drew ?_ | refine blk_alloc ?_ _)); exact BK108.out⟩, ⟨by (with_reducible repeat (first | apply Kd.R_alloc | apply Kd.R_drewN | apply Kd.R_drew)); exact HL107_1.out⟩, ⟨by repeat (first | (with_reducible exact HR107_1.out) | (with_reducible refine Kd.C_alloc ?_ _) | (with_reducible refine Kd.C_drewN ?_ _) | (with_reducible refine Kd.C_drew ?_) | exact HR107_1.out)⟩, ⟨by repeat (first | (with_reducible first | exact HB.out | apply below_alloc | apply pw_below_drewN | apply below_drew1 | refine below_set ?_ GE101.out | refine below_set ?_ GE103.out | refine below_set ?_ GE108.out) | exact HB.out)⟩⟩
 ·rw [if_neg c40] at H
  exact absurd H (by simp))
    ·(
 rw [if_neg c39] at H
 exact absurd H (by simp))
   ·rw [if_neg c38] at H
    have c38b0 : decide (x55_3 < (l0_2.length : Int)) = false := decide_eq_false c38
    clear c38
    by_cases c54 : (mget x104000_2 x10_3 0) = 0
    ·(
 rw [if_pos c54] at H
 have c54b0 : ((mget x104000_2 x10_3 0) == 0) = true := beq_iff_eq.mpr c54
 have c54b1 : ((mget x104000_2 x10_3 0) != 0) = false := bne_eq_false_iff_eq.mpr c54
 clear c54
 obtain ⟨y114, hy114⟩ : ∃ y_ : List (Int × Int), y_ = (mput x104000_2 x10_3 1) := ⟨_, rfl⟩
 replace H : ((slices_Clone_int_int.f ((rd_T105 x7_1 0).f1)).bind fun t115 => (if t115.length < 17592186044416 then (if x7_2.length < 4398046511104 then (code_Sync.l1 k3 (x7_2 ++ [(⟨x10_3, (t115 ++ [x49_2])⟩ : S105)]) a0_0 (wrap64 (x49_2 + 1)) a0_0 a0_1 l0_2 l0_3 y114 ((rd_T105 x7_1 0).f0) ((rd_T105 x7_1 0).f1)) else (none)) else (none))) = some (r1, r2, r3) := by first | (rw [hy114]; with_reducible exact H) | (have H2_ := (Option.bind_some _ _).symm.trans H; rw [hy114]; with_reducible exact H2_) | (have H2_ := (Option.bind_some _ _).symm.trans H; with_reducible exact H2_) | with_reducible exact H | (rw [hy114]; exact H) | exact H
 have Ny114 := Aside0.mk hy114
 clear hy114
 replace H := Option.bind_eq_some_iff.mp H
 obtain ⟨t115, A550, H⟩ := H
 replace H : (if t115.length < 17592186044416 then (if x7_2.length < 4398046511104 then (code_Sync.l1 k3 (x7_2 ++ [(⟨x10_3, (t115 ++ [x49_2])⟩ : S105)]) a0_0 (wrap64 (x49_2 + 1)) a0_0 a0_1 l0_2 l0_3 y114 ((rd_T105 x7_1 0).f0) ((rd_T105 x7_1 0).f1)) else (none)) else (none)) = some (r1, r2, r3) := H
 have A55 := Aside0.mk A550
 clear A550
 by_cases c56 : t115.length < 17592186044416
 ·rw [if_pos c56] at H
  have LMc56 := Aside0.mk c56
  clear c56
  obtain ⟨y118, hy118⟩ : ∃ y_ : List Int, y_ = (t115 ++ [x49_2]) := ⟨_, rfl⟩
  replace H : (if x7_2.length < 4398046511104 then (code_Sync.l1 k3 (x7_2 ++ [(⟨x10_3, y118⟩ : S105)]) a0_0 (wrap64 (x49_2 + 1)) a0_0 a0_1 l0_2 l0_3 y114 ((rd_T105 x7_1 0).f0) ((rd_T105 x7_1 0).f1)) else (none)) = some (r1, r2, r3) := by first | (rw [hy118]; with_reducible exact H) | (have H2_ := (Option.bind_some _ _).symm.trans H; rw [hy118]; with_reducible exact H2_) | (have H2_ := (Option.bind_some _ _).symm.trans H; with_reducible exact H2_) | with_reducible exact H | (rw [hy118]; exact H) | exact H
  have Ny118 := Aside0.mk hy118
  clear hy118
  by_cases c57 : x7_2.length < 4398046511104
  ·rw [if_pos c57] at H
   have LMc57 := Aside0.mk c57
   clear c57
   obtain ⟨y121, hy121⟩ : ∃ y_ : List (S105), y_ = (x7_2 ++ [(⟨x10_3, y118⟩ : S105)]) := ⟨_, rfl⟩
   replace H : (code_Sync.l1 k3 y121 a0_0 (wrap64 (x49_2 + 1)) a0_0 a0_1 l0_2 l0_3 y114 ((rd_T105 x7_1 0).f0) ((rd_T105 x7_1 0).f1)) = some (r1, r2, r3) := by first | (rw [hy121]; with_reducible exact H) | (have H2_ := (Option.bind_some _ _).symm.trans H; rw [hy121]; with_reducible exact H2_) | (have H2_ := (Option.bind_some _ _).symm.trans H; with_reducible exact H2_) | with_reducible exact H | (rw [hy121]; exact H) | exact H
   have Ny121 := Aside0.mk hy121
   clear hy121
   have H' := Aside0.mk H
   clear H
   go_wp2_with (first | ((with_reducible refine gate_dst (N := 76) rfl ?_); refine mlook_event (t := 103) (kt := 3) (vt := 3) (g := gb103) (mkey_int Try.underlying3) Try.underlying103 0 (fun _ => by kernel_rfl) (ev := (Value.int .i64)) (m := x104000_2) x10_3 (show _ = some (mObj (Value.int .i64) (Value.int .i64) x104000_2) from by (with_reducible repeat (first | refine blk_drewN ?_ _ | refine blk_drew ?_ | refine blk_alloc ?_ _)); exact MK103.out) rfl ?hg ?hm ?hk ?_; (case hg => rfl); (case hm => rfl); (case hk => first | rfl | (go_simp; done) | (go_simp; rfl))) | ((with_reducible refine gate_mupd (t := 103) (p := 78) rfl ?_); refine mput_event (t := 103) (kt := 3) (vt := 3) (g := gb103) (mkey_int Try.underlying3) Try.underlying103 (.inl rfl) x10_3 1 (show _ = some (mObj (Value.int .i64) (Value.int .i64) x104000_2) from by (with_reducible repeat (first | refine blk_drewN ?_ _ | refine blk_drew ?_ | refine blk_alloc ?_ _)); exact MK103.out) ?hg ?hn ?hm ?hk ?hv ?_; (case hg => rfl); (case hn => rfl); (case hm => rfl); (case hk => first | rfl | (go_simp; done) | (go_simp; rfl)); (case hv => first | rfl | (go_simp; done) | (go_simp; rfl)); intro w58 hbox hg hcell; rw [← Ny114.out] at hbox; have n0_ := Aside0.mk (Q_mput (by (with_reducible repeat (first | apply Kd.Q_alloc | apply Kd.Q_drewN | apply Kd.Q_drew)); exact HO_7.out) (show _ = some (mObj (Value.int .i64) (Value.int .i64) x104000_2) from by (with_reducible repeat (first | refine blk_drewN ?_ _ | refine blk_drew ?_ | refine blk_alloc ?_ _)); exact MK103.out) hg); have n1_ := Aside0.mk (blk_grown (g := gb101) (o := .cells #[.int .i64 a0_0, .int .i64 a0_1, .slice A0_2 l0_2.length c0_2, .slice A0_3 l0_3.length c0_3] 25 (0, 0)) (by (with_reducible repeat (first | refine blk_drewN ?_ _ | refine blk_drew ?_ | refine blk_alloc ?_ _)); exact BK101.out) hg (fun e_ => NB101_103.out (Option.some.inj e_))); have n2_ := Aside0.mk (hbox); have n3_ := Aside0.mk (blk_grown (g := gb108) (o := .cells #[.int .i64 ((rd_T105 x7_1 0).f0), .slice A107_1 ((rd_T105 x7_1 0).f1).length c107_1] 105 (0, 0)) (by (with_reducible repeat (first | refine blk_drewN ?_ _ | refine blk_drew ?_ | refine blk_alloc ?_ _)); exact BK108.out) hg (fun e_ => NB108_103.out (Option.some.inj e_))); have n4_ := Aside0.mk (R_mput (by (with_reducible repeat (first | apply Kd.R_alloc | apply Kd.R_drewN | apply Kd.R_drew)); exact HL107_1.out) (show _ = some (mObj (Value.int .i64) (Value.int .i64) x104000_2) from by (with_reducible repeat (first | refine blk_drewN ?_ _ | refine blk_drew ?_ | refine blk_alloc ?_ _)); exact MK103.out) hg); have n5_ := Aside0.mk (CK.C (ck_int .i64) hcell (show Kd.C (Kd.int .i64) _ A107_1 ((rd_T105 x7_1 0).f1).length ((rd_T105 x7_1 0).f1) from by first | exact HR107_1.out | (exact by repeat (first | (with_reducible exact HR107_1.out) | (with_reducible refine Kd.C_alloc ?_ _) | (with_reducible refine Kd.C_drewN ?_ _) | (with_reducible refine Kd.C_drew ?_) | exact HR107_1.out)))); have n6_ := Aside0.mk (below_mput (by repeat (first | (with_reducible first | exact HB.out | apply below_alloc | apply pw_below_drewN | apply below_drew1 | refine below_set ?_ GE101.out | refine below_set ?_ GE103.out | refine below_set ?_ GE108.out) | exact HB.out)) (below_size (by repeat (first | (with_reducible first | exact HB.out | apply below_alloc | apply pw_below_drewN | apply below_drew1 | refine below_set ?_ GE101.out | refine below_set ?_ GE103.out | refine below_set ?_ GE108.out) | exact HB.out))) GE103.out hg); clear HO_7; clear BK101; clear MK103; clear BK108; clear HL107_1; clear HR107_1; clear HB; have HO_7 := n0_; have BK101 := n1_; have MK103 := n2_; have BK108 := n3_; have HL107_1 := n4_; have HR107_1 := n5_; have HB := n6_; clear n0_ n1_ n2_ n3_ n4_ n5_ n6_; clear hg hbox hcell; have hnb59 := NB108_101.out; have hnc59 := NB101_108.out; have hnb60 := NB108_103.out; have hnc60 := NB103_108.out; have hcz61_0 : w58.cell? ⟨gb108, 0, none⟩ = some (.int .i64 ((rd_T105 x7_1 0).f0)) := (blk_cell BK108.out 0).trans rfl; have hcz61_1 : w58.cell? ⟨gb108, 1, none⟩ = some (.slice A107_1 ((rd_T105 x7_1 0).f1).length c107_1) := (blk_cell BK108.out 1).trans rfl; have hfz61_0 := blk_frozen BK108.out 0; have hfz61_1 := blk_frozen BK108.out 1) | ((with_reducible refine gate_callee (f := 68) rfl ?_); refine goesL_ (some 84) rfl rfl Try.func68 (by kernel_rfl) rfl #[.slice A107_1 ((rd_T105 x7_1 0).f1).length c107_1] rfl (by (try simp only [List.map_toArray, List.map_cons, List.map_nil]); first | done | rfl | (simp only [List.length_drop, List.length_take]; rfl)) ?_; (with_reducible refine (slices_Clone_int_int.calls _ _ ((rd_T105 x7_1 0).f1) t115 _ ?side1 ?side2 A55.out).mono ?_); (case side1 => repeat (first | exact (by repeat (first | (with_reducible exact HR107_1.out) | (with_reducible refine Kd.C_alloc ?_ _) | (with_reducible refine Kd.C_drewN ?_ _) | (with_reducible refine Kd.C_drew ?_) | exact HR107_1.out)) | (with_reducible refine Kd.C_alloc ?_ _) | (with_reducible refine Kd.C_drewN ?_ _) | (with_reducible refine Kd.C_drew ?_))); (case side2 => exact HC107_1.out); rintro e w62 ⟨v116, rfl, ho0, hb⟩; refine ⟨_, rfl, ?_⟩; have n0_ := Aside0.mk (Kd.Q_elder' (by (with_reducible repeat (first | apply Kd.Q_alloc | apply Kd.Q_drewN | apply Kd.Q_drew)); exact HO_7.out) (Kd.R_base ho0) hb); have n1_ := Aside0.mk (Kd.R_elder' (by (with_reducible repeat (first | apply Kd.R_alloc | apply Kd.R_drewN | apply Kd.R_drew)); exact HL107_1.out) (Kd.R_base ho0) hb); have n2_ := Aside0.mk (Kd.R_lower (Kd.R_new' ho0 (Kd.R_lt (by (with_reducible repeat (first | apply Kd.R_alloc | apply Kd.R_drewN | apply Kd.R_drew)); exact HL107_1.out))) (below_size (by repeat (first | (with_reducible first | exact HB.out | apply below_alloc | apply pw_below_drewN | apply below_drew1 | refine below_set ?_ GE101.out | refine below_set ?_ GE103.out | refine below_set ?_ GE108.out) | exact HB.out)))); have n3_ := Aside0.mk (blk_below (g := gb101) (o := .cells #[.int .i64 a0_0, .int .i64 a0_1, .slice A0_2 l0_2.length c0_2, .slice A0_3 l0_3.length c0_3] 25 (0, 0)) (by (with_reducible repeat (first | refine blk_drewN ?_ _ | refine blk_drew ?_ | refine blk_alloc ?_ _)); exact BK101.out) hb); have n4_ := Aside0.mk (blk_below (g := gb103) (o := mObj (Value.int .i64) (Value.int .i64) y114) (by (with_reducible repeat (first | refine blk_drewN ?_ _ | refine blk_drew ?_ | refine blk_alloc ?_ _)); exact MK103.out) hb); have n5_ := Aside0.mk (blk_below (g := gb108) (o := .cells #[.int .i64 ((rd_T105 x7_1 0).f0), .slice A107_1 ((rd_T105 x7_1 0).f1).length c107_1] 105 (0, 0)) (by (with_reducible repeat (first | refine blk_drewN ?_ _ | refine blk_drew ?_ | refine blk_alloc ?_ _)); exact BK108.out) hb); have n6_ := Aside0.mk (Kd.C_below (by repeat (first | (with_reducible exact HR107_1.out) | (with_reducible refine Kd.C_alloc ?_ _) | (with_reducible refine Kd.C_drewN ?_ _) | (with_reducible refine Kd.C_drew ?_) | exact HR107_1.out)) hb); have n7_ := Aside0.mk (below_step (by repeat (first | (with_reducible first | exact HB.out | apply below_alloc | apply pw_below_drewN | apply below_drew1 | refine below_set ?_ GE101.out | refine below_set ?_ GE103.out | refine below_set ?_ GE108.out) | exact HB.out)) hb); clear HO_7; clear HL107_1; clear BK101; clear MK103; clear BK108; clear HR107_1; clear HB; have HO_7 := n0_; have HL107_1 := n1_; have HO117 := n2_; have BK101 := n3_; have MK103 := n4_; have BK108 := n5_; have HR107_1 := n6_; have HB := n7_; clear n0_ n1_ n2_ n3_ n4_ n5_ n6_ n7_; (try clear hb); (try clear hb2); (try clear hk); (try clear hi); (try clear ho0)) | ((with_reducible refine gate_builtin (b := .append) (xs := #[.tmp 84, .tmp 86]) rfl ?_); at_builtin; refine Kd.R_append (Kd.int .i64) (w0 := w) w.heap.size rfl (.tmp 84) (.tmp 86) 23 3 (.int .i64 0) 8 rfl Try.underlying23 info3 rfl (by decide) (by omega) v116 t115 x49_2 [.int .i64 x49_2] (fun k_ => some k_ ≠ (.slice A107_1 ((rd_T105 x7_1 0).f1).length c107_1 : Value).ownBlock) (fun _ => False) rfl rfl ?aP (fun _ hk => hk.elim) ?aF ?aO ?aB ?aS ?aL ?_; (case aP => exact rfl); (case aB => exact (by repeat (first | (with_reducible first | exact HB.out | apply below_alloc | apply pw_below_drewN | apply below_drew1 | refine below_set ?_ GE101.out | refine below_set ?_ GE103.out | refine below_set ?_ GE108.out) | exact HB.out))); (case aF => exact (fun k_ hk => Kd.fresh' (Kd.R_lt (by (with_reducible repeat (first | apply Kd.R_alloc | apply Kd.R_drewN | apply Kd.R_drew)); exact HL107_1.out)) k_ hk)); (case aO => exact (by (with_reducible repeat (first | apply Kd.R_alloc | apply Kd.R_drewN | apply Kd.R_drew)); exact Kd.R_mono HO117.out (fun _ hk => hk.2))); (case aS => exact (below_size (by repeat (first | (with_reducible first | exact HB.out | apply below_alloc | apply pw_below_drewN | apply below_drew1 | refine below_set ?_ GE101.out | refine below_set ?_ GE103.out | refine below_set ?_ GE108.out) | exact HB.out)))); (case aL => have := LMc56.out; omega); intro v119 w63 ho hb hg hat; rw [← Ny118.out] at ho; have n0_ := Aside0.mk (Kd.Q_after (ok := (fun k_ => k_ ≠ gb108)) (by (with_reducible repeat (first | apply Kd.Q_alloc | apply Kd.Q_drewN | apply Kd.Q_drew)); exact HO_7.out) hg hat); have n1_ := Aside0.mk (blk_grown (g := gb101) (o := .cells #[.int .i64 a0_0, .int .i64 a0_1, .slice A0_2 l0_2.length c0_2, .slice A0_3 l0_3.length c0_3] 25 (0, 0)) (by (with_reducible repeat (first | refine blk_drewN ?_ _ | refine blk_drew ?_ | refine blk_alloc ?_ _)); exact BK101.out) hg (Kd.R_ne HO117.out BK101.out (by decide))); have n2_ := Aside0.mk (blk_grown (g := gb103) (o := mObj (Value.int .i64) (Value.int .i64) y114) (by (with_reducible repeat (first | refine blk_drewN ?_ _ | refine blk_drew ?_ | refine blk_alloc ?_ _)); exact MK103.out) hg (R_neM HO117.out MK103.out)); have n3_ := Aside0.mk (blk_grown (g := gb108) (o := .cells #[.int .i64 ((rd_T105 x7_1 0).f0), .slice A107_1 ((rd_T105 x7_1 0).f1).length c107_1] 105 (0, 0)) (by (with_reducible repeat (first | refine blk_drewN ?_ _ | refine blk_drew ?_ | refine blk_alloc ?_ _)); exact BK108.out) hg (Kd.R_ne HO117.out BK108.out (by decide))); have n4_ := Aside0.mk (Kd.R_after (ok := (fun k_ => some k_ ≠ (u7 : Value).ownBlock)) (by (with_reducible repeat (first | apply Kd.R_alloc | apply Kd.R_drewN | apply Kd.R_drew)); exact HL107_1.out) hg hat); have n5_ := Aside0.mk (hb); have n6_ := Aside0.mk ((Kd.R_reads' n4_.out).2.2); have n7_ := Aside0.mk (ho); clear HO_7; clear BK101; clear MK103; clear BK108; clear HL107_1; clear HB; clear HR107_1; clear HO117; have HO_7 := n0_; have BK101 := n1_; have MK103 := n2_; have BK108 := n3_; have HL107_1 := n4_; have HB := n5_; have HR107_1 := n6_; have HO120 := n7_; clear n0_ n1_ n2_ n3_ n4_ n5_ n6_ n7_; clear ho hb hg hat; obtain ⟨Ao64, co64, eo64⟩ := Kd.R_slice HO120.out; subst eo64) | ((with_reducible refine gate_builtin (b := .append) (xs := #[.tmp 80, .tmp 89]) rfl ?_); at_builtin; refine Kd.Q_append k105 (w0 := w) w.heap.size rfl (.tmp 80) (.tmp 89) 106 105 (.agg #[(.int .i64 0), (.slice none 0 0)]) 32 rfl Try.underlying106 info105 rfl (by decide) (by omega) u7 x7_2 (⟨x10_3, y118⟩ : S105) [.int .i64 x10_3, .slice Ao64 y118.length co64] (fun k_ => k_ ≠ gb108) (fun k_ => ((fun k_ => k_ ≠ gb108)) k_ ∧ some k_ ≠ (u7 : Value).ownBlock) rfl rfl ?aP (fun _ hk => hk) ?aF ?aO ?aB ?aS ?aL ?_; (case aP => exact k105_mkM _ _ _ (⟨x10_3, y118⟩ : S105) (Kd.R_mono (Kd.R_types (Kd.R_apart' (HO120.out) (Kd.Q_typed HO_7.out) (by decide)) BK108.out (by decide)) (fun k_ hk => ⟨hk.2, hk.1.2⟩))); (case aB => exact (by repeat (first | (with_reducible first | exact HB.out | apply below_alloc | apply pw_below_drewN | apply below_drew1 | refine below_set ?_ GE101.out | refine below_set ?_ GE103.out | refine below_set ?_ GE108.out) | exact HB.out))); (case aF => exact (fun k_ hk => Kd.freshB (g := gb108) (o := .cells #[.int .i64 ((rd_T105 x7_1 0).f0), .slice A107_1 ((rd_T105 x7_1 0).f1).length c107_1] 105 (0, 0)) (by (with_reducible repeat (first | refine blk_drewN ?_ _ | refine blk_drew ?_ | refine blk_alloc ?_ _)); exact BK108.out) k_ hk)); (case aO => exact (by (with_reducible repeat (first | apply Kd.Q_alloc | apply Kd.Q_drewN | apply Kd.Q_drew)); exact Kd.Q_mono HO_7.out (fun _ hk => hk.1))); (case aS => exact (below_size (by repeat (first | (with_reducible first | exact HB.out | apply below_alloc | apply pw_below_drewN | apply below_drew1 | refine below_set ?_ GE101.out | refine below_set ?_ GE103.out | refine below_set ?_ GE108.out) | exact HB.out)))); (case aL => have := LMc57.out; omega); intro v122 w65 ho hb hg hat; rw [← Ny121.out] at ho; have n0_ := Aside0.mk (blk_grown (g := gb101) (o := .cells #[.int .i64 a0_0, .int .i64 a0_1, .slice A0_2 l0_2.length c0_2, .slice A0_3 l0_3.length c0_3] 25 (0, 0)) (by (with_reducible repeat (first | refine blk_drewN ?_ _ | refine blk_drew ?_ | refine blk_alloc ?_ _)); exact BK101.out) hg (Kd.Q_ne HO_7.out BK101.out (by decide))); have n1_ := Aside0.mk (blk_grown (g := gb103) (o := mObj (Value.int .i64) (Value.int .i64) y114) (by (with_reducible repeat (first | refine blk_drewN ?_ _ | refine blk_drew ?_ | refine blk_alloc ?_ _)); exact MK103.out) hg (Q_neM HO_7.out MK103.out)); have n2_ := Aside0.mk (blk_grown (g := gb108) (o := .cells #[.int .i64 ((rd_T105 x7_1 0).f0), .slice A107_1 ((rd_T105 x7_1 0).f1).length c107_1] 105 (0, 0)) (by (with_reducible repeat (first | refine blk_drewN ?_ _ | refine blk_drew ?_ | refine blk_alloc ?_ _)); exact BK108.out) hg (Kd.Q_away HO_7.out (fun _ hk => hk.1))); have n3_ := Aside0.mk (Kd.R_after (ok := (fun k_ => some k_ ≠ (.slice Ao64 y118.length co64 : Value).ownBlock)) (by (with_reducible repeat (first | apply Kd.R_alloc | apply Kd.R_drewN | apply Kd.R_drew)); exact Kd.R_mono HL107_1.out (fun _ hk => ⟨hk.2, hk.1⟩)) hg hat); have n4_ := Aside0.mk (hb); have n5_ := Aside0.mk ((Kd.R_reads' n3_.out).2.2); have n6_ := Aside0.mk (ho); clear BK101; clear MK103; clear BK108; clear HL107_1; clear HB; clear HR107_1; clear HO_7; clear HO120; have BK101 := n0_; have MK103 := n1_; have BK108 := n2_; have HL107_1 := n3_; have HB := n4_; have HR107_1 := n5_; have HO123 := n6_; clear n0_ n1_ n2_ n3_ n4_ n5_ n6_; clear ho hb hg hat))
   go_roundg k3
   case measure => have := HK1.out; have := HK2.out; have := HK3.out; omega
   case rel => exact ⟨(y121), (wrap64 (x49_2 + 1)), (y114), (by first | rfl | (simp; done) | (simp [*]; done)), H', ⟨by have := HK1.out; have := HK2.out; have := HK3.out; omega⟩, ⟨by (with_reducible repeat (first | apply Kd.Q_alloc | apply Kd.Q_drewN | apply Kd.Q_drew)); exact HO123.out⟩, ⟨by (with_reducible repeat (first | refine blk_drewN ?_ _ | refine blk_drew ?_ | refine blk_alloc ?_ _)); exact BK101.out⟩, ⟨by (with_reducible repeat (first | refine blk_drewN ?_ _ | refine blk_drew ?_ | refine blk_alloc ?_ _)); exact MK103.out⟩, ⟨by (with_reducible repeat (first | refine blk_drewN ?_ _ | refine blk_drew ?_ | refine blk_alloc ?_ _)); exact BK108.out⟩, ⟨by (with_reducible repeat (first | apply Kd.R_alloc | apply Kd.R_drewN | apply Kd.R_drew)); exact Kd.R_mono HL107_1.out (fun _ hk => hk.2)⟩, ⟨by repeat (first | (with_reducible exact HR107_1.out) | (with_reducible refine Kd.C_alloc ?_ _) | (with_reducible refine Kd.C_drewN ?_ _) | (with_reducible refine Kd.C_drew ?_) | exact HR107_1.out)⟩, ⟨by repeat (first | (with_reducible first | exact HB.out | apply below_alloc | apply pw_below_drewN | apply below_drew1 | refine below_set ?_ GE101.out | refine below_set ?_ GE103.out | refine below_set ?_ GE108.out) | exact HB.out)⟩⟩
  ·rw [if_neg c57] at H
   exact absurd H (by simp)
 ·rw [if_neg c56] at H
  exact absurd H (by simp))
    ·(
 rw [if_neg c54] at H
 have c54b0 : ((mget x104000_2 x10_3 0) == 0) = false := beq_eq_false_iff_ne.mpr c54
 have c54b1 : ((mget x104000_2 x10_3 0) != 0) = true := bne_iff_ne.mpr c54
 have H' := Aside0.mk H
 clear H
 go_wp2_with (first | ((with_reducible refine gate_dst (N := 76) rfl ?_); refine mlook_event (t := 103) (kt := 3) (vt := 3) (g := gb103) (mkey_int Try.underlying3) Try.underlying103 0 (fun _ => by kernel_rfl) (ev := (Value.int .i64)) (m := x104000_2) x10_3 (show _ = some (mObj (Value.int .i64) (Value.int .i64) x104000_2) from by (with_reducible repeat (first | refine blk_drewN ?_ _ | refine blk_drew ?_ | refine blk_alloc ?_ _)); exact MK103.out) rfl ?hg ?hm ?hk ?_; (case hg => rfl); (case hm => rfl); (case hk => first | rfl | (go_simp; done) | (go_simp; rfl))))
 go_roundg k3
 case measure => have := HK1.out; have := HK2.out; have := HK3.out; omega
 case rel => exact ⟨(x7_2), (wrap64 (x49_2 + 1)), (x104000_2), (by first | rfl | (simp; done) | (simp [*]; done)), H', ⟨by have := HK1.out; have := HK2.out; have := HK3.out; omega⟩, ⟨by (with_reducible repeat (first | apply Kd.Q_alloc | apply Kd.Q_drewN | apply Kd.Q_drew)); exact HO_7.out⟩, ⟨by (with_reducible repeat (first | refine blk_drewN ?_ _ | refine blk_drew ?_ | refine blk_alloc ?_ _)); exact BK101.out⟩, ⟨by (with_reducible repeat (first | refine blk_drewN ?_ _ | refine blk_drew ?_ | refine blk_alloc ?_ _)); exact MK103.out⟩, ⟨by (with_reducible repeat (first | refine blk_drewN ?_ _ | refine blk_drew ?_ | refine blk_alloc ?_ _)); exact BK108.out⟩, ⟨by (with_reducible repeat (first | apply Kd.R_alloc | apply Kd.R_drewN | apply Kd.R_drew)); exact HL107_1.out⟩, ⟨by repeat (first | (with_reducible exact HR107_1.out) | (with_reducible refine Kd.C_alloc ?_ _) | (with_reducible refine Kd.C_drewN ?_ _) | (with_reducible refine Kd.C_drew ?_) | exact HR107_1.out)⟩, ⟨by repeat (first | (with_reducible first | exact HB.out | apply below_alloc | apply pw_below_drewN | apply below_drew1 | refine below_set ?_ GE101.out | refine below_set ?_ GE103.out | refine below_set ?_ GE108.out) | exact HB.out)⟩⟩))
     ·(
 rw [if_neg c34] at H
 have c34b0 : decide (x49_2 < a0_0) = false := decide_eq_false c34
 clear c34
 by_cases c66 : 1 ≤ (x7_2.length : Int)
 ·rw [if_pos c66] at H
  have c66b0 := eq_true c66
  have c66b1 : decide (1 ≤ (x7_2.length : Int)) = true := decide_eq_true c66
  clear c66
  obtain ⟨y109, hy109⟩ : ∃ y_ : List (S105), y_ = (x7_2.drop (1 : Int).toNat) := ⟨_, rfl⟩
  replace H : (code_Sync.l0 k2 y109 a0_0 a0_1 l0_2 l0_3 x104000_2) = some (r1, r2, r3) := by first | (rw [hy109]; with_reducible exact H) | (have H2_ := (Option.bind_some _ _).symm.trans H; rw [hy109]; with_reducible exact H2_) | (have H2_ := (Option.bind_some _ _).symm.trans H; with_reducible exact H2_) | with_reducible exact H | (rw [hy109]; exact H) | exact H
  have Ny109 := Aside0.mk hy109
  clear hy109
  have H' := Aside0.mk H
  clear H
  obtain ⟨Ao67, co67, eo67, _⟩ := Kd.Q_slice HO_7.out
  subst eo67
  have q68 : (1 : Int) ≤ ((x7_2.length : Int) : Int) := of_decide_eq_true (by first | (with_reducible assumption) | assumption)
  obtain ⟨i068, hi068, _, hsz68, _⟩ := info_parts info105
  have hcut68 := cut_from (P := Try.prog) 106 105 .i64 Try.underlying106 hi068 2 hsz68 Ao67 x7_2.length co67 1 (by omega) q68
  have hr68 := Kd.Q_drop (k := (1 : Int).toNat) HO_7.out (by omega)
  obtain ⟨A68, hA68⟩ : ∃ A1, A1 = (if co67 = (1 : Int).toNat then Ao67 else (Ao67 : Option Addr).map (·.add ((1 : Int).toNat * 2))) := ⟨_, rfl⟩
  obtain ⟨c68, hc68⟩ : ∃ c1, c1 = co67 - (1 : Int).toNat := ⟨_, rfl⟩
  have hy68 : y109.length = x7_2.length - (1 : Int).toNat := (by rw [Ny109.out, List.length_drop])
  rw [← Ny109.out] at hr68
  rw [← hy68, ← hA68, ← hc68] at hcut68
  replace hr68 : Kd.Q k105 105 wr w.heap.size (fun k_ => k_ ≠ gb108) (.slice A68 y109.length c68) y109 := (by rw [hA68, hc68, hy68]; exact hr68)
  have HE68 : Aside0 ((Value.slice A68 y109.length c68).ownBlock = (.slice Ao67 x7_2.length co67 : Value).ownBlock) := ⟨by rw [hA68]; split <;> (cases (Ao67 : Option Addr) <;> rfl)⟩
  clear hy68 hi068 hsz68 HO_7 hA68 hc68
  have HO111 := Aside0.mk hr68
  clear hr68
  replace q68 := eq_true q68
  have n_ := Aside0.mk (Kd.R_mono (ok' := fun k_ => some k_ ≠ (.slice A68 y109.length c68 : Value).ownBlock) HL107_1.out (fun k_ hk => (by rw [HE68.out]; exact hk)))
  clear HL107_1
  have HL107_1 := n_
  clear n_
  go_wp2
  go_roundg k2
  case measure => have := HK1.out; have := HK2.out; omega
  case rel => exact ⟨(y109), (x104000_2), H', ⟨by have := HK1.out; have := HK2.out; omega⟩, ⟨by (with_reducible repeat (first | apply Kd.Q_alloc | apply Kd.Q_drewN | apply Kd.Q_drew)); exact Kd.Q_mono HO111.out (fun _ hk => trivial)⟩, ⟨by (with_reducible repeat (first | refine blk_drewN ?_ _ | refine blk_drew ?_ | refine blk_alloc ?_ _)); exact BK101.out⟩, ⟨by (with_reducible repeat (first | refine blk_drewN ?_ _ | refine blk_drew ?_ | refine blk_alloc ?_ _)); exact MK103.out⟩, ⟨by repeat (first | (with_reducible first | exact HB.out | apply below_alloc | apply pw_below_drewN | apply below_drew1 | refine below_set ?_ GE101.out | refine below_set ?_ GE103.out | refine below_set ?_ GE108.out) | exact HB.out)⟩⟩
 ·rw [if_neg c66] at H
  exact absurd H (by simp))
 ·rw [if_neg c20] at H
  exact absurd H (by simp))
     ·(
 rw [if_neg c19] at H
 have c19b0 : decide (0 < (x7_1.length : Int)) = false := decide_eq_false c19
 have c19b1 : decide (0 < x7_1.length) = false := decide_eq_false (by omega)
 clear c19
 simp only [Option.some.injEq, Prod.mk.injEq] at H
 obtain ⟨rfl, rfl, rfl⟩ := H
 obtain ⟨Ao69, co69, eo69, _⟩ := Kd.Q_slice HO_7.out
 subst eo69
 go_wp2
 go_ret3
 exact ⟨_, by first | rfl | (simp [errW_none, errW_some] <;> rfl) | (simp only [← hji9]; first | rfl | (simp [errW_none, errW_some] <;> rfl)) | (simp [*, errW_none, errW_some] <;> rfl), by first | exact Kd.R_nil _ _ _ _ _ | exact Kd.N_nil _ _ _ _ _ | exact Kd.V_nil _ _ _ _ _ | exact Kd.Q_nil _ _ _ _ _ | exact Kd.S_nil _ _ _ _ _, by repeat (first | (with_reducible first | exact HB.out | apply below_alloc | apply pw_below_drewN | apply below_drew1 | refine below_set ?_ GE101.out | refine below_set ?_ GE103.out) | exact HB.out)⟩)
 ·rw [if_neg c3] at H
  have c3b0 : (t102 == 0) = false := beq_eq_false_iff_ne.mpr c3
  have c3b1 : (t102 != 0) = true := bne_iff_ne.mpr c3
  simp only [Option.some.injEq, Prod.mk.injEq] at H
  obtain ⟨rfl, rfl, rfl⟩ := H
  go_enter Try.func15, Try.ntmps15
  go_wp2_with (first | ((with_reducible refine gate_dst (N := 1) rfl ?_); refine box_event ?hg (N := 1) ?hd (cs := #[.int .i64 a0_0, .int .i64 a0_1, .slice A0_2 l0_2.length c0_2, .slice A0_3 l0_3.length c0_3]) (t := 25) ?hr ?_; (case hd => rfl); (case hg => rfl); (case hr => first | (go_simp; done) | (go_simp; rfl)); intro gb101 hg w70 hbox hb; have n0_ := Aside0.mk (below_step (by repeat (first | (with_reducible first | exact HB.out | apply below_alloc | apply pw_below_drewN | apply below_drew1) | exact HB.out)) hb); have n1_ := Aside0.mk (hbox); have n2_ := Aside0.mk ((by rw [hg]; exact (below_size (by repeat (first | (with_reducible first | exact HB.out | apply below_alloc | apply pw_below_drewN | apply below_drew1) | exact HB.out))) : w.heap.size ≤ gb101)); have n3_ := Aside0.mk ((by rw [hg]; exact (below_size (by repeat (first | (with_reducible first | exact HB.out | apply below_alloc | apply pw_below_drewN | apply below_drew1) | exact HB.out))) : w.heap.size ≤ gb101)); clear HB; have HB := n0_; have BK101 := n1_; have GW101 := n2_; have GE101 := n3_; clear n0_ n1_ n2_ n3_; clear hb hbox hg; have hcz71_0 : w70.cell? ⟨gb101, 0, none⟩ = some (.int .i64 a0_0) := (blk_cell BK101.out 0).trans rfl; have hcz71_1 : w70.cell? ⟨gb101, 1, none⟩ = some (.int .i64 a0_1) := (blk_cell BK101.out 1).trans rfl; have hcz71_2 : w70.cell? ⟨gb101, 2, none⟩ = some (.slice A0_2 l0_2.length c0_2) := (blk_cell BK101.out 2).trans rfl; have hcz71_3 : w70.cell? ⟨gb101, 3, none⟩ = some (.slice A0_3 l0_3.length c0_3) := (blk_cell BK101.out 3).trans rfl; have hfz71_0 := blk_frozen BK101.out 0; have hfz71_1 := blk_frozen BK101.out 1; have hfz71_2 := blk_frozen BK101.out 2; have hfz71_3 := blk_frozen BK101.out 3) | ((with_reducible refine gate_callee (f := 67) rfl ?_); refine goesL_ (some 14) rfl rfl Try.func67 (by kernel_rfl) rfl #[.agg #[.int .i64 a0_0, .int .i64 a0_1, .slice A0_2 l0_2.length c0_2, .slice A0_3 l0_3.length c0_3]] rfl (by (try simp only [List.map_toArray, List.map_cons, List.map_nil]); first | done | rfl | (simp only [List.length_drop, List.length_take]; rfl)) ?_; (with_reducible refine (det_Check.calls a0_0 a0_1 _ _ l0_2 _ _ l0_3 t102 _ ?side1 ?side2 ?side3 ?side4 A2.out).mono ?_); (case side1 => repeat (first | exact (Kd.C_below HR0_2.out HB.out) | (with_reducible refine Kd.C_alloc ?_ _) | (with_reducible refine Kd.C_drewN ?_ _) | (with_reducible refine Kd.C_drew ?_))); (case side2 => exact HC0_2.out); (case side3 => repeat (first | exact (Kd.C_below HR0_3.out HB.out) | (with_reducible refine Kd.C_alloc ?_ _) | (with_reducible refine Kd.C_drewN ?_ _) | (with_reducible refine Kd.C_drew ?_))); (case side4 => exact HC0_3.out); rintro e w72 ⟨rfl, hb⟩; refine ⟨_, rfl, ?_⟩; have n0_ := Aside0.mk (blk_below (g := gb101) (o := .cells #[.int .i64 a0_0, .int .i64 a0_1, .slice A0_2 l0_2.length c0_2, .slice A0_3 l0_3.length c0_3] 25 (0, 0)) (by (with_reducible repeat (first | refine blk_drewN ?_ _ | refine blk_drew ?_ | refine blk_alloc ?_ _)); exact BK101.out) hb); have n1_ := Aside0.mk (below_step (by repeat (first | (with_reducible first | exact HB.out | apply below_alloc | apply pw_below_drewN | apply below_drew1 | refine below_set ?_ GE101.out) | exact HB.out)) hb); clear BK101; clear HB; have BK101 := n0_; have HB := n1_; clear n0_ n1_; (try clear hb); (try clear hb2); (try clear hk); (try clear hi)))
  go_ret3
  exact ⟨_, by first | rfl | (simp [errW_none, errW_some] <;> rfl) | (simp [*, errW_none, errW_some] <;> rfl), by first | exact Kd.R_nil _ _ _ _ _ | exact Kd.N_nil _ _ _ _ _ | exact Kd.V_nil _ _ _ _ _ | exact Kd.Q_nil _ _ _ _ _ | exact Kd.S_nil _ _ _ _ _, by repeat (first | (with_reducible first | exact HB.out | apply below_alloc | apply pw_below_drewN | apply below_drew1 | refine below_set ?_ GE101.out) | exact HB.out)⟩

end Go.Proofs.Ytaaibckhpbmbeaa.PCodeSync
