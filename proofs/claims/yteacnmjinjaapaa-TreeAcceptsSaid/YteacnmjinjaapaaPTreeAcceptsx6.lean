-- Printed over the kit's print by a program of this session (wip/hprint.py), with contracts of its own hand.
import Derived.Test.YteacnmjinjaapaaPTreeAcceptsx0
import Derived.Test.YteacnmjinjaapaaPTreeAcceptsx5
namespace Go.Proofs.Yteacnmjinjaapaa.PTreeAccepts
open Go.RowKit Go.Proofs.YteacnmjinjaapaaW.PrintWords Go.Proofs.YteacnmjinjaapaaW.PrintLast Go.Proofs.YteacnmjinjaapaaW.PrintMore
attribute [local go_sem] max2_int min2_int max_two min_two max_three min_three max_four min_four   -- for this text's walks alone
set_option linter.unusedVariables false
set_option linter.unusedSimpArgs false

/-! ### tree_Tree: function 35 -/
mutual
def tree_Tree.j0 : Nat → Int → Bool → List (S162) → Option (Int)
 | 0, _, _, _ => none
 | k + 1, x0, x16, x150000 => if x16 = true then (some 2) else (if (x150000.length : Int) < 1 then (tree_Tree.j1 k x0 (x150000.length : Int) true x150000) else (tree_Tree.j1 k x0 (x150000.length : Int) (decide ((x150000.length : Int) > 60)) x150000))
def tree_Tree.j1 : Nat → Int → Int → Bool → List (S162) → Option (Int)
 | 0, _, _, _, _ => none
 | k + 1, x0, x5, x25, x150000 => if x25 = true then (some 1) else (if 0 ≤ x5 then (if (x5 : Int).toNat ≤ 281474976710656 then (tree_Tree.l0 k x0 x5 (List.replicate (x5 : Int).toNat false) x150000 (x150000.length : Int) 0) else (none)) else (none))
def tree_Tree.l0 : Nat → Int → Int → List Bool → List (S162) → Int → Int → Option (Int)
 | 0, _, _, _, _, _, _ => none
 | k + 1, x0, x5, x6, x29, x30, x31 => if x31 < x30 then (if 0 ≤ x31 then (if x31 < (x29.length : Int) then (if ((rd_T162 x29 x31).f0) < 0 then (tree_Tree.j3 k x0 x5 x6 x31 x29 x30 x31 true ((rd_T162 x29 x31).f0) ((rd_T162 x29 x31).f1) ((rd_T162 x29 x31).f2)) else (tree_Tree.j3 k x0 x5 x6 x31 x29 x30 x31 (decide (((rd_T162 x29 x31).f0) ≥ x0)) ((rd_T162 x29 x31).f0) ((rd_T162 x29 x31).f1) ((rd_T162 x29 x31).f2))) else (none)) else (none)) else (if 0 ≤ (wrap64 (x5 - 1)) then (if (wrap64 (x5 - 1)) ≤ (x6.length : Int) then ((slices_Contains_bool_bool.f k (x6.take ((wrap64 (x5 - 1)) : Int).toNat) false).bind fun t157 => (if t157 = true then (some 3) else (some 0))) else (none)) else (none))
def tree_Tree.j3 : Nat → Int → Int → List Bool → Int → List (S162) → Int → Int → Bool → Int → Int → Int → Option (Int)
 | 0, _, _, _, _, _, _, _, _, _, _, _ => none
 | k + 1, x0, x5, x6, x7, x29, x30, x31, x44, x160000, x160001, x160002 => if x44 = true then (some 2) else (if x160001 = (-1) then (tree_Tree.j4 k x0 x5 x6 x7 x29 x30 x31 (x160002 == (-1)) x160000 x160001 x160002) else (tree_Tree.j4 k x0 x5 x6 x7 x29 x30 x31 false x160000 x160001 x160002))
def tree_Tree.j4 : Nat → Int → Int → List Bool → Int → List (S162) → Int → Int → Bool → Int → Int → Int → Option (Int)
 | 0, _, _, _, _, _, _, _, _, _, _, _ => none
 | k + 1, x0, x5, x6, x7, x29, x30, x31, x52, x160000, x160001, x160002 => if x52 = true then (tree_Tree.l0 k x0 x5 x6 x29 x30 (wrap64 (x31 + 1))) else ((some (([x160001, x160002] : List Int) : List Int)).bind fun y160 => (tree_Tree.l1 k x0 x5 x6 x7 x29 x30 x31 y160 (y160.length : Int) 0))
def tree_Tree.l1 : Nat → Int → Int → List Bool → Int → List (S162) → Int → Int → List Int → Int → Int → Option (Int)
 | 0, _, _, _, _, _, _, _, _, _, _ => none
 | k + 1, x0, x5, x6, x7, x29, x30, x31, x57, x58, x59 => if x59 < x58 then (if 0 ≤ x59 then (if x59 < (x57.length : Int) then (if (rd x57 x59) < 0 then (some 3) else (if (rd x57 x59) ≥ x7 then (some 3) else (if 0 ≤ (rd x57 x59) then (if (rd x57 x59) < (x6.length : Int) then (if rdOf false x6 (rd x57 x59) = true then (some 3) else (tree_Tree.l1 k x0 x5 (x6.set ((rd x57 x59) : Int).toNat true) x7 x29 x30 x31 x57 x58 (wrap64 (x59 + 1)))) else (none)) else (none)))) else (none)) else (none)) else (tree_Tree.l0 k x0 x5 x6 x29 x30 (wrap64 (x31 + 1)))
end
def tree_Tree.f (k : Nat) (a0 : Int) (l1_0 : List (S162)) : Option (Int) := if a0 < 1 then (tree_Tree.j0 k a0 true l1_0) else (tree_Tree.j0 k a0 (decide (a0 > 4)) l1_0)
theorem tree_Tree.mono_l : ∀ k, (∀ y0 y1 y2, LeO (tree_Tree.j0 k y0 y1 y2) (tree_Tree.j0 (k + 1) y0 y1 y2)) ∧ (∀ y0 y1 y2 y3, LeO (tree_Tree.j1 k y0 y1 y2 y3) (tree_Tree.j1 (k + 1) y0 y1 y2 y3)) ∧ (∀ y0 y1 y2 y3 y4 y5, LeO (tree_Tree.l0 k y0 y1 y2 y3 y4 y5) (tree_Tree.l0 (k + 1) y0 y1 y2 y3 y4 y5)) ∧ (∀ y0 y1 y2 y3 y4 y5 y6 y7 y8 y9 y10, LeO (tree_Tree.j3 k y0 y1 y2 y3 y4 y5 y6 y7 y8 y9 y10) (tree_Tree.j3 (k + 1) y0 y1 y2 y3 y4 y5 y6 y7 y8 y9 y10)) ∧ (∀ y0 y1 y2 y3 y4 y5 y6 y7 y8 y9 y10, LeO (tree_Tree.j4 k y0 y1 y2 y3 y4 y5 y6 y7 y8 y9 y10) (tree_Tree.j4 (k + 1) y0 y1 y2 y3 y4 y5 y6 y7 y8 y9 y10)) ∧ (∀ y0 y1 y2 y3 y4 y5 y6 y7 y8 y9, LeO (tree_Tree.l1 k y0 y1 y2 y3 y4 y5 y6 y7 y8 y9) (tree_Tree.l1 (k + 1) y0 y1 y2 y3 y4 y5 y6 y7 y8 y9))
 | 0 => ⟨fun _ _ _ r h => by simp [tree_Tree.j0] at h, fun _ _ _ _ r h => by simp [tree_Tree.j1] at h, fun _ _ _ _ _ _ r h => by simp [tree_Tree.l0] at h, fun _ _ _ _ _ _ _ _ _ _ _ r h => by simp [tree_Tree.j3] at h, fun _ _ _ _ _ _ _ _ _ _ _ r h => by simp [tree_Tree.j4] at h, fun _ _ _ _ _ _ _ _ _ _ r h => by simp [tree_Tree.l1] at h⟩
 | k + 1 => by
  obtain ⟨ih0, ih1, ih2, ih3, ih4, ih5⟩ := tree_Tree.mono_l k
  refine ⟨?_, ?_, ?_, ?_, ?_, ?_⟩
  ·intro y0 y1 y2
   unfold tree_Tree.j0
   repeat' first
   | (with_reducible exact ih0 _ _ _)
   | (with_reducible exact ih1 _ _ _ _)
   | (with_reducible exact ih2 _ _ _ _ _ _)
   | (with_reducible exact ih3 _ _ _ _ _ _ _ _ _ _ _)
   | (with_reducible exact ih4 _ _ _ _ _ _ _ _ _ _ _)
   | (with_reducible exact ih5 _ _ _ _ _ _ _ _ _ _)
   | (with_reducible exact slices_Contains_bool_bool.mono _ _ _)
   | (with_reducible exact LeO.refl _)
   | (with_reducible exact LeO.none _)
   | (with_reducible refine LeO.ite ?_ ?_)
   | (with_reducible refine LeO.bind ?_ (fun _ => ?_))
   | exact ih0 _ _ _
   | exact ih1 _ _ _ _
   | exact ih2 _ _ _ _ _ _
   | exact ih3 _ _ _ _ _ _ _ _ _ _ _
   | exact ih4 _ _ _ _ _ _ _ _ _ _ _
   | exact ih5 _ _ _ _ _ _ _ _ _ _
   | exact slices_Contains_bool_bool.mono _ _ _
   | exact LeO.none _
   | refine LeO.ite ?_ ?_
   | refine LeO.bind ?_ (fun _ => ?_)
  ·intro y0 y1 y2 y3
   unfold tree_Tree.j1
   repeat' first
   | (with_reducible exact ih0 _ _ _)
   | (with_reducible exact ih1 _ _ _ _)
   | (with_reducible exact ih2 _ _ _ _ _ _)
   | (with_reducible exact ih3 _ _ _ _ _ _ _ _ _ _ _)
   | (with_reducible exact ih4 _ _ _ _ _ _ _ _ _ _ _)
   | (with_reducible exact ih5 _ _ _ _ _ _ _ _ _ _)
   | (with_reducible exact slices_Contains_bool_bool.mono _ _ _)
   | (with_reducible exact LeO.refl _)
   | (with_reducible exact LeO.none _)
   | (with_reducible refine LeO.ite ?_ ?_)
   | (with_reducible refine LeO.bind ?_ (fun _ => ?_))
   | exact ih0 _ _ _
   | exact ih1 _ _ _ _
   | exact ih2 _ _ _ _ _ _
   | exact ih3 _ _ _ _ _ _ _ _ _ _ _
   | exact ih4 _ _ _ _ _ _ _ _ _ _ _
   | exact ih5 _ _ _ _ _ _ _ _ _ _
   | exact slices_Contains_bool_bool.mono _ _ _
   | exact LeO.none _
   | refine LeO.ite ?_ ?_
   | refine LeO.bind ?_ (fun _ => ?_)
  ·intro y0 y1 y2 y3 y4 y5
   unfold tree_Tree.l0
   repeat' first
   | (with_reducible exact ih0 _ _ _)
   | (with_reducible exact ih1 _ _ _ _)
   | (with_reducible exact ih2 _ _ _ _ _ _)
   | (with_reducible exact ih3 _ _ _ _ _ _ _ _ _ _ _)
   | (with_reducible exact ih4 _ _ _ _ _ _ _ _ _ _ _)
   | (with_reducible exact ih5 _ _ _ _ _ _ _ _ _ _)
   | (with_reducible exact slices_Contains_bool_bool.mono _ _ _)
   | (with_reducible exact LeO.refl _)
   | (with_reducible exact LeO.none _)
   | (with_reducible refine LeO.ite ?_ ?_)
   | (with_reducible refine LeO.bind ?_ (fun _ => ?_))
   | exact ih0 _ _ _
   | exact ih1 _ _ _ _
   | exact ih2 _ _ _ _ _ _
   | exact ih3 _ _ _ _ _ _ _ _ _ _ _
   | exact ih4 _ _ _ _ _ _ _ _ _ _ _
   | exact ih5 _ _ _ _ _ _ _ _ _ _
   | exact slices_Contains_bool_bool.mono _ _ _
   | exact LeO.none _
   | refine LeO.ite ?_ ?_
   | refine LeO.bind ?_ (fun _ => ?_)
  ·intro y0 y1 y2 y3 y4 y5 y6 y7 y8 y9 y10
   unfold tree_Tree.j3
   repeat' first
   | (with_reducible exact ih0 _ _ _)
   | (with_reducible exact ih1 _ _ _ _)
   | (with_reducible exact ih2 _ _ _ _ _ _)
   | (with_reducible exact ih3 _ _ _ _ _ _ _ _ _ _ _)
   | (with_reducible exact ih4 _ _ _ _ _ _ _ _ _ _ _)
   | (with_reducible exact ih5 _ _ _ _ _ _ _ _ _ _)
   | (with_reducible exact slices_Contains_bool_bool.mono _ _ _)
   | (with_reducible exact LeO.refl _)
   | (with_reducible exact LeO.none _)
   | (with_reducible refine LeO.ite ?_ ?_)
   | (with_reducible refine LeO.bind ?_ (fun _ => ?_))
   | exact ih0 _ _ _
   | exact ih1 _ _ _ _
   | exact ih2 _ _ _ _ _ _
   | exact ih3 _ _ _ _ _ _ _ _ _ _ _
   | exact ih4 _ _ _ _ _ _ _ _ _ _ _
   | exact ih5 _ _ _ _ _ _ _ _ _ _
   | exact slices_Contains_bool_bool.mono _ _ _
   | exact LeO.none _
   | refine LeO.ite ?_ ?_
   | refine LeO.bind ?_ (fun _ => ?_)
  ·intro y0 y1 y2 y3 y4 y5 y6 y7 y8 y9 y10
   unfold tree_Tree.j4
   repeat' first
   | (with_reducible exact ih0 _ _ _)
   | (with_reducible exact ih1 _ _ _ _)
   | (with_reducible exact ih2 _ _ _ _ _ _)
   | (with_reducible exact ih3 _ _ _ _ _ _ _ _ _ _ _)
   | (with_reducible exact ih4 _ _ _ _ _ _ _ _ _ _ _)
   | (with_reducible exact ih5 _ _ _ _ _ _ _ _ _ _)
   | (with_reducible exact slices_Contains_bool_bool.mono _ _ _)
   | (with_reducible exact LeO.refl _)
   | (with_reducible exact LeO.none _)
   | (with_reducible refine LeO.ite ?_ ?_)
   | (with_reducible refine LeO.bind ?_ (fun _ => ?_))
   | exact ih0 _ _ _
   | exact ih1 _ _ _ _
   | exact ih2 _ _ _ _ _ _
   | exact ih3 _ _ _ _ _ _ _ _ _ _ _
   | exact ih4 _ _ _ _ _ _ _ _ _ _ _
   | exact ih5 _ _ _ _ _ _ _ _ _ _
   | exact slices_Contains_bool_bool.mono _ _ _
   | exact LeO.none _
   | refine LeO.ite ?_ ?_
   | refine LeO.bind ?_ (fun _ => ?_)
  ·intro y0 y1 y2 y3 y4 y5 y6 y7 y8 y9
   unfold tree_Tree.l1
   repeat' first
   | (with_reducible exact ih0 _ _ _)
   | (with_reducible exact ih1 _ _ _ _)
   | (with_reducible exact ih2 _ _ _ _ _ _)
   | (with_reducible exact ih3 _ _ _ _ _ _ _ _ _ _ _)
   | (with_reducible exact ih4 _ _ _ _ _ _ _ _ _ _ _)
   | (with_reducible exact ih5 _ _ _ _ _ _ _ _ _ _)
   | (with_reducible exact slices_Contains_bool_bool.mono _ _ _)
   | (with_reducible exact LeO.refl _)
   | (with_reducible exact LeO.none _)
   | (with_reducible refine LeO.ite ?_ ?_)
   | (with_reducible refine LeO.bind ?_ (fun _ => ?_))
   | exact ih0 _ _ _
   | exact ih1 _ _ _ _
   | exact ih2 _ _ _ _ _ _
   | exact ih3 _ _ _ _ _ _ _ _ _ _ _
   | exact ih4 _ _ _ _ _ _ _ _ _ _ _
   | exact ih5 _ _ _ _ _ _ _ _ _ _
   | exact slices_Contains_bool_bool.mono _ _ _
   | exact LeO.none _
   | refine LeO.ite ?_ ?_
   | refine LeO.bind ?_ (fun _ => ?_)
theorem tree_Tree.mono : ∀ a0 a1 k, LeO (tree_Tree.f k a0 a1) (tree_Tree.f (k + 1) a0 a1) := by
 intro a0 a1 k
 obtain ⟨ih0, ih1, ih2, ih3, ih4, ih5⟩ := tree_Tree.mono_l k
 unfold tree_Tree.f
 repeat' first
   | (with_reducible exact ih0 _ _ _)
   | (with_reducible exact ih1 _ _ _ _)
   | (with_reducible exact ih2 _ _ _ _ _ _)
   | (with_reducible exact ih3 _ _ _ _ _ _ _ _ _ _ _)
   | (with_reducible exact ih4 _ _ _ _ _ _ _ _ _ _ _)
   | (with_reducible exact ih5 _ _ _ _ _ _ _ _ _ _)
   | (with_reducible exact slices_Contains_bool_bool.mono _ _ _)
   | (with_reducible exact LeO.refl _)
   | (with_reducible exact LeO.none _)
   | (with_reducible refine LeO.ite ?_ ?_)
   | (with_reducible refine LeO.bind ?_ (fun _ => ?_))
   | exact ih0 _ _ _
   | exact ih1 _ _ _ _
   | exact ih2 _ _ _ _ _ _
   | exact ih3 _ _ _ _ _ _ _ _ _ _ _
   | exact ih4 _ _ _ _ _ _ _ _ _ _ _
   | exact ih5 _ _ _ _ _ _ _ _ _ _
   | exact slices_Contains_bool_bool.mono _ _ _
   | exact LeO.none _
   | refine LeO.ite ?_ ?_
   | refine LeO.bind ?_ (fun _ => ?_)
set_option maxHeartbeats 8000000 in
set_option maxRecDepth 100000 in
theorem tree_Tree.calls (k : Nat) (a0 : Int) (A1_0 : Option Addr) (c1_0 : Nat) (l1_0 : List (S162)) (r : Int) (w : World) (hr1_0 : Kd.C k162 w A1_0 l1_0.length l1_0) (hc1_0 : l1_0.length ≤ c1_0) (h : tree_Tree.f k a0 l1_0 = some r) :
  Calls Try.prog 35 #[.int .i64 a0, .agg #[.slice A1_0 l1_0.length c1_0]] w fun e w' => e = .returned (.int .i64 r) ∧ Below w.heap.size w w' := by
 have hu59 := Try.underlying59
 have hu162 := Try.underlying162
 have HR1_0 := Aside0.mk hr1_0
 have HC1_0 := Aside0.mk hc1_0
 clear hr1_0 hc1_0
 have HB := Aside0.mk (Below.refl w.heap.size w)
 have H : (if a0 < 1 then (tree_Tree.j0 k a0 true l1_0) else (tree_Tree.j0 k a0 (decide (a0 > 4)) l1_0)) = some r := h
 clear h
 have HC3 := Aside0.mk H
 clear H
 go_enter Try.func35, Try.ntmps35
 go_upto_region 1 with (first | ((with_reducible refine gate_dst (N := 3) rfl ?_); refine box_event ?hg (N := 3) ?hd (cs := #[.slice A1_0 l1_0.length c1_0]) (t := 59) ?hr ?_; (case hd => rfl); (case hg => rfl); (case hr => first | (go_simp; done) | (go_simp; rfl)); intro gb149 hg w4 hbox hb; have n0_ := Aside0.mk (below_step (by repeat (first | (with_reducible first | exact HB.out | apply below_alloc | apply pw_below_drewN | apply below_drew1) | exact HB.out)) hb); have n1_ := Aside0.mk (hbox); have n2_ := Aside0.mk ((by rw [hg]; exact (below_size (by repeat (first | (with_reducible first | exact HB.out | apply below_alloc | apply pw_below_drewN | apply below_drew1) | exact HB.out))) : w.heap.size ≤ gb149)); have n3_ := Aside0.mk ((by rw [hg]; exact (below_size (by repeat (first | (with_reducible first | exact HB.out | apply below_alloc | apply pw_below_drewN | apply below_drew1) | exact HB.out))) : w.heap.size ≤ gb149)); clear HB; have HB := n0_; have BK149 := n1_; have GW149 := n2_; have GE149 := n3_; clear n0_ n1_ n2_ n3_; clear hb hbox hg))
 (try simp only [Act.put, List.setIfInBounds_toArray, List.set_cons_zero, List.set_cons_succ])
 go_cut [16] (fun v16 wc => ∃ (kq : Nat) (x16_2 : Bool), v16 = .bool x16_2 ∧ Aside0 (tree_Tree.j0 kq a0 x16_2 l1_0 = some r) ∧ Aside0 (kq ≤ k) ∧ Aside0 (wc.heap[gb149]? = some (.cells #[(.slice A1_0 l1_0.length c1_0)] 59 (0, 0))) ∧ Aside0 (Below w.heap.size w wc))
 case first =>
  have H := HC3.out
  clear HC3
  by_cases c5 : a0 < 1
  ·rw [if_pos c5] at H
   have c5b0 : decide (a0 < 1) = true := decide_eq_true c5
   clear c5
   (first | rw [c5b0] | (simp only [i64_w, i32_w]; rw [c5b0]) | skip)
   have H' := Aside0.mk H
   clear H
   go_wp2
   go_meet
   case rel => exact ⟨_, (true), (by first | rfl | (simp; done) | (simp [*]; done)), H', ⟨by first | omega | exact Nat.le_refl _⟩, ⟨by (with_reducible repeat (first | refine blk_drewN ?_ _ | refine blk_drew ?_ | refine blk_alloc ?_ _)); exact BK149.out⟩, ⟨by repeat (first | (with_reducible first | exact HB.out | apply below_alloc | apply pw_below_drewN | apply below_drew1 | refine below_set ?_ GE149.out) | exact HB.out)⟩⟩
  ·rw [if_neg c5] at H
   have c5b0 : decide (a0 < 1) = false := decide_eq_false c5
   clear c5
   (first | rw [c5b0] | (simp only [i64_w, i32_w]; rw [c5b0]) | skip)
   have H' := Aside0.mk H
   clear H
   go_wp2
   go_meet
   case rel => exact ⟨_, (decide (a0 > 4)), (by first | rfl | (simp; done) | (simp [*]; done)), H', ⟨by first | omega | exact Nat.le_refl _⟩, ⟨by (with_reducible repeat (first | refine blk_drewN ?_ _ | refine blk_drew ?_ | refine blk_alloc ?_ _)); exact BK149.out⟩, ⟨by repeat (first | (with_reducible first | exact HB.out | apply below_alloc | apply pw_below_drewN | apply below_drew1 | refine below_set ?_ GE149.out) | exact HB.out)⟩⟩
 case rest =>
  clear HC3
  try clear c1
  try clear p2
  try clear c3
  try clear c5
  try clear c5b0
  obtain ⟨kq, x16_2, rfl, HA, HJ2, BK149, HB⟩ := hcut
  cases kq with
  | zero => exact absurd HA.out (by simp [tree_Tree.j0])
  | succ kj2 =>
   have H := HA.out
   clear HA
   simp only [tree_Tree.j0] at H
   by_cases c6 : x16_2 = true
   ·subst c6
    have H1 : (some 2) = some r := by rw [if_pos rfl] at H; exact H
    clear H
    have H := H1
    clear H1
    obtain rfl := Option.some.inj H
    go_wp2
    go_ret
    exact ⟨by first | rfl | (simp [errW_none, errW_some] <;> rfl) | (simp [*, errW_none, errW_some] <;> rfl), by repeat (first | (with_reducible first | exact HB.out | apply below_alloc | apply pw_below_drewN | apply below_drew1 | refine below_set ?_ GE149.out) | exact HB.out)⟩
   ·replace c6 := Bool.eq_false_iff.mpr c6
    subst c6
    have H1 : (if (l1_0.length : Int) < 1 then (tree_Tree.j1 kj2 a0 (l1_0.length : Int) true l1_0) else (tree_Tree.j1 kj2 a0 (l1_0.length : Int) (decide ((l1_0.length : Int) > 60)) l1_0)) = some r := by rw [if_neg (show ¬ (false = true) by decide)] at H; exact H
    clear H
    have H := H1
    clear H1
    have HC7 := Aside0.mk H
    clear H
    have hcz8_0 : wc.cell? ⟨gb149, 0, none⟩ = some (.slice A1_0 l1_0.length c1_0) := (blk_cell BK149.out 0).trans rfl
    have hfz8_0 := blk_frozen BK149.out 0
    go_upto_region 4 with (fail)
    go_cut [25] (fun v25 wc => ∃ (kq : Nat) (x25_6 : Bool), v25 = .bool x25_6 ∧ Aside0 (tree_Tree.j1 kq a0 (l1_0.length : Int) x25_6 l1_0 = some r) ∧ Aside0 (kq ≤ kj2) ∧ Aside0 (wc.heap[gb149]? = some (.cells #[(.slice A1_0 l1_0.length c1_0)] 59 (0, 0))) ∧ Aside0 (Below w.heap.size w wc))
    case first =>
     have H := HC7.out
     clear HC7
     by_cases c9 : (l1_0.length : Int) < 1
     ·(
 rw [if_pos c9] at H
 have c9b0 : decide ((l1_0.length : Int) < 1) = true := decide_eq_true c9
 have c9b1 : decide (l1_0.length < 1) = true := decide_eq_true (by omega)
 clear c9
 (first | rw [c9b0] | (simp only [i64_w, i32_w]; rw [c9b0]) | skip)
 have H' := Aside0.mk H
 clear H
 go_wp2
 go_meet
 case rel => exact ⟨_, (true), (by first | rfl | (simp; done) | (simp [*]; done)), H', ⟨by have := HJ2.out; first | omega | exact Nat.le_refl _⟩, ⟨by (with_reducible repeat (first | refine blk_drewN ?_ _ | refine blk_drew ?_ | refine blk_alloc ?_ _)); exact BK149.out⟩, ⟨by repeat (first | (with_reducible first | exact HB.out | apply below_alloc | apply pw_below_drewN | apply below_drew1 | refine below_set ?_ GE149.out) | exact HB.out)⟩⟩)
     ·(
 rw [if_neg c9] at H
 have c9b0 : decide ((l1_0.length : Int) < 1) = false := decide_eq_false c9
 have c9b1 : decide (l1_0.length < 1) = false := decide_eq_false (by omega)
 clear c9
 (first | rw [c9b0] | (simp only [i64_w, i32_w]; rw [c9b0]) | skip)
 have H' := Aside0.mk H
 clear H
 go_wp2
 go_meet
 case rel => exact ⟨_, (decide ((l1_0.length : Int) > 60)), (by first | rfl | (simp; done) | (simp [*]; done)), H', ⟨by have := HJ2.out; first | omega | exact Nat.le_refl _⟩, ⟨by (with_reducible repeat (first | refine blk_drewN ?_ _ | refine blk_drew ?_ | refine blk_alloc ?_ _)); exact BK149.out⟩, ⟨by repeat (first | (with_reducible first | exact HB.out | apply below_alloc | apply pw_below_drewN | apply below_drew1 | refine below_set ?_ GE149.out) | exact HB.out)⟩⟩)
    case rest =>
     clear HC7
     try clear c1
     try clear p2
     try clear c3
     try clear c5
     try clear c5b0
     try clear c6
     try clear c9
     try clear c9b0
     try clear c9b1
     try clear hcz8_0
     try clear hfz8_0
     try clear p2
     obtain ⟨kq, x25_6, rfl, HA, HJ6, BK149, HB⟩ := hcut
     cases kq with
     | zero => exact absurd HA.out (by simp [tree_Tree.j1])
     | succ kj6 =>
      have H := HA.out
      clear HA
      simp only [tree_Tree.j1] at H
      by_cases c10 : x25_6 = true
      ·(
 subst c10
 have H1 : (some 1) = some r := by rw [if_pos rfl] at H; exact H
 clear H
 have H := H1
 clear H1
 obtain rfl := Option.some.inj H
 go_wp2
 go_ret
 exact ⟨by first | rfl | (simp [errW_none, errW_some] <;> rfl) | (simp [*, errW_none, errW_some] <;> rfl), by repeat (first | (with_reducible first | exact HB.out | apply below_alloc | apply pw_below_drewN | apply below_drew1 | refine below_set ?_ GE149.out) | exact HB.out)⟩)
      ·(
 replace c10 := Bool.eq_false_iff.mpr c10
 subst c10
 have H1 : (if 0 ≤ (l1_0.length : Int) then (if ((l1_0.length : Int) : Int).toNat ≤ 281474976710656 then (tree_Tree.l0 kj6 a0 (l1_0.length : Int) (List.replicate ((l1_0.length : Int) : Int).toNat false) l1_0 (l1_0.length : Int) 0) else (none)) else (none)) = some r := by rw [if_neg (show ¬ (false = true) by decide)] at H; exact H
 clear H
 have H := H1
 clear H1
 by_cases c11 : 0 ≤ (l1_0.length : Int)
 ·rw [if_pos c11] at H
  have c11b0 := eq_true c11
  have c11b1 : decide (0 ≤ (l1_0.length : Int)) = true := decide_eq_true c11
  clear c11
  by_cases c12 : ((l1_0.length : Int) : Int).toNat ≤ 281474976710656
  ·rw [if_pos c12] at H
   have c12b0 := eq_true c12
   have c12b1 : decide (((l1_0.length : Int) : Int).toNat ≤ 281474976710656) = true := decide_eq_true c12
   clear c12
   obtain ⟨y150, hy150⟩ : ∃ y_ : List Bool, y_ = (List.replicate ((l1_0.length : Int) : Int).toNat false) := ⟨_, rfl⟩
   replace H : (tree_Tree.l0 kj6 a0 (l1_0.length : Int) y150 l1_0 (l1_0.length : Int) 0) = some r := by first | (rw [hy150]; with_reducible exact H) | (have H2_ := (Option.bind_some _ _).symm.trans H; rw [hy150]; with_reducible exact H2_) | (have H2_ := (Option.bind_some _ _).symm.trans H; with_reducible exact H2_) | with_reducible exact H | (rw [hy150]; exact H) | exact H
   have Ny150 := Aside0.mk hy150
   clear hy150
   have H' := Aside0.mk H
   clear H
   go_wp2_with (first | ((with_reducible refine gate_dst (N := 27) rfl ?_); refine Kd.R_make Kd.bool _ 4 rfl (N := 27) rfl 127 _ _ rfl (l1_0.length : Int) rfl rfl Try.underlying127 (.bool false) 1 info4 rfl (by decide) (by omega) false (ok := fun _ => True) (okp := fun _ => True) rfl (fun _ hk => hk) trivial (of_decide_eq_true (by first | (with_reducible assumption) | assumption)) (Nat.le_trans (Nat.mul_le_mul_right _ (of_decide_eq_true (by first | (with_reducible assumption) | assumption) : (l1_0.length : Int).toNat ≤ 281474976710656)) (by omega)) (Below.refl _ _) (Nat.le_refl _) ?_; intro v151 w13 ho14 hb hg_ hnew_; clear hg_ hnew_; (first | rw [← Ny150.out] at ho14 | (simp only [Int.reduceToNat] at ho14; rw [← Ny150.out] at ho14)); have n0_ := Aside0.mk (Kd.R_lower ho14 (below_size (by repeat (first | (with_reducible first | exact HB.out | apply below_alloc | apply pw_below_drewN | apply below_drew1 | refine below_set ?_ GE149.out) | exact HB.out)))); have n1_ := Aside0.mk (blk_below (g := gb149) (o := .cells #[.slice A1_0 l1_0.length c1_0] 59 (0, 0)) (by (with_reducible repeat (first | refine blk_drewN ?_ _ | refine blk_drew ?_ | refine blk_alloc ?_ _)); exact BK149.out) hb); have n2_ := Aside0.mk (below_step (by repeat (first | (with_reducible first | exact HB.out | apply below_alloc | apply pw_below_drewN | apply below_drew1 | refine below_set ?_ GE149.out) | exact HB.out)) hb); clear BK149; clear HB; have HO152 := n0_; have BK149 := n1_; have HB := n2_; clear n0_ n1_ n2_; clear hb ho14; have hcz15_0 : w13.cell? ⟨gb149, 0, none⟩ = some (.slice A1_0 l1_0.length c1_0) := (blk_cell BK149.out 0).trans rfl; have hfz15_0 := blk_frozen BK149.out 0))
   go_loopg [31] kj6 (fun kq v31 w' => ∃ (x6_3 : List Bool) (x31_3 : Int), v31 = .int .i64 x31_3 ∧ Aside0 (tree_Tree.l0 kq a0 (l1_0.length : Int) x6_3 l1_0 (l1_0.length : Int) x31_3 = some r) ∧ Aside0 (kq ≤ kj6) ∧ Aside0 (Kd.R Kd.bool 4 w' w.heap.size (fun _ => True) v151 x6_3) ∧ Aside0 (w'.heap[gb149]? = some (.cells #[(.slice A1_0 l1_0.length c1_0)] 59 (0, 0))) ∧ Aside0 (Below w.heap.size w w'))
   case atStart => exact ⟨(y150), (0), (by first | rfl | (simp; done) | (simp [*]; done)), H', ⟨Nat.le_refl _⟩, ⟨by (with_reducible repeat (first | apply Kd.R_alloc | apply Kd.R_drewN | apply Kd.R_drew)); exact HO152.out⟩, ⟨by (with_reducible repeat (first | refine blk_drewN ?_ _ | refine blk_drew ?_ | refine blk_alloc ?_ _)); exact BK149.out⟩, ⟨by repeat (first | (with_reducible first | exact HB.out | apply below_alloc | apply pw_below_drewN | apply below_drew1 | refine below_set ?_ GE149.out) | exact HB.out)⟩⟩
   case round =>
    clear H'
    try clear c1
    try clear p2
    try clear c3
    try clear c5
    try clear c5b0
    try clear c6
    try clear c9
    try clear c9b0
    try clear c9b1
    try clear c10
    try clear c11
    try clear c11b0
    try clear c11b1
    try clear c12
    try clear c12b0
    try clear c12b1
    try clear hcz15_0
    try clear hcz8_0
    try clear hfz15_0
    try clear hfz8_0
    try clear p2
    obtain ⟨x6_3, x31_3, rfl, HA, HK3, HO_6, BK149, HB⟩ := hrel
    cases gk with
    | zero => exact absurd HA.out (by simp [tree_Tree.l0])
    | succ k3 =>
     have H := HA.out
     clear HA
     simp only [tree_Tree.l0] at H
     by_cases c16 : x31_3 < (l1_0.length : Int)
     ·(
 rw [if_pos c16] at H
 have c16b0 : decide (x31_3 < (l1_0.length : Int)) = true := decide_eq_true c16
 clear c16
 by_cases c17 : 0 ≤ x31_3
 ·rw [if_pos c17] at H
  have c17b0 : decide (0 ≤ x31_3) = true := decide_eq_true c17
  clear c17
  by_cases c18 : x31_3 < (l1_0.length : Int)
  ·rw [if_pos c18] at H
   have c18b0 : decide (x31_3 < (l1_0.length : Int)) = true := decide_eq_true c18
   clear c18
   have HC19 := Aside0.mk H
   clear H
   have p158 : 0 ≤ (x31_3 : Int) := of_decide_eq_true (by first | (with_reducible assumption) | assumption)
   have q158 : x31_3 < (l1_0.length : Int) := of_decide_eq_true (by first | (with_reducible assumption) | assumption)
   obtain ⟨ad158, e158, hx158_0, hx158_1, hx158_2⟩ := at_T162 HR1_0.out x31_3 p158 q158
   cases e158
   replace hx158_0 := (HB.out.cell (World.block_lt_of_cell? w _ hx158_0)).trans hx158_0
   replace hx158_1 := (HB.out.cell (World.block_lt_of_cell? w _ hx158_1)).trans hx158_1
   replace hx158_2 := (HB.out.cell (World.block_lt_of_cell? w _ hx158_2)).trans hx158_2
   replace p158 := eq_true p158
   replace q158 := eq_true q158
   go_upto_region 10 with (first | ((with_reducible refine gate_dst (N := 8) rfl ?_); refine box_event ?hg (N := 8) ?hd (cs := #[.int .i64 0, .int .i64 0, .int .i64 0]) (t := 162) ?hr ?_; (case hd => rfl); (case hg => rfl); (case hr => first | (go_simp; done) | (go_simp; rfl)); intro gb159 hg w20 hbox hb; have n0_ := Aside0.mk (Kd.R_below (by (with_reducible repeat (first | apply Kd.R_alloc | apply Kd.R_drewN | apply Kd.R_drew)); exact HO_6.out) hb); have n1_ := Aside0.mk (blk_below (g := gb149) (o := .cells #[.slice (some ad158) l1_0.length c1_0] 59 (0, 0)) (by (with_reducible repeat (first | refine blk_drewN ?_ _ | refine blk_drew ?_ | refine blk_alloc ?_ _)); exact BK149.out) hb); have n2_ := Aside0.mk (below_step (by repeat (first | (with_reducible first | exact HB.out | apply below_alloc | apply pw_below_drewN | apply below_drew1 | refine below_set ?_ GE149.out) | exact HB.out)) hb); have n3_ := Aside0.mk (hbox); have n4_ := Aside0.mk ((by rw [hg]; exact (below_size (by repeat (first | (with_reducible first | exact HB.out | apply below_alloc | apply pw_below_drewN | apply below_drew1 | refine below_set ?_ GE149.out) | exact HB.out))) : w.heap.size ≤ gb159)); have n5_ := Aside0.mk ((by rw [hg]; exact (below_size (by repeat (first | (with_reducible first | exact HB.out | apply below_alloc | apply pw_below_drewN | apply below_drew1 | refine below_set ?_ GE149.out) | exact HB.out))) : w.heap.size ≤ gb159)); have n6_ := Aside0.mk ((by rw [hg]; exact Nat.ne_of_lt (blk_lt (g := gb149) (o := .cells #[.slice (some ad158) l1_0.length c1_0] 59 (0, 0)) (by (with_reducible repeat (first | refine blk_drewN ?_ _ | refine blk_drew ?_ | refine blk_alloc ?_ _)); exact BK149.out)) : gb149 ≠ gb159)); have n7_ := Aside0.mk ((by rw [hg]; exact Nat.ne_of_gt (blk_lt (g := gb149) (o := .cells #[.slice (some ad158) l1_0.length c1_0] 59 (0, 0)) (by (with_reducible repeat (first | refine blk_drewN ?_ _ | refine blk_drew ?_ | refine blk_alloc ?_ _)); exact BK149.out)) : gb159 ≠ gb149)); clear HO_6; clear BK149; clear HB; have HO_6 := n0_; have BK149 := n1_; have HB := n2_; have BK159 := n3_; have GW159 := n4_; have GE159 := n5_; have NB149_159 := n6_; have NB159_149 := n7_; clear n0_ n1_ n2_ n3_ n4_ n5_ n6_ n7_; clear hb hbox hg; have hnb21 := NB159_149.out; have hnc21 := NB149_159.out; have hcz22_0 : w20.cell? ⟨gb159, 0, none⟩ = some (.int .i64 0) := (blk_cell BK159.out 0).trans rfl; have hcz22_1 : w20.cell? ⟨gb159, 1, none⟩ = some (.int .i64 0) := (blk_cell BK159.out 1).trans rfl; have hcz22_2 : w20.cell? ⟨gb159, 2, none⟩ = some (.int .i64 0) := (blk_cell BK159.out 2).trans rfl; have hfz22_0 := blk_frozen BK159.out 0; have hfz22_1 := blk_frozen BK159.out 1; have hfz22_2 := blk_frozen BK159.out 2))
   (try simp only [Act.put, List.setIfInBounds_toArray, List.set_cons_zero, List.set_cons_succ])
   go_cut [44] (fun v44 wc => ∃ (kq : Nat) (x44_18 : Bool), v44 = .bool x44_18 ∧ Aside0 (tree_Tree.j3 kq a0 (l1_0.length : Int) x6_3 x31_3 l1_0 (l1_0.length : Int) x31_3 x44_18 ((rd_T162 l1_0 x31_3).f0) ((rd_T162 l1_0 x31_3).f1) ((rd_T162 l1_0 x31_3).f2) = some r) ∧ Aside0 (kq ≤ k3) ∧ Aside0 (Kd.R Kd.bool 4 wc w.heap.size (fun _ => True) v151 x6_3) ∧ Aside0 (wc.heap[gb149]? = some (.cells #[(.slice (some ad158) l1_0.length c1_0)] 59 (0, 0))) ∧ Aside0 (wc.heap[gb159]? = some (.cells #[.int .i64 ((rd_T162 l1_0 x31_3).f0), .int .i64 ((rd_T162 l1_0 x31_3).f1), .int .i64 ((rd_T162 l1_0 x31_3).f2)] 162 (0, 0))) ∧ Aside0 (Below w.heap.size w wc))
   case first =>
    have H := HC19.out
    clear HC19
    by_cases c23 : ((rd_T162 l1_0 x31_3).f0) < 0
    ·(
 rw [if_pos c23] at H
 have c23b0 : decide (((rd_T162 l1_0 x31_3).f0) < 0) = true := decide_eq_true c23
 clear c23
 (first | rw [c23b0] | (simp only [i64_w, i32_w]; rw [c23b0]) | skip)
 have H' := Aside0.mk H
 clear H
 have hnb24 := NB159_149.out
 have hnc24 := NB149_159.out
 have hcz25_0 : w20.cell? ⟨gb159, 0, none⟩ = some (.int .i64 0) := (blk_cell BK159.out 0).trans rfl
 have hcz25_1 : w20.cell? ⟨gb159, 1, none⟩ = some (.int .i64 0) := (blk_cell BK159.out 1).trans rfl
 have hcz25_2 : w20.cell? ⟨gb159, 2, none⟩ = some (.int .i64 0) := (blk_cell BK159.out 2).trans rfl
 have hfz25_0 := blk_frozen BK159.out 0
 have hfz25_1 := blk_frozen BK159.out 1
 have hfz25_2 := blk_frozen BK159.out 2
 go_wp2
 go_meet
 case rel => exact ⟨_, (true), (by first | rfl | (simp; done) | (simp [*]; done)), H', ⟨by have := HJ2.out; have := HJ6.out; have := HK3.out; first | omega | exact Nat.le_refl _⟩, ⟨by (with_reducible repeat (first | apply Kd.R_alloc | apply Kd.R_drewN | apply Kd.R_drew)); exact Kd.R_mono (Kd.R_far (p := ⟨gb159, 2, none⟩) (Kd.R_far (p := ⟨gb159, 1, none⟩) (Kd.R_far (p := ⟨gb159, 0, none⟩) (Kd.R_types HO_6.out BK159.out (by decide)) (fun _ hk => hk.2) (.int .i64 ((rd_T162 l1_0 x31_3).f0))) (fun _ hk => hk.2) (.int .i64 ((rd_T162 l1_0 x31_3).f1))) (fun _ hk => hk.2) (.int .i64 ((rd_T162 l1_0 x31_3).f2))) (fun _ hk => trivial)⟩, ⟨by (with_reducible repeat (first | refine blk_drewN ?_ _ | refine blk_drew ?_ | refine blk_alloc ?_ _)); refine blk_far ?_ NB149_159.out _; (with_reducible repeat (first | refine blk_drewN ?_ _ | refine blk_drew ?_ | refine blk_alloc ?_ _)); refine blk_far ?_ NB149_159.out _; (with_reducible repeat (first | refine blk_drewN ?_ _ | refine blk_drew ?_ | refine blk_alloc ?_ _)); refine blk_far ?_ NB149_159.out _; (with_reducible repeat (first | refine blk_drewN ?_ _ | refine blk_drew ?_ | refine blk_alloc ?_ _)); exact BK149.out⟩, ⟨by (with_reducible repeat (first | refine blk_drewN ?_ _ | refine blk_drew ?_ | refine blk_alloc ?_ _)); refine blk_put (cs := #[.int .i64 ((rd_T162 l1_0 x31_3).f0), .int .i64 ((rd_T162 l1_0 x31_3).f1), .int .i64 0]) ?_ 2 _ rfl; (with_reducible repeat (first | refine blk_drewN ?_ _ | refine blk_drew ?_ | refine blk_alloc ?_ _)); refine blk_put (cs := #[.int .i64 ((rd_T162 l1_0 x31_3).f0), .int .i64 0, .int .i64 0]) ?_ 1 _ rfl; (with_reducible repeat (first | refine blk_drewN ?_ _ | refine blk_drew ?_ | refine blk_alloc ?_ _)); refine blk_put (cs := #[.int .i64 0, .int .i64 0, .int .i64 0]) ?_ 0 _ rfl; (with_reducible repeat (first | refine blk_drewN ?_ _ | refine blk_drew ?_ | refine blk_alloc ?_ _)); exact BK159.out⟩, ⟨by repeat (first | (with_reducible first | exact HB.out | apply below_alloc | apply pw_below_drewN | apply below_drew1 | refine below_set ?_ GE149.out | refine below_set ?_ GE159.out) | exact HB.out)⟩⟩)
    ·(
 rw [if_neg c23] at H
 have c23b0 : decide (((rd_T162 l1_0 x31_3).f0) < 0) = false := decide_eq_false c23
 clear c23
 (first | rw [c23b0] | (simp only [i64_w, i32_w]; rw [c23b0]) | skip)
 have H' := Aside0.mk H
 clear H
 have hnb26 := NB159_149.out
 have hnc26 := NB149_159.out
 have hcz27_0 : w20.cell? ⟨gb159, 0, none⟩ = some (.int .i64 0) := (blk_cell BK159.out 0).trans rfl
 have hcz27_1 : w20.cell? ⟨gb159, 1, none⟩ = some (.int .i64 0) := (blk_cell BK159.out 1).trans rfl
 have hcz27_2 : w20.cell? ⟨gb159, 2, none⟩ = some (.int .i64 0) := (blk_cell BK159.out 2).trans rfl
 have hfz27_0 := blk_frozen BK159.out 0
 have hfz27_1 := blk_frozen BK159.out 1
 have hfz27_2 := blk_frozen BK159.out 2
 go_wp2
 go_meet
 case rel => exact ⟨_, (decide (((rd_T162 l1_0 x31_3).f0) ≥ a0)), (by first | rfl | (simp; done) | (simp [*]; done)), H', ⟨by have := HJ2.out; have := HJ6.out; have := HK3.out; first | omega | exact Nat.le_refl _⟩, ⟨by (with_reducible repeat (first | apply Kd.R_alloc | apply Kd.R_drewN | apply Kd.R_drew)); exact Kd.R_mono (Kd.R_far (p := ⟨gb159, 2, none⟩) (Kd.R_far (p := ⟨gb159, 1, none⟩) (Kd.R_far (p := ⟨gb159, 0, none⟩) (Kd.R_types HO_6.out BK159.out (by decide)) (fun _ hk => hk.2) (.int .i64 ((rd_T162 l1_0 x31_3).f0))) (fun _ hk => hk.2) (.int .i64 ((rd_T162 l1_0 x31_3).f1))) (fun _ hk => hk.2) (.int .i64 ((rd_T162 l1_0 x31_3).f2))) (fun _ hk => trivial)⟩, ⟨by (with_reducible repeat (first | refine blk_drewN ?_ _ | refine blk_drew ?_ | refine blk_alloc ?_ _)); refine blk_far ?_ NB149_159.out _; (with_reducible repeat (first | refine blk_drewN ?_ _ | refine blk_drew ?_ | refine blk_alloc ?_ _)); refine blk_far ?_ NB149_159.out _; (with_reducible repeat (first | refine blk_drewN ?_ _ | refine blk_drew ?_ | refine blk_alloc ?_ _)); refine blk_far ?_ NB149_159.out _; (with_reducible repeat (first | refine blk_drewN ?_ _ | refine blk_drew ?_ | refine blk_alloc ?_ _)); exact BK149.out⟩, ⟨by (with_reducible repeat (first | refine blk_drewN ?_ _ | refine blk_drew ?_ | refine blk_alloc ?_ _)); refine blk_put (cs := #[.int .i64 ((rd_T162 l1_0 x31_3).f0), .int .i64 ((rd_T162 l1_0 x31_3).f1), .int .i64 0]) ?_ 2 _ rfl; (with_reducible repeat (first | refine blk_drewN ?_ _ | refine blk_drew ?_ | refine blk_alloc ?_ _)); refine blk_put (cs := #[.int .i64 ((rd_T162 l1_0 x31_3).f0), .int .i64 0, .int .i64 0]) ?_ 1 _ rfl; (with_reducible repeat (first | refine blk_drewN ?_ _ | refine blk_drew ?_ | refine blk_alloc ?_ _)); refine blk_put (cs := #[.int .i64 0, .int .i64 0, .int .i64 0]) ?_ 0 _ rfl; (with_reducible repeat (first | refine blk_drewN ?_ _ | refine blk_drew ?_ | refine blk_alloc ?_ _)); exact BK159.out⟩, ⟨by repeat (first | (with_reducible first | exact HB.out | apply below_alloc | apply pw_below_drewN | apply below_drew1 | refine below_set ?_ GE149.out | refine below_set ?_ GE159.out) | exact HB.out)⟩⟩)
   case rest =>
    clear HC19
    try clear c1
    try clear p1
    try clear q1
    try clear hx1
    try clear c2
    try clear p2
    try clear c3
    try clear c5
    try clear c5b0
    try clear c6
    try clear c9
    try clear c9b0
    try clear c9b1
    try clear c10
    try clear c11
    try clear c11b0
    try clear c11b1
    try clear c12
    try clear c12b0
    try clear c12b1
    try clear p15
    try clear q15
    try clear hx15
    try clear c16
    try clear c16b0
    try clear c17
    try clear c17b0
    try clear c18
    try clear c18b0
    try clear c21
    try clear c23
    try clear c23b0
    try clear c24
    try clear c26
    try clear hcz15_0
    try clear hcz22_0
    try clear hcz22_1
    try clear hcz22_2
    try clear hcz25_0
    try clear hcz25_1
    try clear hcz25_2
    try clear hcz27_0
    try clear hcz27_1
    try clear hcz27_2
    try clear hcz8_0
    try clear hfz15_0
    try clear hfz22_0
    try clear hfz22_1
    try clear hfz22_2
    try clear hfz25_0
    try clear hfz25_1
    try clear hfz25_2
    try clear hfz27_0
    try clear hfz27_1
    try clear hfz27_2
    try clear hfz8_0
    try clear hx158_0
    try clear hx158_1
    try clear hx158_2
    try clear p158
    try clear p2
    try clear q158
    obtain ⟨kq, x44_18, rfl, HA, HJ18, HO_6, BK149, BK159, HB⟩ := hcut
    cases kq with
    | zero => exact absurd HA.out (by simp [tree_Tree.j3])
    | succ kj18 =>
     have H := HA.out
     clear HA
     simp only [tree_Tree.j3] at H
     by_cases c28 : x44_18 = true
     ·(
 subst c28
 have H1 : (some 2) = some r := by rw [if_pos rfl] at H; exact H
 clear H
 have H := H1
 clear H1
 obtain rfl := Option.some.inj H
 go_wp2
 go_ret
 exact ⟨by first | rfl | (simp [errW_none, errW_some] <;> rfl) | (simp [*, errW_none, errW_some] <;> rfl), by repeat (first | (with_reducible first | exact HB.out | apply below_alloc | apply pw_below_drewN | apply below_drew1 | refine below_set ?_ GE149.out | refine below_set ?_ GE159.out) | exact HB.out)⟩)
     ·(
 replace c28 := Bool.eq_false_iff.mpr c28
 subst c28
 have H1 : (if ((rd_T162 l1_0 x31_3).f1) = (-1) then (tree_Tree.j4 kj18 a0 (l1_0.length : Int) x6_3 x31_3 l1_0 (l1_0.length : Int) x31_3 (((rd_T162 l1_0 x31_3).f2) == (-1)) ((rd_T162 l1_0 x31_3).f0) ((rd_T162 l1_0 x31_3).f1) ((rd_T162 l1_0 x31_3).f2)) else (tree_Tree.j4 kj18 a0 (l1_0.length : Int) x6_3 x31_3 l1_0 (l1_0.length : Int) x31_3 false ((rd_T162 l1_0 x31_3).f0) ((rd_T162 l1_0 x31_3).f1) ((rd_T162 l1_0 x31_3).f2))) = some r := by rw [if_neg (show ¬ (false = true) by decide)] at H; exact H
 clear H
 have H := H1
 clear H1
 have HC29 := Aside0.mk H
 clear H
 go_upto_region 12 with (fail)
 go_cut [52] (fun v52 wc => ∃ (kq : Nat) (x52_28 : Bool), v52 = .bool x52_28 ∧ Aside0 (tree_Tree.j4 kq a0 (l1_0.length : Int) x6_3 x31_3 l1_0 (l1_0.length : Int) x31_3 x52_28 ((rd_T162 l1_0 x31_3).f0) ((rd_T162 l1_0 x31_3).f1) ((rd_T162 l1_0 x31_3).f2) = some r) ∧ Aside0 (kq ≤ kj18) ∧ Aside0 (Kd.R Kd.bool 4 wc w.heap.size (fun _ => True) v151 x6_3) ∧ Aside0 (wc.heap[gb149]? = some (.cells #[(.slice (some ad158) l1_0.length c1_0)] 59 (0, 0))) ∧ Aside0 (wc.heap[gb159]? = some (.cells #[.int .i64 ((rd_T162 l1_0 x31_3).f0), .int .i64 ((rd_T162 l1_0 x31_3).f1), .int .i64 ((rd_T162 l1_0 x31_3).f2)] 162 (0, 0))) ∧ Aside0 (Below w.heap.size w wc))
 case first =>
  have H := HC29.out
  clear HC29
  by_cases c30 : ((rd_T162 l1_0 x31_3).f1) = (-1)
  ·rw [if_pos c30] at H
   have c30b0 : (((rd_T162 l1_0 x31_3).f1) == (-1)) = true := beq_iff_eq.mpr c30
   have c30b1 : (((rd_T162 l1_0 x31_3).f1) != (-1)) = false := bne_eq_false_iff_eq.mpr c30
   clear c30
   (first | rw [c30b0] | (simp only [i64_w, i32_w]; rw [c30b0]) | skip)
   have H' := Aside0.mk H
   clear H
   have hnb31 := NB159_149.out
   have hnc31 := NB149_159.out
   have hcz32_0 : wc.cell? ⟨gb159, 0, none⟩ = some (.int .i64 ((rd_T162 l1_0 x31_3).f0)) := (blk_cell BK159.out 0).trans rfl
   have hcz32_1 : wc.cell? ⟨gb159, 1, none⟩ = some (.int .i64 ((rd_T162 l1_0 x31_3).f1)) := (blk_cell BK159.out 1).trans rfl
   have hcz32_2 : wc.cell? ⟨gb159, 2, none⟩ = some (.int .i64 ((rd_T162 l1_0 x31_3).f2)) := (blk_cell BK159.out 2).trans rfl
   have hfz32_0 := blk_frozen BK159.out 0
   have hfz32_1 := blk_frozen BK159.out 1
   have hfz32_2 := blk_frozen BK159.out 2
   go_wp2
   go_meet
   case rel => exact ⟨_, ((((rd_T162 l1_0 x31_3).f2) == (-1))), (by first | rfl | (simp; done) | (simp [*]; done)), H', ⟨by have := HJ2.out; have := HJ6.out; have := HK3.out; have := HJ18.out; first | omega | exact Nat.le_refl _⟩, ⟨by (with_reducible repeat (first | apply Kd.R_alloc | apply Kd.R_drewN | apply Kd.R_drew)); exact HO_6.out⟩, ⟨by (with_reducible repeat (first | refine blk_drewN ?_ _ | refine blk_drew ?_ | refine blk_alloc ?_ _)); exact BK149.out⟩, ⟨by (with_reducible repeat (first | refine blk_drewN ?_ _ | refine blk_drew ?_ | refine blk_alloc ?_ _)); exact BK159.out⟩, ⟨by repeat (first | (with_reducible first | exact HB.out | apply below_alloc | apply pw_below_drewN | apply below_drew1 | refine below_set ?_ GE149.out | refine below_set ?_ GE159.out) | exact HB.out)⟩⟩
  ·rw [if_neg c30] at H
   have c30b0 : (((rd_T162 l1_0 x31_3).f1) == (-1)) = false := beq_eq_false_iff_ne.mpr c30
   have c30b1 : (((rd_T162 l1_0 x31_3).f1) != (-1)) = true := bne_iff_ne.mpr c30
   (first | rw [c30b0] | (simp only [i64_w, i32_w]; rw [c30b0]) | skip)
   have H' := Aside0.mk H
   clear H
   have hnb33 := NB159_149.out
   have hnc33 := NB149_159.out
   have hcz34_0 : wc.cell? ⟨gb159, 0, none⟩ = some (.int .i64 ((rd_T162 l1_0 x31_3).f0)) := (blk_cell BK159.out 0).trans rfl
   have hcz34_1 : wc.cell? ⟨gb159, 1, none⟩ = some (.int .i64 ((rd_T162 l1_0 x31_3).f1)) := (blk_cell BK159.out 1).trans rfl
   have hcz34_2 : wc.cell? ⟨gb159, 2, none⟩ = some (.int .i64 ((rd_T162 l1_0 x31_3).f2)) := (blk_cell BK159.out 2).trans rfl
   have hfz34_0 := blk_frozen BK159.out 0
   have hfz34_1 := blk_frozen BK159.out 1
   have hfz34_2 := blk_frozen BK159.out 2
   go_wp2
   go_meet
   case rel => exact ⟨_, (false), (by first | rfl | (simp; done) | (simp [*]; done)), H', ⟨by have := HJ2.out; have := HJ6.out; have := HK3.out; have := HJ18.out; first | omega | exact Nat.le_refl _⟩, ⟨by (with_reducible repeat (first | apply Kd.R_alloc | apply Kd.R_drewN | apply Kd.R_drew)); exact HO_6.out⟩, ⟨by (with_reducible repeat (first | refine blk_drewN ?_ _ | refine blk_drew ?_ | refine blk_alloc ?_ _)); exact BK149.out⟩, ⟨by (with_reducible repeat (first | refine blk_drewN ?_ _ | refine blk_drew ?_ | refine blk_alloc ?_ _)); exact BK159.out⟩, ⟨by repeat (first | (with_reducible first | exact HB.out | apply below_alloc | apply pw_below_drewN | apply below_drew1 | refine below_set ?_ GE149.out | refine below_set ?_ GE159.out) | exact HB.out)⟩⟩
 case rest =>
  clear HC29
  try clear c1
  try clear p1
  try clear q1
  try clear hx1
  try clear c2
  try clear p2
  try clear c3
  try clear c5
  try clear c5b0
  try clear c6
  try clear c9
  try clear c9b0
  try clear c9b1
  try clear c10
  try clear c11
  try clear c11b0
  try clear c11b1
  try clear c12
  try clear c12b0
  try clear c12b1
  try clear p15
  try clear q15
  try clear hx15
  try clear c16
  try clear c16b0
  try clear c17
  try clear c17b0
  try clear c18
  try clear c18b0
  try clear c21
  try clear c23
  try clear c23b0
  try clear c24
  try clear c26
  try clear c28
  try clear c30
  try clear c30b0
  try clear c30b1
  try clear c31
  try clear c33
  try clear hcz15_0
  try clear hcz22_0
  try clear hcz22_1
  try clear hcz22_2
  try clear hcz25_0
  try clear hcz25_1
  try clear hcz25_2
  try clear hcz27_0
  try clear hcz27_1
  try clear hcz27_2
  try clear hcz32_0
  try clear hcz32_1
  try clear hcz32_2
  try clear hcz34_0
  try clear hcz34_1
  try clear hcz34_2
  try clear hcz8_0
  try clear hfz15_0
  try clear hfz22_0
  try clear hfz22_1
  try clear hfz22_2
  try clear hfz25_0
  try clear hfz25_1
  try clear hfz25_2
  try clear hfz27_0
  try clear hfz27_1
  try clear hfz27_2
  try clear hfz32_0
  try clear hfz32_1
  try clear hfz32_2
  try clear hfz34_0
  try clear hfz34_1
  try clear hfz34_2
  try clear hfz8_0
  try clear hx158_0
  try clear hx158_1
  try clear hx158_2
  try clear p1
  try clear p15
  try clear p158
  try clear p2
  try clear q1
  try clear q15
  try clear q158
  obtain ⟨kq, x52_28, rfl, HA, HJ28, HO_6, BK149, BK159, HB⟩ := hcut
  cases kq with
  | zero => exact absurd HA.out (by simp [tree_Tree.j4])
  | succ kj28 =>
   have H := HA.out
   clear HA
   simp only [tree_Tree.j4] at H
   by_cases c35 : x52_28 = true
   ·subst c35
    have H1 : (tree_Tree.l0 kj28 a0 (l1_0.length : Int) x6_3 l1_0 (l1_0.length : Int) (wrap64 (x31_3 + 1))) = some r := by rw [if_pos rfl] at H; exact H
    clear H
    have H := H1
    clear H1
    have H' := Aside0.mk H
    clear H
    go_wp2
    go_roundg kj28
    case measure => have := HJ2.out; have := HJ6.out; have := HK3.out; have := HJ18.out; have := HJ28.out; omega
    case rel => exact ⟨(x6_3), (wrap64 (x31_3 + 1)), (by first | rfl | (simp; done) | (simp [*]; done)), H', ⟨by have := HJ2.out; have := HJ6.out; have := HK3.out; have := HJ18.out; have := HJ28.out; omega⟩, ⟨by (with_reducible repeat (first | apply Kd.R_alloc | apply Kd.R_drewN | apply Kd.R_drew)); exact HO_6.out⟩, ⟨by (with_reducible repeat (first | refine blk_drewN ?_ _ | refine blk_drew ?_ | refine blk_alloc ?_ _)); exact BK149.out⟩, ⟨by repeat (first | (with_reducible first | exact HB.out | apply below_alloc | apply pw_below_drewN | apply below_drew1 | refine below_set ?_ GE149.out | refine below_set ?_ GE159.out) | exact HB.out)⟩⟩
   ·replace c35 := Bool.eq_false_iff.mpr c35
    subst c35
    have H1 : ((some (([((rd_T162 l1_0 x31_3).f1), ((rd_T162 l1_0 x31_3).f2)] : List Int) : List Int)).bind fun y160 => (tree_Tree.l1 kj28 a0 (l1_0.length : Int) x6_3 x31_3 l1_0 (l1_0.length : Int) x31_3 y160 (y160.length : Int) 0)) = some r := by rw [if_neg (show ¬ (false = true) by decide)] at H; exact H
    clear H
    have H := H1
    clear H1
    obtain ⟨y160, hy160⟩ : ∃ y_ : List Int, y_ = (([((rd_T162 l1_0 x31_3).f1), ((rd_T162 l1_0 x31_3).f2)] : List Int)) := ⟨_, rfl⟩
    replace H : (tree_Tree.l1 kj28 a0 (l1_0.length : Int) x6_3 x31_3 l1_0 (l1_0.length : Int) x31_3 y160 (y160.length : Int) 0) = some r := by first | (rw [hy160]; with_reducible exact H) | (have H2_ := (Option.bind_some _ _).symm.trans H; rw [hy160]; with_reducible exact H2_) | (have H2_ := (Option.bind_some _ _).symm.trans H; with_reducible exact H2_) | with_reducible exact H | (rw [hy160]; exact H) | exact H
    have Ny160 := Aside0.mk hy160
    clear hy160
    have H' := Aside0.mk H
    clear H
    have hnb36 := NB159_149.out
    have hnc36 := NB149_159.out
    have hcz37_0 : wc.cell? ⟨gb159, 0, none⟩ = some (.int .i64 ((rd_T162 l1_0 x31_3).f0)) := (blk_cell BK159.out 0).trans rfl
    have hcz37_1 : wc.cell? ⟨gb159, 1, none⟩ = some (.int .i64 ((rd_T162 l1_0 x31_3).f1)) := (blk_cell BK159.out 1).trans rfl
    have hcz37_2 : wc.cell? ⟨gb159, 2, none⟩ = some (.int .i64 ((rd_T162 l1_0 x31_3).f2)) := (blk_cell BK159.out 2).trans rfl
    have hfz37_0 := blk_frozen BK159.out 0
    have hfz37_1 := blk_frozen BK159.out 1
    have hfz37_2 := blk_frozen BK159.out 2
    go_wp2_with (first | ((with_reducible refine gate_dst (N := 57) rfl ?_); refine Kd.R_lit (Kd.int .i64) _ 3 ?hg (N := 57) ?hd (xs := ([((rd_T162 l1_0 x31_3).f1), ((rd_T162 l1_0 x31_3).f2)] : List Int)) (inner := [.int .i64 ((rd_T162 l1_0 x31_3).f1), .int .i64 ((rd_T162 l1_0 x31_3).f2)]) (ok := fun _ => True) (okp := fun _ => True) ?hr ?hp (fun _ hk => hk) trivial (Below.refl _ _) (Nat.le_refl _) (by simp) ?_; (case hd => rfl); (case hg => rfl); (case hr => first | (go_simp; done) | (go_simp; rfl)); (case hp => exact (Reps.one (show Kd.M (Kd.int .i64) _ _ _ ((rd_T162 l1_0 x31_3).f1) [.int .i64 ((rd_T162 l1_0 x31_3).f1)] from rfl) (Reps.one (show Kd.M (Kd.int .i64) _ _ _ ((rd_T162 l1_0 x31_3).f2) [.int .i64 ((rd_T162 l1_0 x31_3).f2)] from rfl) (Reps.none _ _)))); intro v161 w38 ho39 hb hg_ hnew_; clear hg_ hnew_; (first | rw [← Ny160.out] at ho39 | (simp only [Int.reduceToNat] at ho39; rw [← Ny160.out] at ho39)); have n0_ := Aside0.mk (Kd.R_below (by (with_reducible repeat (first | apply Kd.R_alloc | apply Kd.R_drewN | apply Kd.R_drew)); exact HO_6.out) hb); have n1_ := Aside0.mk (Kd.R_lower ho39 (below_size (by repeat (first | (with_reducible first | exact HB.out | apply below_alloc | apply pw_below_drewN | apply below_drew1 | refine below_set ?_ GE149.out | refine below_set ?_ GE159.out) | exact HB.out)))); have n2_ := Aside0.mk (blk_below (g := gb149) (o := .cells #[.slice (some ad158) l1_0.length c1_0] 59 (0, 0)) (by (with_reducible repeat (first | refine blk_drewN ?_ _ | refine blk_drew ?_ | refine blk_alloc ?_ _)); exact BK149.out) hb); have n3_ := Aside0.mk (blk_below (g := gb159) (o := .cells #[.int .i64 ((rd_T162 l1_0 x31_3).f0), .int .i64 ((rd_T162 l1_0 x31_3).f1), .int .i64 ((rd_T162 l1_0 x31_3).f2)] 162 (0, 0)) (by (with_reducible repeat (first | refine blk_drewN ?_ _ | refine blk_drew ?_ | refine blk_alloc ?_ _)); exact BK159.out) hb); have n4_ := Aside0.mk (below_step (by repeat (first | (with_reducible first | exact HB.out | apply below_alloc | apply pw_below_drewN | apply below_drew1 | refine below_set ?_ GE149.out | refine below_set ?_ GE159.out) | exact HB.out)) hb); clear HO_6; clear BK149; clear BK159; clear HB; have HO_6 := n0_; have HO162 := n1_; have BK149 := n2_; have BK159 := n3_; have HB := n4_; clear n0_ n1_ n2_ n3_ n4_; clear hb ho39; obtain ⟨Ao40, co40, eo40⟩ := Kd.R_slice HO162.out; subst eo40))
    go_loopg [59] kj28 (fun kq v59 w' => ∃ (x6_6 : List Bool) (x59_6 : Int), v59 = .int .i64 x59_6 ∧ Aside0 (tree_Tree.l1 kq a0 (l1_0.length : Int) x6_6 x31_3 l1_0 (l1_0.length : Int) x31_3 y160 (y160.length : Int) x59_6 = some r) ∧ Aside0 (kq ≤ kj28) ∧ Aside0 (Kd.R Kd.bool 4 w' w.heap.size (fun _ => True) v151 x6_6) ∧ Aside0 (Kd.R (Kd.int .i64) 3 w' w.heap.size (fun _ => True) (.slice Ao40 y160.length co40) y160) ∧ Aside0 (w'.heap[gb149]? = some (.cells #[(.slice (some ad158) l1_0.length c1_0)] 59 (0, 0))) ∧ Aside0 (w'.heap[gb159]? = some (.cells #[.int .i64 ((rd_T162 l1_0 x31_3).f0), .int .i64 ((rd_T162 l1_0 x31_3).f1), .int .i64 ((rd_T162 l1_0 x31_3).f2)] 162 (0, 0))) ∧ Aside0 (Below w.heap.size w w'))
    case atStart => exact ⟨(x6_3), (0), (by first | rfl | (simp; done) | (simp [*]; done)), H', ⟨Nat.le_refl _⟩, ⟨by (with_reducible repeat (first | apply Kd.R_alloc | apply Kd.R_drewN | apply Kd.R_drew)); exact HO_6.out⟩, ⟨by (with_reducible repeat (first | apply Kd.R_alloc | apply Kd.R_drewN | apply Kd.R_drew)); exact HO162.out⟩, ⟨by (with_reducible repeat (first | refine blk_drewN ?_ _ | refine blk_drew ?_ | refine blk_alloc ?_ _)); exact BK149.out⟩, ⟨by (with_reducible repeat (first | refine blk_drewN ?_ _ | refine blk_drew ?_ | refine blk_alloc ?_ _)); exact BK159.out⟩, ⟨by repeat (first | (with_reducible first | exact HB.out | apply below_alloc | apply pw_below_drewN | apply below_drew1 | refine below_set ?_ GE149.out | refine below_set ?_ GE159.out) | exact HB.out)⟩⟩
    case round =>
     clear H'
     try clear c1
     try clear p1
     try clear q1
     try clear hx1
     try clear c2
     try clear p2
     try clear c3
     try clear c5
     try clear c5b0
     try clear c6
     try clear p6
     try clear c9
     try clear c9b0
     try clear c9b1
     try clear c10
     try clear c11
     try clear c11b0
     try clear c11b1
     try clear c12
     try clear c12b0
     try clear c12b1
     try clear p15
     try clear q15
     try clear hx15
     try clear c16
     try clear c16b0
     try clear c17
     try clear c17b0
     try clear c18
     try clear c18b0
     try clear c21
     try clear c23
     try clear c23b0
     try clear c24
     try clear c26
     try clear c28
     try clear c30
     try clear c30b0
     try clear c30b1
     try clear c31
     try clear c33
     try clear c35
     try clear c36
     try clear hcz15_0
     try clear hcz22_0
     try clear hcz22_1
     try clear hcz22_2
     try clear hcz25_0
     try clear hcz25_1
     try clear hcz25_2
     try clear hcz27_0
     try clear hcz27_1
     try clear hcz27_2
     try clear hcz32_0
     try clear hcz32_1
     try clear hcz32_2
     try clear hcz34_0
     try clear hcz34_1
     try clear hcz34_2
     try clear hcz37_0
     try clear hcz37_1
     try clear hcz37_2
     try clear hcz8_0
     try clear hfz15_0
     try clear hfz22_0
     try clear hfz22_1
     try clear hfz22_2
     try clear hfz25_0
     try clear hfz25_1
     try clear hfz25_2
     try clear hfz27_0
     try clear hfz27_1
     try clear hfz27_2
     try clear hfz32_0
     try clear hfz32_1
     try clear hfz32_2
     try clear hfz34_0
     try clear hfz34_1
     try clear hfz34_2
     try clear hfz37_0
     try clear hfz37_1
     try clear hfz37_2
     try clear hfz8_0
     try clear hx158_0
     try clear hx158_1
     try clear hx158_2
     try clear p1
     try clear p15
     try clear p158
     try clear p2
     try clear q1
     try clear q15
     try clear q158
     obtain ⟨x6_6, x59_6, rfl, HA, HK6, HO_6, HO_57, BK149, BK159, HB⟩ := hrel
     cases gk with
     | zero => exact absurd HA.out (by simp [tree_Tree.l1])
     | succ k6 =>
      have H := HA.out
      clear HA
      simp only [tree_Tree.l1] at H
      by_cases c41 : x59_6 < (y160.length : Int)
      ·(
 rw [if_pos c41] at H
 have c41b0 : decide (x59_6 < (y160.length : Int)) = true := decide_eq_true c41
 clear c41
 by_cases c42 : 0 ≤ x59_6
 ·rw [if_pos c42] at H
  have c42b0 : decide (0 ≤ x59_6) = true := decide_eq_true c42
  clear c42
  by_cases c43 : x59_6 < (y160.length : Int)
  ·rw [if_pos c43] at H
   have c43b0 : decide (x59_6 < (y160.length : Int)) = true := decide_eq_true c43
   clear c43
   by_cases c44 : (rd y160 x59_6) < 0
   ·rw [if_pos c44] at H
    have c44b0 : decide ((rd y160 x59_6) < 0) = true := decide_eq_true c44
    clear c44
    obtain rfl := Option.some.inj H
    have p163 : 0 ≤ (x59_6 : Int) := of_decide_eq_true (by first | (with_reducible assumption) | assumption)
    have q163 : x59_6 < (y160.length : Int) := of_decide_eq_true (by first | (with_reducible assumption) | assumption)
    obtain ⟨ad163, e163, hx163_0⟩ := Kd.at_int (Kd.R_reads' HO_57.out).2.2 x59_6 p163 q163
    cases e163
    replace p163 := eq_true p163
    replace q163 := eq_true q163
    go_wp2
    go_ret
    exact ⟨by first | rfl | (simp [errW_none, errW_some] <;> rfl) | (simp [*, errW_none, errW_some] <;> rfl), by repeat (first | (with_reducible first | exact HB.out | apply below_alloc | apply pw_below_drewN | apply below_drew1 | refine below_set ?_ GE149.out | refine below_set ?_ GE159.out) | exact HB.out)⟩
   ·rw [if_neg c44] at H
    have c44b0 : decide ((rd y160 x59_6) < 0) = false := decide_eq_false c44
    clear c44
    by_cases c45 : (rd y160 x59_6) ≥ x31_3
    ·(
 rw [if_pos c45] at H
 have c45b0 : decide (x31_3 ≤ (rd y160 x59_6)) = true := decide_eq_true c45
 clear c45
 obtain rfl := Option.some.inj H
 have p163 : 0 ≤ (x59_6 : Int) := of_decide_eq_true (by first | (with_reducible assumption) | assumption)
 have q163 : x59_6 < (y160.length : Int) := of_decide_eq_true (by first | (with_reducible assumption) | assumption)
 obtain ⟨ad163, e163, hx163_0⟩ := Kd.at_int (Kd.R_reads' HO_57.out).2.2 x59_6 p163 q163
 cases e163
 replace p163 := eq_true p163
 replace q163 := eq_true q163
 go_wp2
 go_ret
 exact ⟨by first | rfl | (simp [errW_none, errW_some] <;> rfl) | (simp [*, errW_none, errW_some] <;> rfl), by repeat (first | (with_reducible first | exact HB.out | apply below_alloc | apply pw_below_drewN | apply below_drew1 | refine below_set ?_ GE149.out | refine below_set ?_ GE159.out) | exact HB.out)⟩)
    ·(
 rw [if_neg c45] at H
 have c45b0 : decide (x31_3 ≤ (rd y160 x59_6)) = false := decide_eq_false c45
 clear c45
 by_cases c46 : 0 ≤ (rd y160 x59_6)
 ·rw [if_pos c46] at H
  have c46b0 : decide (0 ≤ (rd y160 x59_6)) = true := decide_eq_true c46
  clear c46
  by_cases c47 : (rd y160 x59_6) < (x6_6.length : Int)
  ·rw [if_pos c47] at H
   have c47b0 : decide ((rd y160 x59_6) < (x6_6.length : Int)) = true := decide_eq_true c47
   clear c47
   obtain ⟨bq48, hbq48⟩ : ∃ b_ : Bool, b_ = (rdOf false x6_6 (rd y160 x59_6)) := ⟨_, rfl⟩
   replace H : (if bq48 = true then (some 3) else (tree_Tree.l1 k6 a0 (l1_0.length : Int) (x6_6.set ((rd y160 x59_6) : Int).toNat true) x31_3 l1_0 (l1_0.length : Int) x31_3 y160 (y160.length : Int) (wrap64 (x59_6 + 1)))) = some r := by rw [← hbq48] at H; exact H
   have Nbq48 := Aside0.mk hbq48
   clear hbq48
   by_cases c49 : bq48 = true
   ·subst c49
    have H1 : (some 3) = some r := by rw [if_pos rfl] at H; exact H
    clear H
    have H := H1
    clear H1
    obtain rfl := Option.some.inj H
    have p163 : 0 ≤ (x59_6 : Int) := of_decide_eq_true (by first | (with_reducible assumption) | assumption)
    have q163 : x59_6 < (y160.length : Int) := of_decide_eq_true (by first | (with_reducible assumption) | assumption)
    obtain ⟨ad163, e163, hx163_0⟩ := Kd.at_int (Kd.R_reads' HO_57.out).2.2 x59_6 p163 q163
    cases e163
    replace p163 := eq_true p163
    replace q163 := eq_true q163
    obtain ⟨Ao50, co50, eo50⟩ := Kd.R_slice HO_6.out
    subst eo50
    have p164 : 0 ≤ ((rd y160 x59_6) : Int) := of_decide_eq_true (by first | (with_reducible assumption) | assumption)
    have q164 : (rd y160 x59_6) < (x6_6.length : Int) := of_decide_eq_true (by first | (with_reducible assumption) | assumption)
    obtain ⟨ad164, e164, hx164_0⟩ := Kd.at_bool (Kd.R_reads' HO_6.out).2.2 (rd y160 x59_6) p164 q164
    (try rw [← Nbq48.out] at hx164_0)
    cases e164
    replace p164 := eq_true p164
    replace q164 := eq_true q164
    go_wp2
    go_ret
    exact ⟨by first | rfl | (simp [errW_none, errW_some] <;> rfl) | (simp [*, errW_none, errW_some] <;> rfl), by repeat (first | (with_reducible first | exact HB.out | apply below_alloc | apply pw_below_drewN | apply below_drew1 | refine below_set ?_ GE149.out | refine below_set ?_ GE159.out) | exact HB.out)⟩
   ·replace c49 := Bool.eq_false_iff.mpr c49
    subst c49
    have H1 : (tree_Tree.l1 k6 a0 (l1_0.length : Int) (x6_6.set ((rd y160 x59_6) : Int).toNat true) x31_3 l1_0 (l1_0.length : Int) x31_3 y160 (y160.length : Int) (wrap64 (x59_6 + 1))) = some r := by rw [if_neg (show ¬ (false = true) by decide)] at H; exact H
    clear H
    have H := H1
    clear H1
    obtain ⟨y165, hy165⟩ : ∃ y_ : List Bool, y_ = (x6_6.set ((rd y160 x59_6) : Int).toNat true) := ⟨_, rfl⟩
    replace H : (tree_Tree.l1 k6 a0 (l1_0.length : Int) y165 x31_3 l1_0 (l1_0.length : Int) x31_3 y160 (y160.length : Int) (wrap64 (x59_6 + 1))) = some r := by first | (rw [hy165]; with_reducible exact H) | (have H2_ := (Option.bind_some _ _).symm.trans H; rw [hy165]; with_reducible exact H2_) | (have H2_ := (Option.bind_some _ _).symm.trans H; with_reducible exact H2_) | with_reducible exact H | (rw [hy165]; exact H) | exact H
    have Ny165 := Aside0.mk hy165
    clear hy165
    have H' := Aside0.mk H
    clear H
    have p163 : 0 ≤ (x59_6 : Int) := of_decide_eq_true (by first | (with_reducible assumption) | assumption)
    have q163 : x59_6 < (y160.length : Int) := of_decide_eq_true (by first | (with_reducible assumption) | assumption)
    obtain ⟨ad163, e163, hx163_0⟩ := Kd.at_int (Kd.R_reads' HO_57.out).2.2 x59_6 p163 q163
    cases e163
    replace p163 := eq_true p163
    replace q163 := eq_true q163
    obtain ⟨Ao52, co52, eo52⟩ := Kd.R_slice HO_6.out
    subst eo52
    have p164 : 0 ≤ ((rd y160 x59_6) : Int) := of_decide_eq_true (by first | (with_reducible assumption) | assumption)
    have q164 : (rd y160 x59_6) < (x6_6.length : Int) := of_decide_eq_true (by first | (with_reducible assumption) | assumption)
    obtain ⟨ad164, e164, hx164_0⟩ := Kd.at_bool (Kd.R_reads' HO_6.out).2.2 (rd y160 x59_6) p164 q164
    (try rw [← Nbq48.out] at hx164_0)
    cases e164
    replace p164 := eq_true p164
    replace q164 := eq_true q164
    have p51 : 0 ≤ ((rd y160 x59_6) : Int) := of_decide_eq_true (by first | (with_reducible assumption) | assumption)
    have q51 : ((rd y160 x59_6) : Int) < ((x6_6.length : Int) : Int) := of_decide_eq_true (by first | (with_reducible assumption) | assumption)
    obtain ⟨go51, co51, eo51, gb51, gl51, cl51, HG51⟩ := Kd.R_form HO_6.out (by omega)
    (first | cases eo51 | (injection eo51 with ea_ en_ ec_; (first | subst ea_ | (injection ea_ with ea_; subst ea_)); subst ec_; clear en_))
    have GB51 := Aside0.mk gb51
    have GG51 := Aside0.mk HG51
    clear gb51 gl51 HG51
    (first | simp only [add_plain] at hx164_0 | skip)
    obtain ⟨hx51_0, hf51_0⟩ := Kd.R_celln false HO_6.out ((rd y160 x59_6) : Int) p51 q51
    replace p51 := eq_true p51
    replace q51 := eq_true q51
    have HP53 := Kd.R_putg HO_6.out ((rd y160 x59_6) : Int) true
    go_wp2_with (first | ((with_reducible refine gate_store (t := 4) (p := 78) rfl ?_); refine store_event (t := 4) (p := 78) (v := ?vo_w54) (w1 := (wr.setCell ⟨go51, ((rd y160 x59_6) : Int).toNat, none⟩ (.bool true))) ?hg ?ho ?hn ?hr ?_; (case ho => rfl); (case hg => rfl); (case hn => rfl); (case hr => first | (go_simp; done) | (go_simp; rfl)); intro w54 hw; have hg : wr.grownBy w54 (some go51) := (by rw [hw]; exact HP53.2); have hp_ : Kd.R Kd.bool 4 w54 w.heap.size (fun _ => True) (.slice (some ⟨go51, 0, none⟩) x6_6.length co52) y165 := (by rw [hw, Ny165.out]; exact HP53.1); clear HP53; have n0_ := Aside0.mk (hp_); have n1_ := Aside0.mk (Kd.R_over' (v := (.slice (some ⟨go51, 0, none⟩) x6_6.length co52)) (by (with_reducible repeat (first | apply Kd.R_alloc | apply Kd.R_drewN | apply Kd.R_drew)); exact HO_57.out) (Kd.R_typed HO_6.out) (by decide) hg); have n2_ := Aside0.mk (blk_grown (g := gb149) (o := .cells #[.slice (some ad158) l1_0.length c1_0] 59 (0, 0)) (by (with_reducible repeat (first | refine blk_drewN ?_ _ | refine blk_drew ?_ | refine blk_alloc ?_ _)); exact BK149.out) hg (Kd.R_ne HO_6.out BK149.out (by decide))); have n3_ := Aside0.mk (blk_grown (g := gb159) (o := .cells #[.int .i64 ((rd_T162 l1_0 x31_3).f0), .int .i64 ((rd_T162 l1_0 x31_3).f1), .int .i64 ((rd_T162 l1_0 x31_3).f2)] 162 (0, 0)) (by (with_reducible repeat (first | refine blk_drewN ?_ _ | refine blk_drew ?_ | refine blk_alloc ?_ _)); exact BK159.out) hg (Kd.R_ne HO_6.out BK159.out (by decide))); have n4_ := Aside0.mk ((by rw [hw]; exact below_set (HB.out) GB51.out : Below w.heap.size w w54)); clear HO_6; clear HO_57; clear BK149; clear BK159; clear HB; have HO_6 := n0_; have HO_57 := n1_; have BK149 := n2_; have BK159 := n3_; have HB := n4_; clear n0_ n1_ n2_ n3_ n4_; clear hg hw hp_))
    go_roundg k6
    case measure => have := HJ2.out; have := HJ6.out; have := HK3.out; have := HJ18.out; have := HJ28.out; have := HK6.out; omega
    case rel => exact ⟨(y165), (wrap64 (x59_6 + 1)), (by first | rfl | (simp; done) | (simp [*]; done)), H', ⟨by have := HJ2.out; have := HJ6.out; have := HK3.out; have := HJ18.out; have := HJ28.out; have := HK6.out; omega⟩, ⟨by (with_reducible repeat (first | apply Kd.R_alloc | apply Kd.R_drewN | apply Kd.R_drew)); exact HO_6.out⟩, ⟨by (with_reducible repeat (first | apply Kd.R_alloc | apply Kd.R_drewN | apply Kd.R_drew)); exact HO_57.out⟩, ⟨by (with_reducible repeat (first | refine blk_drewN ?_ _ | refine blk_drew ?_ | refine blk_alloc ?_ _)); exact BK149.out⟩, ⟨by (with_reducible repeat (first | refine blk_drewN ?_ _ | refine blk_drew ?_ | refine blk_alloc ?_ _)); exact BK159.out⟩, ⟨by repeat (first | (with_reducible first | exact HB.out | apply below_alloc | apply pw_below_drewN | apply below_drew1 | refine below_set ?_ GE149.out | refine below_set ?_ GE159.out) | exact HB.out)⟩⟩
  ·rw [if_neg c47] at H
   exact absurd H (by simp)
 ·rw [if_neg c46] at H
  exact absurd H (by simp))
  ·rw [if_neg c43] at H
   exact absurd H (by simp)
 ·rw [if_neg c42] at H
  exact absurd H (by simp))
      ·(
 rw [if_neg c41] at H
 have c41b0 : decide (x59_6 < (y160.length : Int)) = false := decide_eq_false c41
 clear c41
 have H' := Aside0.mk H
 clear H
 go_wp2
 go_roundg k6
 case measure => have := HJ2.out; have := HJ6.out; have := HK3.out; have := HJ18.out; have := HJ28.out; have := HK6.out; omega
 case rel => exact ⟨(x6_6), (wrap64 (x31_3 + 1)), (by first | rfl | (simp; done) | (simp [*]; done)), H', ⟨by have := HJ2.out; have := HJ6.out; have := HK3.out; have := HJ18.out; have := HJ28.out; have := HK6.out; omega⟩, ⟨by (with_reducible repeat (first | apply Kd.R_alloc | apply Kd.R_drewN | apply Kd.R_drew)); exact HO_6.out⟩, ⟨by (with_reducible repeat (first | refine blk_drewN ?_ _ | refine blk_drew ?_ | refine blk_alloc ?_ _)); exact BK149.out⟩, ⟨by repeat (first | (with_reducible first | exact HB.out | apply below_alloc | apply pw_below_drewN | apply below_drew1 | refine below_set ?_ GE149.out | refine below_set ?_ GE159.out) | exact HB.out)⟩⟩))
  ·rw [if_neg c18] at H
   exact absurd H (by simp)
 ·rw [if_neg c17] at H
  exact absurd H (by simp))
     ·(
 rw [if_neg c16] at H
 have c16b0 : decide (x31_3 < (l1_0.length : Int)) = false := decide_eq_false c16
 clear c16
 obtain ⟨ji55, hji55⟩ : ∃ j_ : Int, (wrap64 ((l1_0.length : Int) - 1)) = j_ := ⟨_, rfl⟩
 replace H : (if 0 ≤ (ji55) then (if (ji55) ≤ (x6_3.length : Int) then ((slices_Contains_bool_bool.f k3 (x6_3.take ((ji55) : Int).toNat) false).bind fun t157 => (if t157 = true then (some 3) else (some 0))) else (none)) else (none)) = some r := by first | (rw [hji55] at H; exact H) | (simp only [hji55] at H ⊢; exact H)
 have hji55w : (IntKind.i64.wrap ((l1_0.length : Int) - 1)) = ji55 := (i64_w _).trans hji55
 by_cases c56 : 0 ≤ (ji55)
 ·rw [if_pos c56] at H
  have c56b0 := eq_true c56
  have c56b1 : decide (0 ≤ (ji55)) = true := decide_eq_true c56
  clear c56
  by_cases c57 : (ji55) ≤ (x6_3.length : Int)
  ·rw [if_pos c57] at H
   have c57b0 := eq_true c57
   have c57b1 : decide ((ji55) ≤ (x6_3.length : Int)) = true := decide_eq_true c57
   clear c57
   obtain ⟨y153, hy153⟩ : ∃ y_ : List Bool, y_ = (x6_3.take ((ji55) : Int).toNat) := ⟨_, rfl⟩
   replace H : ((slices_Contains_bool_bool.f k3 y153 false).bind fun t157 => (if t157 = true then (some 3) else (some 0))) = some r := by first | (rw [hy153]; with_reducible exact H) | (have H2_ := (Option.bind_some _ _).symm.trans H; rw [hy153]; with_reducible exact H2_) | (have H2_ := (Option.bind_some _ _).symm.trans H; with_reducible exact H2_) | with_reducible exact H | (rw [hy153]; exact H) | exact H
   have Ny153 := Aside0.mk hy153
   clear hy153
   replace H := Option.bind_eq_some_iff.mp H
   obtain ⟨t157, A580, H⟩ := H
   replace H : (if t157 = true then (some 3) else (some 0)) = some r := H
   have A58 := Aside0.mk A580
   clear A580
   by_cases c59 : t157 = true
   ·subst c59
    have H1 : (some 3) = some r := by rw [if_pos rfl] at H; exact H
    clear H
    have H := H1
    clear H1
    obtain rfl := Option.some.inj H
    obtain ⟨Ao61, co61, eo61⟩ := Kd.R_slice HO_6.out
    subst eo61
    have q60 : ((ji55) : Int) ≤ ((x6_3.length : Int) : Int) := of_decide_eq_true (by first | (with_reducible assumption) | assumption)
    obtain ⟨i060, hi060, _, hsz60, _⟩ := info_parts info4
    have hroom60 : x6_3.length ≤ co61 := (Kd.R_reads' HO_6.out).2.1
    have hC60 : Kd.C Kd.bool _ Ao61 x6_3.length x6_3 := (Kd.R_reads' HO_6.out).2.2
    have hcut60 := cut_to (P := Try.prog) 127 4 .i64 Try.underlying127 hi060 Ao61 x6_3.length co61 (ji55) (of_decide_eq_true (by first | (with_reducible assumption) | assumption)) q60 hroom60
    have hr60 := Kd.C_take (m := ((ji55) : Int).toNat) hC60 (by omega)
    have hy60 : y153.length = ((ji55) : Int).toNat := (by rw [Ny153.out, List.length_take]; omega)
    rw [← Ny153.out] at hr60
    rw [← hy60] at hcut60
    have HR156 := Aside0.mk hr60
    have HC156 := Aside0.mk (show y153.length ≤ co61 from by omega)
    clear hr60 hC60 hroom60 hi060 hsz60
    have KY60 := Aside0.mk hy60
    clear hy60
    have KL60 := Aside0.mk (show ((ji55) : Int).toNat ≤ x6_3.length from by omega)
    replace q60 := eq_true q60
    go_wp2_with (first | ((with_reducible refine gate_callee (f := 97) rfl ?_); refine goesL_ (some 85) rfl rfl Try.func97 (by kernel_rfl) rfl #[.slice Ao61 y153.length co61, .bool false] rfl (by (try simp only [List.map_toArray, List.map_cons, List.map_nil]); first | done | rfl | (simp only [List.length_drop, List.length_take]; rfl)) ?_; (with_reducible refine (slices_Contains_bool_bool.calls k3 _ _ y153 false true _ ?side1 ?side2 A58.out).mono ?_); (case side1 => repeat (first | exact (by repeat (first | (with_reducible exact HR156.out) | (with_reducible refine Kd.C_alloc ?_ _) | (with_reducible refine Kd.C_drewN ?_ _) | (with_reducible refine Kd.C_drew ?_) | exact HR156.out)) | (with_reducible refine Kd.C_alloc ?_ _) | (with_reducible refine Kd.C_drewN ?_ _) | (with_reducible refine Kd.C_drew ?_))); (case side2 => exact HC156.out); rintro e w' ⟨rfl, ⟨nd, rfl⟩⟩; refine ⟨_, rfl, ?_⟩))
    go_ret
    exact ⟨by first | rfl | (simp [errW_none, errW_some] <;> rfl) | (simp only [← hji55]; first | rfl | (simp [errW_none, errW_some] <;> rfl)) | (simp [*, errW_none, errW_some] <;> rfl), by repeat (first | (with_reducible first | exact HB.out | apply below_alloc | apply pw_below_drewN | apply below_drew1 | refine below_set ?_ GE149.out) | exact HB.out)⟩
   ·replace c59 := Bool.eq_false_iff.mpr c59
    subst c59
    have H1 : (some 0) = some r := by rw [if_neg (show ¬ (false = true) by decide)] at H; exact H
    clear H
    have H := H1
    clear H1
    obtain rfl := Option.some.inj H
    obtain ⟨Ao63, co63, eo63⟩ := Kd.R_slice HO_6.out
    subst eo63
    have q62 : ((ji55) : Int) ≤ ((x6_3.length : Int) : Int) := of_decide_eq_true (by first | (with_reducible assumption) | assumption)
    obtain ⟨i062, hi062, _, hsz62, _⟩ := info_parts info4
    have hroom62 : x6_3.length ≤ co63 := (Kd.R_reads' HO_6.out).2.1
    have hC62 : Kd.C Kd.bool _ Ao63 x6_3.length x6_3 := (Kd.R_reads' HO_6.out).2.2
    have hcut62 := cut_to (P := Try.prog) 127 4 .i64 Try.underlying127 hi062 Ao63 x6_3.length co63 (ji55) (of_decide_eq_true (by first | (with_reducible assumption) | assumption)) q62 hroom62
    have hr62 := Kd.C_take (m := ((ji55) : Int).toNat) hC62 (by omega)
    have hy62 : y153.length = ((ji55) : Int).toNat := (by rw [Ny153.out, List.length_take]; omega)
    rw [← Ny153.out] at hr62
    rw [← hy62] at hcut62
    have HR156 := Aside0.mk hr62
    have HC156 := Aside0.mk (show y153.length ≤ co63 from by omega)
    clear hr62 hC62 hroom62 hi062 hsz62
    have KY62 := Aside0.mk hy62
    clear hy62
    have KL62 := Aside0.mk (show ((ji55) : Int).toNat ≤ x6_3.length from by omega)
    replace q62 := eq_true q62
    go_wp2_with (first | ((with_reducible refine gate_callee (f := 97) rfl ?_); refine goesL_ (some 85) rfl rfl Try.func97 (by kernel_rfl) rfl #[.slice Ao63 y153.length co63, .bool false] rfl (by (try simp only [List.map_toArray, List.map_cons, List.map_nil]); first | done | rfl | (simp only [List.length_drop, List.length_take]; rfl)) ?_; (with_reducible refine (slices_Contains_bool_bool.calls k3 _ _ y153 false false _ ?side1 ?side2 A58.out).mono ?_); (case side1 => repeat (first | exact (by repeat (first | (with_reducible exact HR156.out) | (with_reducible refine Kd.C_alloc ?_ _) | (with_reducible refine Kd.C_drewN ?_ _) | (with_reducible refine Kd.C_drew ?_) | exact HR156.out)) | (with_reducible refine Kd.C_alloc ?_ _) | (with_reducible refine Kd.C_drewN ?_ _) | (with_reducible refine Kd.C_drew ?_))); (case side2 => exact HC156.out); rintro e w' ⟨rfl, ⟨nd, rfl⟩⟩; refine ⟨_, rfl, ?_⟩))
    go_ret
    exact ⟨by first | rfl | (simp [errW_none, errW_some] <;> rfl) | (simp only [← hji55]; first | rfl | (simp [errW_none, errW_some] <;> rfl)) | (simp [*, errW_none, errW_some] <;> rfl), by repeat (first | (with_reducible first | exact HB.out | apply below_alloc | apply pw_below_drewN | apply below_drew1 | refine below_set ?_ GE149.out) | exact HB.out)⟩
  ·rw [if_neg c57] at H
   exact absurd H (by simp)
 ·rw [if_neg c56] at H
  exact absurd H (by simp))
  ·rw [if_neg c12] at H
   exact absurd H (by simp)
 ·rw [if_neg c11] at H
  exact absurd H (by simp))
end Go.Proofs.Yteacnmjinjaapaa.PTreeAccepts
