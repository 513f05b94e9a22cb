-- Printed over the kit's print by a program of this session (wip/hprint.py), with contracts of its own hand.
import Derived.Test.YteacnmjinjaapaaPTreeAcceptsx0
namespace Go.Proofs.Yteacnmjinjaapaa.PTreeAccepts
open Go.RowKit Go.Proofs.YteacnmjinjaapaaW.PrintWords Go.Proofs.YteacnmjinjaapaaW.PrintLast Go.Proofs.YteacnmjinjaapaaW.PrintMore
attribute [local go_sem] max2_int min2_int max_two min_two max_three min_three max_four min_four   -- for this text's walks alone
set_option linter.unusedVariables false
set_option linter.unusedSimpArgs false

/-! ### evermoreref12_Tree: function 36 -/
mutual
def evermoreref12_Tree.j0 : Nat → Int → Bool → List (S162) → Option (Int)
 | 0, _, _, _ => none
 | k + 1, x0, x15, x167000 => if x15 = true then (some 2) else (if (x167000.length : Int) < 1 then (evermoreref12_Tree.j1 k x0 (x167000.length : Int) true x167000) else (evermoreref12_Tree.j1 k x0 (x167000.length : Int) (decide ((x167000.length : Int) > 60)) x167000))
def evermoreref12_Tree.j1 : Nat → Int → Int → Bool → List (S162) → Option (Int)
 | 0, _, _, _, _ => none
 | k + 1, x0, x5, x24, x167000 => if x24 = true then (some 1) else (if 0 ≤ x5 then (if (x5 : Int).toNat ≤ 281474976710656 then (evermoreref12_Tree.l0 k x0 x5 (List.replicate (x5 : Int).toNat false) 0 x167000) else (none)) else (none))
def evermoreref12_Tree.l0 : Nat → Int → Int → List Bool → Int → List (S162) → Option (Int)
 | 0, _, _, _, _, _ => none
 | k + 1, x0, x5, x6, x7, x167000 => if x7 < x5 then (if 0 ≤ x7 then (if x7 < (x167000.length : Int) then (if ((rd_T162 x167000 x7).f0) < 0 then (evermoreref12_Tree.j3 k x0 x5 x6 x7 true x167000 ((rd_T162 x167000 x7).f0) ((rd_T162 x167000 x7).f1) ((rd_T162 x167000 x7).f2)) else (evermoreref12_Tree.j3 k x0 x5 x6 x7 (decide (((rd_T162 x167000 x7).f0) ≥ x0)) x167000 ((rd_T162 x167000 x7).f0) ((rd_T162 x167000 x7).f1) ((rd_T162 x167000 x7).f2))) else (none)) else (none)) else (evermoreref12_Tree.l1 k x5 x6 0)
def evermoreref12_Tree.j3 : Nat → Int → Int → List Bool → Int → Bool → List (S162) → Int → Int → Int → Option (Int)
 | 0, _, _, _, _, _, _, _, _, _ => none
 | k + 1, x0, x5, x6, x7, x45, x167000, x172000, x172001, x172002 => if x45 = true then (some 2) else (if x172001 = (-1) then (evermoreref12_Tree.j4 k x0 x5 x6 x7 (x172002 == (-1)) x167000 x172000 x172001 x172002) else (evermoreref12_Tree.j4 k x0 x5 x6 x7 false x167000 x172000 x172001 x172002))
def evermoreref12_Tree.j4 : Nat → Int → Int → List Bool → Int → Bool → List (S162) → Int → Int → Int → Option (Int)
 | 0, _, _, _, _, _, _, _, _, _ => none
 | k + 1, x0, x5, x6, x7, x53, x167000, x172000, x172001, x172002 => if x53 = true then (evermoreref12_Tree.l0 k x0 x5 x6 (wrap64 (x7 + 1)) x167000) else (if x172001 < 0 then (evermoreref12_Tree.j5 k x0 x5 x6 x7 true x167000 x172000 x172001 x172002) else (if x172001 ≥ x7 then (evermoreref12_Tree.j5 k x0 x5 x6 x7 true x167000 x172000 x172001 x172002) else (if 0 ≤ x172001 then (if x172001 < (x6.length : Int) then (evermoreref12_Tree.j5 k x0 x5 x6 x7 (rdOf false x6 x172001) x167000 x172000 x172001 x172002) else (none)) else (none))))
def evermoreref12_Tree.j5 : Nat → Int → Int → List Bool → Int → Bool → List (S162) → Int → Int → Int → Option (Int)
 | 0, _, _, _, _, _, _, _, _, _ => none
 | k + 1, x0, x5, x6, x7, x69, x167000, x172000, x172001, x172002 => if x69 = true then (some 3) else (if 0 ≤ x172001 then (if x172001 < (x6.length : Int) then ((some (x6.set (x172001 : Int).toNat true : List Bool)).bind fun y173 => (if x172002 < 0 then (some 3) else (if x172002 ≥ x7 then (some 3) else (if 0 ≤ x172002 then (if x172002 < (x6.length : Int) then (if rdOf false y173 x172002 = true then (some 3) else (evermoreref12_Tree.l0 k x0 x5 (y173.set (x172002 : Int).toNat true) (wrap64 (x7 + 1)) x167000)) else (none)) else (none))))) else (none)) else (none))
def evermoreref12_Tree.l1 : Nat → Int → List Bool → Int → Option (Int)
 | 0, _, _, _ => none
 | k + 1, x5, x6, x9 => if x9 < (wrap64 (x5 - 1)) then (if 0 ≤ x9 then (if x9 < (x6.length : Int) then (if rdOf false x6 x9 = true then (evermoreref12_Tree.l1 k x5 x6 (wrap64 (x9 + 1))) else (some 3)) else (none)) else (none)) else (some 0)
end
def evermoreref12_Tree.f (k : Nat) (a0 : Int) (l1_0 : List (S162)) : Option (Int) := if a0 < 1 then (evermoreref12_Tree.j0 k a0 true l1_0) else (evermoreref12_Tree.j0 k a0 (decide (a0 > 4)) l1_0)
theorem evermoreref12_Tree.mono_l : ∀ k, (∀ y0 y1 y2, LeO (evermoreref12_Tree.j0 k y0 y1 y2) (evermoreref12_Tree.j0 (k + 1) y0 y1 y2)) ∧ (∀ y0 y1 y2 y3, LeO (evermoreref12_Tree.j1 k y0 y1 y2 y3) (evermoreref12_Tree.j1 (k + 1) y0 y1 y2 y3)) ∧ (∀ y0 y1 y2 y3 y4, LeO (evermoreref12_Tree.l0 k y0 y1 y2 y3 y4) (evermoreref12_Tree.l0 (k + 1) y0 y1 y2 y3 y4)) ∧ (∀ y0 y1 y2 y3 y4 y5 y6 y7 y8, LeO (evermoreref12_Tree.j3 k y0 y1 y2 y3 y4 y5 y6 y7 y8) (evermoreref12_Tree.j3 (k + 1) y0 y1 y2 y3 y4 y5 y6 y7 y8)) ∧ (∀ y0 y1 y2 y3 y4 y5 y6 y7 y8, LeO (evermoreref12_Tree.j4 k y0 y1 y2 y3 y4 y5 y6 y7 y8) (evermoreref12_Tree.j4 (k + 1) y0 y1 y2 y3 y4 y5 y6 y7 y8)) ∧ (∀ y0 y1 y2 y3 y4 y5 y6 y7 y8, LeO (evermoreref12_Tree.j5 k y0 y1 y2 y3 y4 y5 y6 y7 y8) (evermoreref12_Tree.j5 (k + 1) y0 y1 y2 y3 y4 y5 y6 y7 y8)) ∧ (∀ y0 y1 y2, LeO (evermoreref12_Tree.l1 k y0 y1 y2) (evermoreref12_Tree.l1 (k + 1) y0 y1 y2))
 | 0 => ⟨fun _ _ _ r h => by simp [evermoreref12_Tree.j0] at h, fun _ _ _ _ r h => by simp [evermoreref12_Tree.j1] at h, fun _ _ _ _ _ r h => by simp [evermoreref12_Tree.l0] at h, fun _ _ _ _ _ _ _ _ _ r h => by simp [evermoreref12_Tree.j3] at h, fun _ _ _ _ _ _ _ _ _ r h => by simp [evermoreref12_Tree.j4] at h, fun _ _ _ _ _ _ _ _ _ r h => by simp [evermoreref12_Tree.j5] at h, fun _ _ _ r h => by simp [evermoreref12_Tree.l1] at h⟩
 | k + 1 => by
  obtain ⟨ih0, ih1, ih2, ih3, ih4, ih5, ih6⟩ := evermoreref12_Tree.mono_l k
  refine ⟨?_, ?_, ?_, ?_, ?_, ?_, ?_⟩
  ·intro y0 y1 y2
   unfold evermoreref12_Tree.j0
   repeat' first
   | (with_reducible exact ih0 _ _ _)
   | (with_reducible exact ih1 _ _ _ _)
   | (with_reducible exact ih2 _ _ _ _ _)
   | (with_reducible exact ih3 _ _ _ _ _ _ _ _ _)
   | (with_reducible exact ih4 _ _ _ _ _ _ _ _ _)
   | (with_reducible exact ih5 _ _ _ _ _ _ _ _ _)
   | (with_reducible exact ih6 _ _ _)
   | (with_reducible exact LeO.refl _)
   | (with_reducible exact LeO.none _)
   | (with_reducible refine LeO.ite ?_ ?_)
   | (with_reducible refine LeO.bind ?_ (fun _ => ?_))
   | exact ih0 _ _ _
   | exact ih1 _ _ _ _
   | exact ih2 _ _ _ _ _
   | exact ih3 _ _ _ _ _ _ _ _ _
   | exact ih4 _ _ _ _ _ _ _ _ _
   | exact ih5 _ _ _ _ _ _ _ _ _
   | exact ih6 _ _ _
   | exact LeO.none _
   | refine LeO.ite ?_ ?_
   | refine LeO.bind ?_ (fun _ => ?_)
  ·intro y0 y1 y2 y3
   unfold evermoreref12_Tree.j1
   repeat' first
   | (with_reducible exact ih0 _ _ _)
   | (with_reducible exact ih1 _ _ _ _)
   | (with_reducible exact ih2 _ _ _ _ _)
   | (with_reducible exact ih3 _ _ _ _ _ _ _ _ _)
   | (with_reducible exact ih4 _ _ _ _ _ _ _ _ _)
   | (with_reducible exact ih5 _ _ _ _ _ _ _ _ _)
   | (with_reducible exact ih6 _ _ _)
   | (with_reducible exact LeO.refl _)
   | (with_reducible exact LeO.none _)
   | (with_reducible refine LeO.ite ?_ ?_)
   | (with_reducible refine LeO.bind ?_ (fun _ => ?_))
   | exact ih0 _ _ _
   | exact ih1 _ _ _ _
   | exact ih2 _ _ _ _ _
   | exact ih3 _ _ _ _ _ _ _ _ _
   | exact ih4 _ _ _ _ _ _ _ _ _
   | exact ih5 _ _ _ _ _ _ _ _ _
   | exact ih6 _ _ _
   | exact LeO.none _
   | refine LeO.ite ?_ ?_
   | refine LeO.bind ?_ (fun _ => ?_)
  ·intro y0 y1 y2 y3 y4
   unfold evermoreref12_Tree.l0
   repeat' first
   | (with_reducible exact ih0 _ _ _)
   | (with_reducible exact ih1 _ _ _ _)
   | (with_reducible exact ih2 _ _ _ _ _)
   | (with_reducible exact ih3 _ _ _ _ _ _ _ _ _)
   | (with_reducible exact ih4 _ _ _ _ _ _ _ _ _)
   | (with_reducible exact ih5 _ _ _ _ _ _ _ _ _)
   | (with_reducible exact ih6 _ _ _)
   | (with_reducible exact LeO.refl _)
   | (with_reducible exact LeO.none _)
   | (with_reducible refine LeO.ite ?_ ?_)
   | (with_reducible refine LeO.bind ?_ (fun _ => ?_))
   | exact ih0 _ _ _
   | exact ih1 _ _ _ _
   | exact ih2 _ _ _ _ _
   | exact ih3 _ _ _ _ _ _ _ _ _
   | exact ih4 _ _ _ _ _ _ _ _ _
   | exact ih5 _ _ _ _ _ _ _ _ _
   | exact ih6 _ _ _
   | exact LeO.none _
   | refine LeO.ite ?_ ?_
   | refine LeO.bind ?_ (fun _ => ?_)
  ·intro y0 y1 y2 y3 y4 y5 y6 y7 y8
   unfold evermoreref12_Tree.j3
   repeat' first
   | (with_reducible exact ih0 _ _ _)
   | (with_reducible exact ih1 _ _ _ _)
   | (with_reducible exact ih2 _ _ _ _ _)
   | (with_reducible exact ih3 _ _ _ _ _ _ _ _ _)
   | (with_reducible exact ih4 _ _ _ _ _ _ _ _ _)
   | (with_reducible exact ih5 _ _ _ _ _ _ _ _ _)
   | (with_reducible exact ih6 _ _ _)
   | (with_reducible exact LeO.refl _)
   | (with_reducible exact LeO.none _)
   | (with_reducible refine LeO.ite ?_ ?_)
   | (with_reducible refine LeO.bind ?_ (fun _ => ?_))
   | exact ih0 _ _ _
   | exact ih1 _ _ _ _
   | exact ih2 _ _ _ _ _
   | exact ih3 _ _ _ _ _ _ _ _ _
   | exact ih4 _ _ _ _ _ _ _ _ _
   | exact ih5 _ _ _ _ _ _ _ _ _
   | exact ih6 _ _ _
   | exact LeO.none _
   | refine LeO.ite ?_ ?_
   | refine LeO.bind ?_ (fun _ => ?_)
  ·intro y0 y1 y2 y3 y4 y5 y6 y7 y8
   unfold evermoreref12_Tree.j4
   repeat' first
   | (with_reducible exact ih0 _ _ _)
   | (with_reducible exact ih1 _ _ _ _)
   | (with_reducible exact ih2 _ _ _ _ _)
   | (with_reducible exact ih3 _ _ _ _ _ _ _ _ _)
   | (with_reducible exact ih4 _ _ _ _ _ _ _ _ _)
   | (with_reducible exact ih5 _ _ _ _ _ _ _ _ _)
   | (with_reducible exact ih6 _ _ _)
   | (with_reducible exact LeO.refl _)
   | (with_reducible exact LeO.none _)
   | (with_reducible refine LeO.ite ?_ ?_)
   | (with_reducible refine LeO.bind ?_ (fun _ => ?_))
   | exact ih0 _ _ _
   | exact ih1 _ _ _ _
   | exact ih2 _ _ _ _ _
   | exact ih3 _ _ _ _ _ _ _ _ _
   | exact ih4 _ _ _ _ _ _ _ _ _
   | exact ih5 _ _ _ _ _ _ _ _ _
   | exact ih6 _ _ _
   | exact LeO.none _
   | refine LeO.ite ?_ ?_
   | refine LeO.bind ?_ (fun _ => ?_)
  ·intro y0 y1 y2 y3 y4 y5 y6 y7 y8
   unfold evermoreref12_Tree.j5
   repeat' first
   | (with_reducible exact ih0 _ _ _)
   | (with_reducible exact ih1 _ _ _ _)
   | (with_reducible exact ih2 _ _ _ _ _)
   | (with_reducible exact ih3 _ _ _ _ _ _ _ _ _)
   | (with_reducible exact ih4 _ _ _ _ _ _ _ _ _)
   | (with_reducible exact ih5 _ _ _ _ _ _ _ _ _)
   | (with_reducible exact ih6 _ _ _)
   | (with_reducible exact LeO.refl _)
   | (with_reducible exact LeO.none _)
   | (with_reducible refine LeO.ite ?_ ?_)
   | (with_reducible refine LeO.bind ?_ (fun _ => ?_))
   | exact ih0 _ _ _
   | exact ih1 _ _ _ _
   | exact ih2 _ _ _ _ _
   | exact ih3 _ _ _ _ _ _ _ _ _
   | exact ih4 _ _ _ _ _ _ _ _ _
   | exact ih5 _ _ _ _ _ _ _ _ _
   | exact ih6 _ _ _
   | exact LeO.none _
   | refine LeO.ite ?_ ?_
   | refine LeO.bind ?_ (fun _ => ?_)
  ·intro y0 y1 y2
   unfold evermoreref12_Tree.l1
   repeat' first
   | (with_reducible exact ih0 _ _ _)
   | (with_reducible exact ih1 _ _ _ _)
   | (with_reducible exact ih2 _ _ _ _ _)
   | (with_reducible exact ih3 _ _ _ _ _ _ _ _ _)
   | (with_reducible exact ih4 _ _ _ _ _ _ _ _ _)
   | (with_reducible exact ih5 _ _ _ _ _ _ _ _ _)
   | (with_reducible exact ih6 _ _ _)
   | (with_reducible exact LeO.refl _)
   | (with_reducible exact LeO.none _)
   | (with_reducible refine LeO.ite ?_ ?_)
   | (with_reducible refine LeO.bind ?_ (fun _ => ?_))
   | exact ih0 _ _ _
   | exact ih1 _ _ _ _
   | exact ih2 _ _ _ _ _
   | exact ih3 _ _ _ _ _ _ _ _ _
   | exact ih4 _ _ _ _ _ _ _ _ _
   | exact ih5 _ _ _ _ _ _ _ _ _
   | exact ih6 _ _ _
   | exact LeO.none _
   | refine LeO.ite ?_ ?_
   | refine LeO.bind ?_ (fun _ => ?_)
theorem evermoreref12_Tree.mono : ∀ a0 a1 k, LeO (evermoreref12_Tree.f k a0 a1) (evermoreref12_Tree.f (k + 1) a0 a1) := by
 intro a0 a1 k
 obtain ⟨ih0, ih1, ih2, ih3, ih4, ih5, ih6⟩ := evermoreref12_Tree.mono_l k
 unfold evermoreref12_Tree.f
 repeat' first
   | (with_reducible exact ih0 _ _ _)
   | (with_reducible exact ih1 _ _ _ _)
   | (with_reducible exact ih2 _ _ _ _ _)
   | (with_reducible exact ih3 _ _ _ _ _ _ _ _ _)
   | (with_reducible exact ih4 _ _ _ _ _ _ _ _ _)
   | (with_reducible exact ih5 _ _ _ _ _ _ _ _ _)
   | (with_reducible exact ih6 _ _ _)
   | (with_reducible exact LeO.refl _)
   | (with_reducible exact LeO.none _)
   | (with_reducible refine LeO.ite ?_ ?_)
   | (with_reducible refine LeO.bind ?_ (fun _ => ?_))
   | exact ih0 _ _ _
   | exact ih1 _ _ _ _
   | exact ih2 _ _ _ _ _
   | exact ih3 _ _ _ _ _ _ _ _ _
   | exact ih4 _ _ _ _ _ _ _ _ _
   | exact ih5 _ _ _ _ _ _ _ _ _
   | exact ih6 _ _ _
   | exact LeO.none _
   | refine LeO.ite ?_ ?_
   | refine LeO.bind ?_ (fun _ => ?_)
set_option maxHeartbeats 8000000 in
set_option maxRecDepth 100000 in
theorem evermoreref12_Tree.calls (k : Nat) (a0 : Int) (A1_0 : Option Addr) (c1_0 : Nat) (l1_0 : List (S162)) (r : Int) (w : World) (hr1_0 : Kd.C k162 w A1_0 l1_0.length l1_0) (hc1_0 : l1_0.length ≤ c1_0) (h : evermoreref12_Tree.f k a0 l1_0 = some r) :
  Calls Try.prog 36 #[.int .i64 a0, .agg #[.slice A1_0 l1_0.length c1_0]] w fun e w' => e = .returned (.int .i64 r) ∧ Below w.heap.size w w' := by
 have hu59 := Try.underlying59
 have hu162 := Try.underlying162
 have HR1_0 := Aside0.mk hr1_0
 have HC1_0 := Aside0.mk hc1_0
 clear hr1_0 hc1_0
 have HB := Aside0.mk (Below.refl w.heap.size w)
 have H : (if a0 < 1 then (evermoreref12_Tree.j0 k a0 true l1_0) else (evermoreref12_Tree.j0 k a0 (decide (a0 > 4)) l1_0)) = some r := h
 clear h
 have HC3 := Aside0.mk H
 clear H
 go_enter Try.func36, Try.ntmps36
 go_upto_region 1 with (first | ((with_reducible refine gate_dst (N := 3) rfl ?_); refine box_event ?hg (N := 3) ?hd (cs := #[.slice A1_0 l1_0.length c1_0]) (t := 59) ?hr ?_; (case hd => rfl); (case hg => rfl); (case hr => first | (go_simp; done) | (go_simp; rfl)); intro gb166 hg w4 hbox hb; have n0_ := Aside0.mk (below_step (by repeat (first | (with_reducible first | exact HB.out | apply below_alloc | apply pw_below_drewN | apply below_drew1) | exact HB.out)) hb); have n1_ := Aside0.mk (hbox); have n2_ := Aside0.mk ((by rw [hg]; exact (below_size (by repeat (first | (with_reducible first | exact HB.out | apply below_alloc | apply pw_below_drewN | apply below_drew1) | exact HB.out))) : w.heap.size ≤ gb166)); have n3_ := Aside0.mk ((by rw [hg]; exact (below_size (by repeat (first | (with_reducible first | exact HB.out | apply below_alloc | apply pw_below_drewN | apply below_drew1) | exact HB.out))) : w.heap.size ≤ gb166)); clear HB; have HB := n0_; have BK166 := n1_; have GW166 := n2_; have GE166 := n3_; clear n0_ n1_ n2_ n3_; clear hb hbox hg))
 (try simp only [Act.put, List.setIfInBounds_toArray, List.set_cons_zero, List.set_cons_succ])
 go_cut [15] (fun v15 wc => ∃ (kq : Nat) (x15_2 : Bool), v15 = .bool x15_2 ∧ Aside0 (evermoreref12_Tree.j0 kq a0 x15_2 l1_0 = some r) ∧ Aside0 (kq ≤ k) ∧ Aside0 (wc.heap[gb166]? = some (.cells #[(.slice A1_0 l1_0.length c1_0)] 59 (0, 0))) ∧ Aside0 (Below w.heap.size w wc))
 case first =>
  have H := HC3.out
  clear HC3
  by_cases c5 : a0 < 1
  ·rw [if_pos c5] at H
   have c5b0 : decide (a0 < 1) = true := decide_eq_true c5
   clear c5
   (first | rw [c5b0] | (simp only [i64_w, i32_w]; rw [c5b0]) | skip)
   have H' := Aside0.mk H
   clear H
   go_wp2
   go_meet
   case rel => exact ⟨_, (true), (by first | rfl | (simp; done) | (simp [*]; done)), H', ⟨by first | omega | exact Nat.le_refl _⟩, ⟨by (with_reducible repeat (first | refine blk_drewN ?_ _ | refine blk_drew ?_ | refine blk_alloc ?_ _)); exact BK166.out⟩, ⟨by repeat (first | (with_reducible first | exact HB.out | apply below_alloc | apply pw_below_drewN | apply below_drew1 | refine below_set ?_ GE166.out) | exact HB.out)⟩⟩
  ·rw [if_neg c5] at H
   have c5b0 : decide (a0 < 1) = false := decide_eq_false c5
   clear c5
   (first | rw [c5b0] | (simp only [i64_w, i32_w]; rw [c5b0]) | skip)
   have H' := Aside0.mk H
   clear H
   go_wp2
   go_meet
   case rel => exact ⟨_, (decide (a0 > 4)), (by first | rfl | (simp; done) | (simp [*]; done)), H', ⟨by first | omega | exact Nat.le_refl _⟩, ⟨by (with_reducible repeat (first | refine blk_drewN ?_ _ | refine blk_drew ?_ | refine blk_alloc ?_ _)); exact BK166.out⟩, ⟨by repeat (first | (with_reducible first | exact HB.out | apply below_alloc | apply pw_below_drewN | apply below_drew1 | refine below_set ?_ GE166.out) | exact HB.out)⟩⟩
 case rest =>
  clear HC3
  try clear c1
  try clear p2
  try clear c3
  try clear c5
  try clear c5b0
  obtain ⟨kq, x15_2, rfl, HA, HJ2, BK166, HB⟩ := hcut
  cases kq with
  | zero => exact absurd HA.out (by simp [evermoreref12_Tree.j0])
  | succ kj2 =>
   have H := HA.out
   clear HA
   simp only [evermoreref12_Tree.j0] at H
   by_cases c6 : x15_2 = true
   ·subst c6
    have H1 : (some 2) = some r := by rw [if_pos rfl] at H; exact H
    clear H
    have H := H1
    clear H1
    obtain rfl := Option.some.inj H
    go_wp2
    go_ret
    exact ⟨by first | rfl | (simp [errW_none, errW_some] <;> rfl) | (simp [*, errW_none, errW_some] <;> rfl), by repeat (first | (with_reducible first | exact HB.out | apply below_alloc | apply pw_below_drewN | apply below_drew1 | refine below_set ?_ GE166.out) | exact HB.out)⟩
   ·replace c6 := Bool.eq_false_iff.mpr c6
    subst c6
    have H1 : (if (l1_0.length : Int) < 1 then (evermoreref12_Tree.j1 kj2 a0 (l1_0.length : Int) true l1_0) else (evermoreref12_Tree.j1 kj2 a0 (l1_0.length : Int) (decide ((l1_0.length : Int) > 60)) l1_0)) = some r := by rw [if_neg (show ¬ (false = true) by decide)] at H; exact H
    clear H
    have H := H1
    clear H1
    have HC7 := Aside0.mk H
    clear H
    have hcz8_0 : wc.cell? ⟨gb166, 0, none⟩ = some (.slice A1_0 l1_0.length c1_0) := (blk_cell BK166.out 0).trans rfl
    have hfz8_0 := blk_frozen BK166.out 0
    go_upto_region 4 with (fail)
    go_cut [24] (fun v24 wc => ∃ (kq : Nat) (x24_6 : Bool), v24 = .bool x24_6 ∧ Aside0 (evermoreref12_Tree.j1 kq a0 (l1_0.length : Int) x24_6 l1_0 = some r) ∧ Aside0 (kq ≤ kj2) ∧ Aside0 (wc.heap[gb166]? = some (.cells #[(.slice A1_0 l1_0.length c1_0)] 59 (0, 0))) ∧ Aside0 (Below w.heap.size w wc))
    case first =>
     have H := HC7.out
     clear HC7
     by_cases c9 : (l1_0.length : Int) < 1
     ·(
 rw [if_pos c9] at H
 have c9b0 : decide ((l1_0.length : Int) < 1) = true := decide_eq_true c9
 have c9b1 : decide (l1_0.length < 1) = true := decide_eq_true (by omega)
 clear c9
 (first | rw [c9b0] | (simp only [i64_w, i32_w]; rw [c9b0]) | skip)
 have H' := Aside0.mk H
 clear H
 go_wp2
 go_meet
 case rel => exact ⟨_, (true), (by first | rfl | (simp; done) | (simp [*]; done)), H', ⟨by have := HJ2.out; first | omega | exact Nat.le_refl _⟩, ⟨by (with_reducible repeat (first | refine blk_drewN ?_ _ | refine blk_drew ?_ | refine blk_alloc ?_ _)); exact BK166.out⟩, ⟨by repeat (first | (with_reducible first | exact HB.out | apply below_alloc | apply pw_below_drewN | apply below_drew1 | refine below_set ?_ GE166.out) | exact HB.out)⟩⟩)
     ·(
 rw [if_neg c9] at H
 have c9b0 : decide ((l1_0.length : Int) < 1) = false := decide_eq_false c9
 have c9b1 : decide (l1_0.length < 1) = false := decide_eq_false (by omega)
 clear c9
 (first | rw [c9b0] | (simp only [i64_w, i32_w]; rw [c9b0]) | skip)
 have H' := Aside0.mk H
 clear H
 go_wp2
 go_meet
 case rel => exact ⟨_, (decide ((l1_0.length : Int) > 60)), (by first | rfl | (simp; done) | (simp [*]; done)), H', ⟨by have := HJ2.out; first | omega | exact Nat.le_refl _⟩, ⟨by (with_reducible repeat (first | refine blk_drewN ?_ _ | refine blk_drew ?_ | refine blk_alloc ?_ _)); exact BK166.out⟩, ⟨by repeat (first | (with_reducible first | exact HB.out | apply below_alloc | apply pw_below_drewN | apply below_drew1 | refine below_set ?_ GE166.out) | exact HB.out)⟩⟩)
    case rest =>
     clear HC7
     try clear c1
     try clear p2
     try clear c3
     try clear c5
     try clear c5b0
     try clear c6
     try clear c9
     try clear c9b0
     try clear c9b1
     try clear hcz8_0
     try clear hfz8_0
     try clear p2
     obtain ⟨kq, x24_6, rfl, HA, HJ6, BK166, HB⟩ := hcut
     cases kq with
     | zero => exact absurd HA.out (by simp [evermoreref12_Tree.j1])
     | succ kj6 =>
      have H := HA.out
      clear HA
      simp only [evermoreref12_Tree.j1] at H
      by_cases c10 : x24_6 = true
      ·(
 subst c10
 have H1 : (some 1) = some r := by rw [if_pos rfl] at H; exact H
 clear H
 have H := H1
 clear H1
 obtain rfl := Option.some.inj H
 go_wp2
 go_ret
 exact ⟨by first | rfl | (simp [errW_none, errW_some] <;> rfl) | (simp [*, errW_none, errW_some] <;> rfl), by repeat (first | (with_reducible first | exact HB.out | apply below_alloc | apply pw_below_drewN | apply below_drew1 | refine below_set ?_ GE166.out) | exact HB.out)⟩)
      ·(
 replace c10 := Bool.eq_false_iff.mpr c10
 subst c10
 have H1 : (if 0 ≤ (l1_0.length : Int) then (if ((l1_0.length : Int) : Int).toNat ≤ 281474976710656 then (evermoreref12_Tree.l0 kj6 a0 (l1_0.length : Int) (List.replicate ((l1_0.length : Int) : Int).toNat false) 0 l1_0) else (none)) else (none)) = some r := by rw [if_neg (show ¬ (false = true) by decide)] at H; exact H
 clear H
 have H := H1
 clear H1
 by_cases c11 : 0 ≤ (l1_0.length : Int)
 ·rw [if_pos c11] at H
  have c11b0 := eq_true c11
  have c11b1 : decide (0 ≤ (l1_0.length : Int)) = true := decide_eq_true c11
  clear c11
  by_cases c12 : ((l1_0.length : Int) : Int).toNat ≤ 281474976710656
  ·rw [if_pos c12] at H
   have c12b0 := eq_true c12
   have c12b1 : decide (((l1_0.length : Int) : Int).toNat ≤ 281474976710656) = true := decide_eq_true c12
   clear c12
   obtain ⟨y167, hy167⟩ : ∃ y_ : List Bool, y_ = (List.replicate ((l1_0.length : Int) : Int).toNat false) := ⟨_, rfl⟩
   replace H : (evermoreref12_Tree.l0 kj6 a0 (l1_0.length : Int) y167 0 l1_0) = some r := by first | (rw [hy167]; with_reducible exact H) | (have H2_ := (Option.bind_some _ _).symm.trans H; rw [hy167]; with_reducible exact H2_) | (have H2_ := (Option.bind_some _ _).symm.trans H; with_reducible exact H2_) | with_reducible exact H | (rw [hy167]; exact H) | exact H
   have Ny167 := Aside0.mk hy167
   clear hy167
   have H' := Aside0.mk H
   clear H
   go_wp2_with (first | ((with_reducible refine gate_dst (N := 26) rfl ?_); refine Kd.R_make Kd.bool _ 4 rfl (N := 26) rfl 127 _ _ rfl (l1_0.length : Int) rfl rfl Try.underlying127 (.bool false) 1 info4 rfl (by decide) (by omega) false (ok := fun _ => True) (okp := fun _ => True) rfl (fun _ hk => hk) trivial (of_decide_eq_true (by first | (with_reducible assumption) | assumption)) (Nat.le_trans (Nat.mul_le_mul_right _ (of_decide_eq_true (by first | (with_reducible assumption) | assumption) : (l1_0.length : Int).toNat ≤ 281474976710656)) (by omega)) (Below.refl _ _) (Nat.le_refl _) ?_; intro v168 w13 ho14 hb hg_ hnew_; clear hg_ hnew_; (first | rw [← Ny167.out] at ho14 | (simp only [Int.reduceToNat] at ho14; rw [← Ny167.out] at ho14)); have n0_ := Aside0.mk (Kd.R_lower ho14 (below_size (by repeat (first | (with_reducible first | exact HB.out | apply below_alloc | apply pw_below_drewN | apply below_drew1 | refine below_set ?_ GE166.out) | exact HB.out)))); have n1_ := Aside0.mk (blk_below (g := gb166) (o := .cells #[.slice A1_0 l1_0.length c1_0] 59 (0, 0)) (by (with_reducible repeat (first | refine blk_drewN ?_ _ | refine blk_drew ?_ | refine blk_alloc ?_ _)); exact BK166.out) hb); have n2_ := Aside0.mk (below_step (by repeat (first | (with_reducible first | exact HB.out | apply below_alloc | apply pw_below_drewN | apply below_drew1 | refine below_set ?_ GE166.out) | exact HB.out)) hb); clear BK166; clear HB; have HO169 := n0_; have BK166 := n1_; have HB := n2_; clear n0_ n1_ n2_; clear hb ho14))
   go_loopg [7] kj6 (fun kq v7 w' => ∃ (x6_3 : List Bool) (x7_3 : Int), v7 = .int .i64 x7_3 ∧ Aside0 (evermoreref12_Tree.l0 kq a0 (l1_0.length : Int) x6_3 x7_3 l1_0 = some r) ∧ Aside0 (kq ≤ kj6) ∧ Aside0 (Kd.R Kd.bool 4 w' w.heap.size (fun _ => True) v168 x6_3) ∧ Aside0 (w'.heap[gb166]? = some (.cells #[(.slice A1_0 l1_0.length c1_0)] 59 (0, 0))) ∧ Aside0 (Below w.heap.size w w'))
   case atStart => exact ⟨(y167), (0), (by first | rfl | (simp; done) | (simp [*]; done)), H', ⟨Nat.le_refl _⟩, ⟨by (with_reducible repeat (first | apply Kd.R_alloc | apply Kd.R_drewN | apply Kd.R_drew)); exact HO169.out⟩, ⟨by (with_reducible repeat (first | refine blk_drewN ?_ _ | refine blk_drew ?_ | refine blk_alloc ?_ _)); exact BK166.out⟩, ⟨by repeat (first | (with_reducible first | exact HB.out | apply below_alloc | apply pw_below_drewN | apply below_drew1 | refine below_set ?_ GE166.out) | exact HB.out)⟩⟩
   case round =>
    clear H'
    try clear c1
    try clear p2
    try clear c3
    try clear c5
    try clear c5b0
    try clear c6
    try clear c9
    try clear c9b0
    try clear c9b1
    try clear c10
    try clear c11
    try clear c11b0
    try clear c11b1
    try clear c12
    try clear c12b0
    try clear c12b1
    try clear hcz8_0
    try clear hfz8_0
    try clear p2
    obtain ⟨x6_3, x7_3, rfl, HA, HK3, HO_6, BK166, HB⟩ := hrel
    cases gk with
    | zero => exact absurd HA.out (by simp [evermoreref12_Tree.l0])
    | succ k3 =>
     have H := HA.out
     clear HA
     simp only [evermoreref12_Tree.l0] at H
     by_cases c15 : x7_3 < (l1_0.length : Int)
     ·(
 rw [if_pos c15] at H
 have c15b0 : decide (x7_3 < (l1_0.length : Int)) = true := decide_eq_true c15
 clear c15
 by_cases c16 : 0 ≤ x7_3
 ·rw [if_pos c16] at H
  have c16b0 : decide (0 ≤ x7_3) = true := decide_eq_true c16
  clear c16
  by_cases c17 : x7_3 < (l1_0.length : Int)
  ·rw [if_pos c17] at H
   have c17b0 : decide (x7_3 < (l1_0.length : Int)) = true := decide_eq_true c17
   clear c17
   have HC18 := Aside0.mk H
   clear H
   have hcz19_0 : wr.cell? ⟨gb166, 0, none⟩ = some (.slice A1_0 l1_0.length c1_0) := (blk_cell BK166.out 0).trans rfl
   have hfz19_0 := blk_frozen BK166.out 0
   have p170 : 0 ≤ (x7_3 : Int) := of_decide_eq_true (by first | (with_reducible assumption) | assumption)
   have q170 : x7_3 < (l1_0.length : Int) := of_decide_eq_true (by first | (with_reducible assumption) | assumption)
   obtain ⟨ad170, e170, hx170_0, hx170_1, hx170_2⟩ := at_T162 HR1_0.out x7_3 p170 q170
   cases e170
   replace hx170_0 := (HB.out.cell (World.block_lt_of_cell? w _ hx170_0)).trans hx170_0
   replace hx170_1 := (HB.out.cell (World.block_lt_of_cell? w _ hx170_1)).trans hx170_1
   replace hx170_2 := (HB.out.cell (World.block_lt_of_cell? w _ hx170_2)).trans hx170_2
   replace p170 := eq_true p170
   replace q170 := eq_true q170
   go_upto_region 11 with (first | ((with_reducible refine gate_dst (N := 8) rfl ?_); refine box_event ?hg (N := 8) ?hd (cs := #[.int .i64 0, .int .i64 0, .int .i64 0]) (t := 162) ?hr ?_; (case hd => rfl); (case hg => rfl); (case hr => first | (go_simp; done) | (go_simp; rfl)); intro gb171 hg w20 hbox hb; have n0_ := Aside0.mk (Kd.R_below (by (with_reducible repeat (first | apply Kd.R_alloc | apply Kd.R_drewN | apply Kd.R_drew)); exact HO_6.out) hb); have n1_ := Aside0.mk (blk_below (g := gb166) (o := .cells #[.slice (some ad170) l1_0.length c1_0] 59 (0, 0)) (by (with_reducible repeat (first | refine blk_drewN ?_ _ | refine blk_drew ?_ | refine blk_alloc ?_ _)); exact BK166.out) hb); have n2_ := Aside0.mk (below_step (by repeat (first | (with_reducible first | exact HB.out | apply below_alloc | apply pw_below_drewN | apply below_drew1 | refine below_set ?_ GE166.out) | exact HB.out)) hb); have n3_ := Aside0.mk (hbox); have n4_ := Aside0.mk ((by rw [hg]; exact (below_size (by repeat (first | (with_reducible first | exact HB.out | apply below_alloc | apply pw_below_drewN | apply below_drew1 | refine below_set ?_ GE166.out) | exact HB.out))) : w.heap.size ≤ gb171)); have n5_ := Aside0.mk ((by rw [hg]; exact (below_size (by repeat (first | (with_reducible first | exact HB.out | apply below_alloc | apply pw_below_drewN | apply below_drew1 | refine below_set ?_ GE166.out) | exact HB.out))) : w.heap.size ≤ gb171)); have n6_ := Aside0.mk ((by rw [hg]; exact Nat.ne_of_lt (blk_lt (g := gb166) (o := .cells #[.slice (some ad170) l1_0.length c1_0] 59 (0, 0)) (by (with_reducible repeat (first | refine blk_drewN ?_ _ | refine blk_drew ?_ | refine blk_alloc ?_ _)); exact BK166.out)) : gb166 ≠ gb171)); have n7_ := Aside0.mk ((by rw [hg]; exact Nat.ne_of_gt (blk_lt (g := gb166) (o := .cells #[.slice (some ad170) l1_0.length c1_0] 59 (0, 0)) (by (with_reducible repeat (first | refine blk_drewN ?_ _ | refine blk_drew ?_ | refine blk_alloc ?_ _)); exact BK166.out)) : gb171 ≠ gb166)); clear HO_6; clear BK166; clear HB; have HO_6 := n0_; have BK166 := n1_; have HB := n2_; have BK171 := n3_; have GW171 := n4_; have GE171 := n5_; have NB166_171 := n6_; have NB171_166 := n7_; clear n0_ n1_ n2_ n3_ n4_ n5_ n6_ n7_; clear hb hbox hg; have hnb21 := NB171_166.out; have hnc21 := NB166_171.out; have hcz22_0 : w20.cell? ⟨gb171, 0, none⟩ = some (.int .i64 0) := (blk_cell BK171.out 0).trans rfl; have hcz22_1 : w20.cell? ⟨gb171, 1, none⟩ = some (.int .i64 0) := (blk_cell BK171.out 1).trans rfl; have hcz22_2 : w20.cell? ⟨gb171, 2, none⟩ = some (.int .i64 0) := (blk_cell BK171.out 2).trans rfl; have hfz22_0 := blk_frozen BK171.out 0; have hfz22_1 := blk_frozen BK171.out 1; have hfz22_2 := blk_frozen BK171.out 2))
   (try simp only [Act.put, List.setIfInBounds_toArray, List.set_cons_zero, List.set_cons_succ])
   go_cut [45] (fun v45 wc => ∃ (kq : Nat) (x45_17 : Bool), v45 = .bool x45_17 ∧ Aside0 (evermoreref12_Tree.j3 kq a0 (l1_0.length : Int) x6_3 x7_3 x45_17 l1_0 ((rd_T162 l1_0 x7_3).f0) ((rd_T162 l1_0 x7_3).f1) ((rd_T162 l1_0 x7_3).f2) = some r) ∧ Aside0 (kq ≤ k3) ∧ Aside0 (Kd.R Kd.bool 4 wc w.heap.size (fun _ => True) v168 x6_3) ∧ Aside0 (wc.heap[gb166]? = some (.cells #[(.slice (some ad170) l1_0.length c1_0)] 59 (0, 0))) ∧ Aside0 (wc.heap[gb171]? = some (.cells #[.int .i64 ((rd_T162 l1_0 x7_3).f0), .int .i64 ((rd_T162 l1_0 x7_3).f1), .int .i64 ((rd_T162 l1_0 x7_3).f2)] 162 (0, 0))) ∧ Aside0 (Below w.heap.size w wc))
   case first =>
    have H := HC18.out
    clear HC18
    by_cases c23 : ((rd_T162 l1_0 x7_3).f0) < 0
    ·(
 rw [if_pos c23] at H
 have c23b0 : decide (((rd_T162 l1_0 x7_3).f0) < 0) = true := decide_eq_true c23
 clear c23
 (first | rw [c23b0] | (simp only [i64_w, i32_w]; rw [c23b0]) | skip)
 have H' := Aside0.mk H
 clear H
 have hnb24 := NB171_166.out
 have hnc24 := NB166_171.out
 have hcz25_0 : w20.cell? ⟨gb171, 0, none⟩ = some (.int .i64 0) := (blk_cell BK171.out 0).trans rfl
 have hcz25_1 : w20.cell? ⟨gb171, 1, none⟩ = some (.int .i64 0) := (blk_cell BK171.out 1).trans rfl
 have hcz25_2 : w20.cell? ⟨gb171, 2, none⟩ = some (.int .i64 0) := (blk_cell BK171.out 2).trans rfl
 have hfz25_0 := blk_frozen BK171.out 0
 have hfz25_1 := blk_frozen BK171.out 1
 have hfz25_2 := blk_frozen BK171.out 2
 go_wp2
 go_meet
 case rel => exact ⟨_, (true), (by first | rfl | (simp; done) | (simp [*]; done)), H', ⟨by have := HJ2.out; have := HJ6.out; have := HK3.out; first | omega | exact Nat.le_refl _⟩, ⟨by (with_reducible repeat (first | apply Kd.R_alloc | apply Kd.R_drewN | apply Kd.R_drew)); exact Kd.R_mono (Kd.R_far (p := ⟨gb171, 2, none⟩) (Kd.R_far (p := ⟨gb171, 1, none⟩) (Kd.R_far (p := ⟨gb171, 0, none⟩) (Kd.R_types HO_6.out BK171.out (by decide)) (fun _ hk => hk.2) (.int .i64 ((rd_T162 l1_0 x7_3).f0))) (fun _ hk => hk.2) (.int .i64 ((rd_T162 l1_0 x7_3).f1))) (fun _ hk => hk.2) (.int .i64 ((rd_T162 l1_0 x7_3).f2))) (fun _ hk => trivial)⟩, ⟨by (with_reducible repeat (first | refine blk_drewN ?_ _ | refine blk_drew ?_ | refine blk_alloc ?_ _)); refine blk_far ?_ NB166_171.out _; (with_reducible repeat (first | refine blk_drewN ?_ _ | refine blk_drew ?_ | refine blk_alloc ?_ _)); refine blk_far ?_ NB166_171.out _; (with_reducible repeat (first | refine blk_drewN ?_ _ | refine blk_drew ?_ | refine blk_alloc ?_ _)); refine blk_far ?_ NB166_171.out _; (with_reducible repeat (first | refine blk_drewN ?_ _ | refine blk_drew ?_ | refine blk_alloc ?_ _)); exact BK166.out⟩, ⟨by (with_reducible repeat (first | refine blk_drewN ?_ _ | refine blk_drew ?_ | refine blk_alloc ?_ _)); refine blk_put (cs := #[.int .i64 ((rd_T162 l1_0 x7_3).f0), .int .i64 ((rd_T162 l1_0 x7_3).f1), .int .i64 0]) ?_ 2 _ rfl; (with_reducible repeat (first | refine blk_drewN ?_ _ | refine blk_drew ?_ | refine blk_alloc ?_ _)); refine blk_put (cs := #[.int .i64 ((rd_T162 l1_0 x7_3).f0), .int .i64 0, .int .i64 0]) ?_ 1 _ rfl; (with_reducible repeat (first | refine blk_drewN ?_ _ | refine blk_drew ?_ | refine blk_alloc ?_ _)); refine blk_put (cs := #[.int .i64 0, .int .i64 0, .int .i64 0]) ?_ 0 _ rfl; (with_reducible repeat (first | refine blk_drewN ?_ _ | refine blk_drew ?_ | refine blk_alloc ?_ _)); exact BK171.out⟩, ⟨by repeat (first | (with_reducible first | exact HB.out | apply below_alloc | apply pw_below_drewN | apply below_drew1 | refine below_set ?_ GE166.out | refine below_set ?_ GE171.out) | exact HB.out)⟩⟩)
    ·(
 rw [if_neg c23] at H
 have c23b0 : decide (((rd_T162 l1_0 x7_3).f0) < 0) = false := decide_eq_false c23
 clear c23
 (first | rw [c23b0] | (simp only [i64_w, i32_w]; rw [c23b0]) | skip)
 have H' := Aside0.mk H
 clear H
 have hnb26 := NB171_166.out
 have hnc26 := NB166_171.out
 have hcz27_0 : w20.cell? ⟨gb171, 0, none⟩ = some (.int .i64 0) := (blk_cell BK171.out 0).trans rfl
 have hcz27_1 : w20.cell? ⟨gb171, 1, none⟩ = some (.int .i64 0) := (blk_cell BK171.out 1).trans rfl
 have hcz27_2 : w20.cell? ⟨gb171, 2, none⟩ = some (.int .i64 0) := (blk_cell BK171.out 2).trans rfl
 have hfz27_0 := blk_frozen BK171.out 0
 have hfz27_1 := blk_frozen BK171.out 1
 have hfz27_2 := blk_frozen BK171.out 2
 go_wp2
 go_meet
 case rel => exact ⟨_, (decide (((rd_T162 l1_0 x7_3).f0) ≥ a0)), (by first | rfl | (simp; done) | (simp [*]; done)), H', ⟨by have := HJ2.out; have := HJ6.out; have := HK3.out; first | omega | exact Nat.le_refl _⟩, ⟨by (with_reducible repeat (first | apply Kd.R_alloc | apply Kd.R_drewN | apply Kd.R_drew)); exact Kd.R_mono (Kd.R_far (p := ⟨gb171, 2, none⟩) (Kd.R_far (p := ⟨gb171, 1, none⟩) (Kd.R_far (p := ⟨gb171, 0, none⟩) (Kd.R_types HO_6.out BK171.out (by decide)) (fun _ hk => hk.2) (.int .i64 ((rd_T162 l1_0 x7_3).f0))) (fun _ hk => hk.2) (.int .i64 ((rd_T162 l1_0 x7_3).f1))) (fun _ hk => hk.2) (.int .i64 ((rd_T162 l1_0 x7_3).f2))) (fun _ hk => trivial)⟩, ⟨by (with_reducible repeat (first | refine blk_drewN ?_ _ | refine blk_drew ?_ | refine blk_alloc ?_ _)); refine blk_far ?_ NB166_171.out _; (with_reducible repeat (first | refine blk_drewN ?_ _ | refine blk_drew ?_ | refine blk_alloc ?_ _)); refine blk_far ?_ NB166_171.out _; (with_reducible repeat (first | refine blk_drewN ?_ _ | refine blk_drew ?_ | refine blk_alloc ?_ _)); refine blk_far ?_ NB166_171.out _; (with_reducible repeat (first | refine blk_drewN ?_ _ | refine blk_drew ?_ | refine blk_alloc ?_ _)); exact BK166.out⟩, ⟨by (with_reducible repeat (first | refine blk_drewN ?_ _ | refine blk_drew ?_ | refine blk_alloc ?_ _)); refine blk_put (cs := #[.int .i64 ((rd_T162 l1_0 x7_3).f0), .int .i64 ((rd_T162 l1_0 x7_3).f1), .int .i64 0]) ?_ 2 _ rfl; (with_reducible repeat (first | refine blk_drewN ?_ _ | refine blk_drew ?_ | refine blk_alloc ?_ _)); refine blk_put (cs := #[.int .i64 ((rd_T162 l1_0 x7_3).f0), .int .i64 0, .int .i64 0]) ?_ 1 _ rfl; (with_reducible repeat (first | refine blk_drewN ?_ _ | refine blk_drew ?_ | refine blk_alloc ?_ _)); refine blk_put (cs := #[.int .i64 0, .int .i64 0, .int .i64 0]) ?_ 0 _ rfl; (with_reducible repeat (first | refine blk_drewN ?_ _ | refine blk_drew ?_ | refine blk_alloc ?_ _)); exact BK171.out⟩, ⟨by repeat (first | (with_reducible first | exact HB.out | apply below_alloc | apply pw_below_drewN | apply below_drew1 | refine below_set ?_ GE166.out | refine below_set ?_ GE171.out) | exact HB.out)⟩⟩)
   case rest =>
    clear HC18
    try clear c1
    try clear p1
    try clear q1
    try clear hx1
    try clear c2
    try clear p2
    try clear c3
    try clear c5
    try clear c5b0
    try clear c6
    try clear c9
    try clear c9b0
    try clear c9b1
    try clear c10
    try clear c11
    try clear c11b0
    try clear c11b1
    try clear c12
    try clear c12b0
    try clear c12b1
    try clear c15
    try clear c15b0
    try clear c16
    try clear c16b0
    try clear c17
    try clear c17b0
    try clear p17
    try clear q17
    try clear hx17
    try clear c21
    try clear c23
    try clear c23b0
    try clear c24
    try clear c26
    try clear hcz19_0
    try clear hcz22_0
    try clear hcz22_1
    try clear hcz22_2
    try clear hcz25_0
    try clear hcz25_1
    try clear hcz25_2
    try clear hcz27_0
    try clear hcz27_1
    try clear hcz27_2
    try clear hcz8_0
    try clear hfz19_0
    try clear hfz22_0
    try clear hfz22_1
    try clear hfz22_2
    try clear hfz25_0
    try clear hfz25_1
    try clear hfz25_2
    try clear hfz27_0
    try clear hfz27_1
    try clear hfz27_2
    try clear hfz8_0
    try clear hx170_0
    try clear hx170_1
    try clear hx170_2
    try clear p170
    try clear p2
    try clear q170
    obtain ⟨kq, x45_17, rfl, HA, HJ17, HO_6, BK166, BK171, HB⟩ := hcut
    cases kq with
    | zero => exact absurd HA.out (by simp [evermoreref12_Tree.j3])
    | succ kj17 =>
     have H := HA.out
     clear HA
     simp only [evermoreref12_Tree.j3] at H
     by_cases c28 : x45_17 = true
     ·(
 subst c28
 have H1 : (some 2) = some r := by rw [if_pos rfl] at H; exact H
 clear H
 have H := H1
 clear H1
 obtain rfl := Option.some.inj H
 go_wp2
 go_ret
 exact ⟨by first | rfl | (simp [errW_none, errW_some] <;> rfl) | (simp [*, errW_none, errW_some] <;> rfl), by repeat (first | (with_reducible first | exact HB.out | apply below_alloc | apply pw_below_drewN | apply below_drew1 | refine below_set ?_ GE166.out | refine below_set ?_ GE171.out) | exact HB.out)⟩)
     ·(
 replace c28 := Bool.eq_false_iff.mpr c28
 subst c28
 have H1 : (if ((rd_T162 l1_0 x7_3).f1) = (-1) then (evermoreref12_Tree.j4 kj17 a0 (l1_0.length : Int) x6_3 x7_3 (((rd_T162 l1_0 x7_3).f2) == (-1)) l1_0 ((rd_T162 l1_0 x7_3).f0) ((rd_T162 l1_0 x7_3).f1) ((rd_T162 l1_0 x7_3).f2)) else (evermoreref12_Tree.j4 kj17 a0 (l1_0.length : Int) x6_3 x7_3 false l1_0 ((rd_T162 l1_0 x7_3).f0) ((rd_T162 l1_0 x7_3).f1) ((rd_T162 l1_0 x7_3).f2))) = some r := by rw [if_neg (show ¬ (false = true) by decide)] at H; exact H
 clear H
 have H := H1
 clear H1
 have HC29 := Aside0.mk H
 clear H
 go_upto_region 13 with (fail)
 go_cut [53] (fun v53 wc => ∃ (kq : Nat) (x53_28 : Bool), v53 = .bool x53_28 ∧ Aside0 (evermoreref12_Tree.j4 kq a0 (l1_0.length : Int) x6_3 x7_3 x53_28 l1_0 ((rd_T162 l1_0 x7_3).f0) ((rd_T162 l1_0 x7_3).f1) ((rd_T162 l1_0 x7_3).f2) = some r) ∧ Aside0 (kq ≤ kj17) ∧ Aside0 (Kd.R Kd.bool 4 wc w.heap.size (fun _ => True) v168 x6_3) ∧ Aside0 (wc.heap[gb166]? = some (.cells #[(.slice (some ad170) l1_0.length c1_0)] 59 (0, 0))) ∧ Aside0 (wc.heap[gb171]? = some (.cells #[.int .i64 ((rd_T162 l1_0 x7_3).f0), .int .i64 ((rd_T162 l1_0 x7_3).f1), .int .i64 ((rd_T162 l1_0 x7_3).f2)] 162 (0, 0))) ∧ Aside0 (Below w.heap.size w wc))
 case first =>
  have H := HC29.out
  clear HC29
  by_cases c30 : ((rd_T162 l1_0 x7_3).f1) = (-1)
  ·rw [if_pos c30] at H
   have c30b0 : (((rd_T162 l1_0 x7_3).f1) == (-1)) = true := beq_iff_eq.mpr c30
   have c30b1 : (((rd_T162 l1_0 x7_3).f1) != (-1)) = false := bne_eq_false_iff_eq.mpr c30
   clear c30
   (first | rw [c30b0] | (simp only [i64_w, i32_w]; rw [c30b0]) | skip)
   have H' := Aside0.mk H
   clear H
   have hnb31 := NB171_166.out
   have hnc31 := NB166_171.out
   have hcz32_0 : wc.cell? ⟨gb171, 0, none⟩ = some (.int .i64 ((rd_T162 l1_0 x7_3).f0)) := (blk_cell BK171.out 0).trans rfl
   have hcz32_1 : wc.cell? ⟨gb171, 1, none⟩ = some (.int .i64 ((rd_T162 l1_0 x7_3).f1)) := (blk_cell BK171.out 1).trans rfl
   have hcz32_2 : wc.cell? ⟨gb171, 2, none⟩ = some (.int .i64 ((rd_T162 l1_0 x7_3).f2)) := (blk_cell BK171.out 2).trans rfl
   have hfz32_0 := blk_frozen BK171.out 0
   have hfz32_1 := blk_frozen BK171.out 1
   have hfz32_2 := blk_frozen BK171.out 2
   go_wp2
   go_meet
   case rel => exact ⟨_, ((((rd_T162 l1_0 x7_3).f2) == (-1))), (by first | rfl | (simp; done) | (simp [*]; done)), H', ⟨by have := HJ2.out; have := HJ6.out; have := HK3.out; have := HJ17.out; first | omega | exact Nat.le_refl _⟩, ⟨by (with_reducible repeat (first | apply Kd.R_alloc | apply Kd.R_drewN | apply Kd.R_drew)); exact HO_6.out⟩, ⟨by (with_reducible repeat (first | refine blk_drewN ?_ _ | refine blk_drew ?_ | refine blk_alloc ?_ _)); exact BK166.out⟩, ⟨by (with_reducible repeat (first | refine blk_drewN ?_ _ | refine blk_drew ?_ | refine blk_alloc ?_ _)); exact BK171.out⟩, ⟨by repeat (first | (with_reducible first | exact HB.out | apply below_alloc | apply pw_below_drewN | apply below_drew1 | refine below_set ?_ GE166.out | refine below_set ?_ GE171.out) | exact HB.out)⟩⟩
  ·rw [if_neg c30] at H
   have c30b0 : (((rd_T162 l1_0 x7_3).f1) == (-1)) = false := beq_eq_false_iff_ne.mpr c30
   have c30b1 : (((rd_T162 l1_0 x7_3).f1) != (-1)) = true := bne_iff_ne.mpr c30
   (first | rw [c30b0] | (simp only [i64_w, i32_w]; rw [c30b0]) | skip)
   have H' := Aside0.mk H
   clear H
   have hnb33 := NB171_166.out
   have hnc33 := NB166_171.out
   have hcz34_0 : wc.cell? ⟨gb171, 0, none⟩ = some (.int .i64 ((rd_T162 l1_0 x7_3).f0)) := (blk_cell BK171.out 0).trans rfl
   have hcz34_1 : wc.cell? ⟨gb171, 1, none⟩ = some (.int .i64 ((rd_T162 l1_0 x7_3).f1)) := (blk_cell BK171.out 1).trans rfl
   have hcz34_2 : wc.cell? ⟨gb171, 2, none⟩ = some (.int .i64 ((rd_T162 l1_0 x7_3).f2)) := (blk_cell BK171.out 2).trans rfl
   have hfz34_0 := blk_frozen BK171.out 0
   have hfz34_1 := blk_frozen BK171.out 1
   have hfz34_2 := blk_frozen BK171.out 2
   go_wp2
   go_meet
   case rel => exact ⟨_, (false), (by first | rfl | (simp; done) | (simp [*]; done)), H', ⟨by have := HJ2.out; have := HJ6.out; have := HK3.out; have := HJ17.out; first | omega | exact Nat.le_refl _⟩, ⟨by (with_reducible repeat (first | apply Kd.R_alloc | apply Kd.R_drewN | apply Kd.R_drew)); exact HO_6.out⟩, ⟨by (with_reducible repeat (first | refine blk_drewN ?_ _ | refine blk_drew ?_ | refine blk_alloc ?_ _)); exact BK166.out⟩, ⟨by (with_reducible repeat (first | refine blk_drewN ?_ _ | refine blk_drew ?_ | refine blk_alloc ?_ _)); exact BK171.out⟩, ⟨by repeat (first | (with_reducible first | exact HB.out | apply below_alloc | apply pw_below_drewN | apply below_drew1 | refine below_set ?_ GE166.out | refine below_set ?_ GE171.out) | exact HB.out)⟩⟩
 case rest =>
  clear HC29
  try clear c1
  try clear p1
  try clear q1
  try clear hx1
  try clear c2
  try clear p2
  try clear c3
  try clear c5
  try clear c5b0
  try clear c6
  try clear c9
  try clear c9b0
  try clear c9b1
  try clear c10
  try clear c11
  try clear c11b0
  try clear c11b1
  try clear c12
  try clear c12b0
  try clear c12b1
  try clear c15
  try clear c15b0
  try clear c16
  try clear c16b0
  try clear c17
  try clear c17b0
  try clear p17
  try clear q17
  try clear hx17
  try clear c21
  try clear c23
  try clear c23b0
  try clear c24
  try clear c26
  try clear c28
  try clear c30
  try clear c30b0
  try clear c30b1
  try clear c31
  try clear c33
  try clear hcz19_0
  try clear hcz22_0
  try clear hcz22_1
  try clear hcz22_2
  try clear hcz25_0
  try clear hcz25_1
  try clear hcz25_2
  try clear hcz27_0
  try clear hcz27_1
  try clear hcz27_2
  try clear hcz32_0
  try clear hcz32_1
  try clear hcz32_2
  try clear hcz34_0
  try clear hcz34_1
  try clear hcz34_2
  try clear hcz8_0
  try clear hfz19_0
  try clear hfz22_0
  try clear hfz22_1
  try clear hfz22_2
  try clear hfz25_0
  try clear hfz25_1
  try clear hfz25_2
  try clear hfz27_0
  try clear hfz27_1
  try clear hfz27_2
  try clear hfz32_0
  try clear hfz32_1
  try clear hfz32_2
  try clear hfz34_0
  try clear hfz34_1
  try clear hfz34_2
  try clear hfz8_0
  try clear hx170_0
  try clear hx170_1
  try clear hx170_2
  try clear p1
  try clear p17
  try clear p170
  try clear p2
  try clear q1
  try clear q17
  try clear q170
  obtain ⟨kq, x53_28, rfl, HA, HJ28, HO_6, BK166, BK171, HB⟩ := hcut
  cases kq with
  | zero => exact absurd HA.out (by simp [evermoreref12_Tree.j4])
  | succ kj28 =>
   have H := HA.out
   clear HA
   simp only [evermoreref12_Tree.j4] at H
   by_cases c35 : x53_28 = true
   ·subst c35
    have H1 : (evermoreref12_Tree.l0 kj28 a0 (l1_0.length : Int) x6_3 (wrap64 (x7_3 + 1)) l1_0) = some r := by rw [if_pos rfl] at H; exact H
    clear H
    have H := H1
    clear H1
    have H' := Aside0.mk H
    clear H
    go_wp2
    go_roundg kj28
    case measure => have := HJ2.out; have := HJ6.out; have := HK3.out; have := HJ17.out; have := HJ28.out; omega
    case rel => exact ⟨(x6_3), (wrap64 (x7_3 + 1)), (by first | rfl | (simp; done) | (simp [*]; done)), H', ⟨by have := HJ2.out; have := HJ6.out; have := HK3.out; have := HJ17.out; have := HJ28.out; omega⟩, ⟨by (with_reducible repeat (first | apply Kd.R_alloc | apply Kd.R_drewN | apply Kd.R_drew)); exact HO_6.out⟩, ⟨by (with_reducible repeat (first | refine blk_drewN ?_ _ | refine blk_drew ?_ | refine blk_alloc ?_ _)); exact BK166.out⟩, ⟨by repeat (first | (with_reducible first | exact HB.out | apply below_alloc | apply pw_below_drewN | apply below_drew1 | refine below_set ?_ GE166.out | refine below_set ?_ GE171.out) | exact HB.out)⟩⟩
   ·replace c35 := Bool.eq_false_iff.mpr c35
    subst c35
    have H1 : (if ((rd_T162 l1_0 x7_3).f1) < 0 then (evermoreref12_Tree.j5 kj28 a0 (l1_0.length : Int) x6_3 x7_3 true l1_0 ((rd_T162 l1_0 x7_3).f0) ((rd_T162 l1_0 x7_3).f1) ((rd_T162 l1_0 x7_3).f2)) else (if ((rd_T162 l1_0 x7_3).f1) ≥ x7_3 then (evermoreref12_Tree.j5 kj28 a0 (l1_0.length : Int) x6_3 x7_3 true l1_0 ((rd_T162 l1_0 x7_3).f0) ((rd_T162 l1_0 x7_3).f1) ((rd_T162 l1_0 x7_3).f2)) else (if 0 ≤ ((rd_T162 l1_0 x7_3).f1) then (if ((rd_T162 l1_0 x7_3).f1) < (x6_3.length : Int) then (evermoreref12_Tree.j5 kj28 a0 (l1_0.length : Int) x6_3 x7_3 (rdOf false x6_3 ((rd_T162 l1_0 x7_3).f1)) l1_0 ((rd_T162 l1_0 x7_3).f0) ((rd_T162 l1_0 x7_3).f1) ((rd_T162 l1_0 x7_3).f2)) else (none)) else (none)))) = some r := by rw [if_neg (show ¬ (false = true) by decide)] at H; exact H
    clear H
    have H := H1
    clear H1
    have HC36 := Aside0.mk H
    clear H
    go_upto_region 14 with (fail)
    go_cut [69] (fun v69 wc => ∃ (kq : Nat) (x69_35 : Bool), v69 = .bool x69_35 ∧ Aside0 (evermoreref12_Tree.j5 kq a0 (l1_0.length : Int) x6_3 x7_3 x69_35 l1_0 ((rd_T162 l1_0 x7_3).f0) ((rd_T162 l1_0 x7_3).f1) ((rd_T162 l1_0 x7_3).f2) = some r) ∧ Aside0 (kq ≤ kj28) ∧ Aside0 (Kd.R Kd.bool 4 wc w.heap.size (fun _ => True) v168 x6_3) ∧ Aside0 (wc.heap[gb166]? = some (.cells #[(.slice (some ad170) l1_0.length c1_0)] 59 (0, 0))) ∧ Aside0 (wc.heap[gb171]? = some (.cells #[.int .i64 ((rd_T162 l1_0 x7_3).f0), .int .i64 ((rd_T162 l1_0 x7_3).f1), .int .i64 ((rd_T162 l1_0 x7_3).f2)] 162 (0, 0))) ∧ Aside0 (Below w.heap.size w wc))
    case first =>
     have H := HC36.out
     clear HC36
     by_cases c37 : ((rd_T162 l1_0 x7_3).f1) < 0
     ·(
 rw [if_pos c37] at H
 have c37b0 : decide (((rd_T162 l1_0 x7_3).f1) < 0) = true := decide_eq_true c37
 clear c37
 (first | rw [c37b0] | (simp only [i64_w, i32_w]; rw [c37b0]) | skip)
 have H' := Aside0.mk H
 clear H
 have hnb38 := NB171_166.out
 have hnc38 := NB166_171.out
 have hcz39_0 : wc.cell? ⟨gb171, 0, none⟩ = some (.int .i64 ((rd_T162 l1_0 x7_3).f0)) := (blk_cell BK171.out 0).trans rfl
 have hcz39_1 : wc.cell? ⟨gb171, 1, none⟩ = some (.int .i64 ((rd_T162 l1_0 x7_3).f1)) := (blk_cell BK171.out 1).trans rfl
 have hcz39_2 : wc.cell? ⟨gb171, 2, none⟩ = some (.int .i64 ((rd_T162 l1_0 x7_3).f2)) := (blk_cell BK171.out 2).trans rfl
 have hfz39_0 := blk_frozen BK171.out 0
 have hfz39_1 := blk_frozen BK171.out 1
 have hfz39_2 := blk_frozen BK171.out 2
 go_wp2
 go_meet
 case rel => exact ⟨_, (true), (by first | rfl | (simp; done) | (simp [*]; done)), H', ⟨by have := HJ2.out; have := HJ6.out; have := HK3.out; have := HJ17.out; have := HJ28.out; first | omega | exact Nat.le_refl _⟩, ⟨by (with_reducible repeat (first | apply Kd.R_alloc | apply Kd.R_drewN | apply Kd.R_drew)); exact HO_6.out⟩, ⟨by (with_reducible repeat (first | refine blk_drewN ?_ _ | refine blk_drew ?_ | refine blk_alloc ?_ _)); exact BK166.out⟩, ⟨by (with_reducible repeat (first | refine blk_drewN ?_ _ | refine blk_drew ?_ | refine blk_alloc ?_ _)); exact BK171.out⟩, ⟨by repeat (first | (with_reducible first | exact HB.out | apply below_alloc | apply pw_below_drewN | apply below_drew1 | refine below_set ?_ GE166.out | refine below_set ?_ GE171.out) | exact HB.out)⟩⟩)
     ·(
 rw [if_neg c37] at H
 have c37b0 : decide (((rd_T162 l1_0 x7_3).f1) < 0) = false := decide_eq_false c37
 clear c37
 (first | rw [c37b0] | (simp only [i64_w, i32_w]; rw [c37b0]) | skip)
 by_cases c40 : ((rd_T162 l1_0 x7_3).f1) ≥ x7_3
 ·rw [if_pos c40] at H
  have c40b0 : decide (x7_3 ≤ ((rd_T162 l1_0 x7_3).f1)) = true := decide_eq_true c40
  clear c40
  have H' := Aside0.mk H
  clear H
  have hnb41 := NB171_166.out
  have hnc41 := NB166_171.out
  have hcz42_0 : wc.cell? ⟨gb171, 0, none⟩ = some (.int .i64 ((rd_T162 l1_0 x7_3).f0)) := (blk_cell BK171.out 0).trans rfl
  have hcz42_1 : wc.cell? ⟨gb171, 1, none⟩ = some (.int .i64 ((rd_T162 l1_0 x7_3).f1)) := (blk_cell BK171.out 1).trans rfl
  have hcz42_2 : wc.cell? ⟨gb171, 2, none⟩ = some (.int .i64 ((rd_T162 l1_0 x7_3).f2)) := (blk_cell BK171.out 2).trans rfl
  have hfz42_0 := blk_frozen BK171.out 0
  have hfz42_1 := blk_frozen BK171.out 1
  have hfz42_2 := blk_frozen BK171.out 2
  go_wp2
  go_meet
  case rel => exact ⟨_, (true), (by first | rfl | (simp; done) | (simp [*]; done)), H', ⟨by have := HJ2.out; have := HJ6.out; have := HK3.out; have := HJ17.out; have := HJ28.out; first | omega | exact Nat.le_refl _⟩, ⟨by (with_reducible repeat (first | apply Kd.R_alloc | apply Kd.R_drewN | apply Kd.R_drew)); exact HO_6.out⟩, ⟨by (with_reducible repeat (first | refine blk_drewN ?_ _ | refine blk_drew ?_ | refine blk_alloc ?_ _)); exact BK166.out⟩, ⟨by (with_reducible repeat (first | refine blk_drewN ?_ _ | refine blk_drew ?_ | refine blk_alloc ?_ _)); exact BK171.out⟩, ⟨by repeat (first | (with_reducible first | exact HB.out | apply below_alloc | apply pw_below_drewN | apply below_drew1 | refine below_set ?_ GE166.out | refine below_set ?_ GE171.out) | exact HB.out)⟩⟩
 ·rw [if_neg c40] at H
  have c40b0 : decide (x7_3 ≤ ((rd_T162 l1_0 x7_3).f1)) = false := decide_eq_false c40
  clear c40
  by_cases c43 : 0 ≤ ((rd_T162 l1_0 x7_3).f1)
  ·rw [if_pos c43] at H
   have c43b0 : decide (0 ≤ ((rd_T162 l1_0 x7_3).f1)) = true := decide_eq_true c43
   clear c43
   by_cases c44 : ((rd_T162 l1_0 x7_3).f1) < (x6_3.length : Int)
   ·rw [if_pos c44] at H
    have c44b0 : decide (((rd_T162 l1_0 x7_3).f1) < (x6_3.length : Int)) = true := decide_eq_true c44
    clear c44
    have H' := Aside0.mk H
    clear H
    have hnb45 := NB171_166.out
    have hnc45 := NB166_171.out
    have hcz46_0 : wc.cell? ⟨gb171, 0, none⟩ = some (.int .i64 ((rd_T162 l1_0 x7_3).f0)) := (blk_cell BK171.out 0).trans rfl
    have hcz46_1 : wc.cell? ⟨gb171, 1, none⟩ = some (.int .i64 ((rd_T162 l1_0 x7_3).f1)) := (blk_cell BK171.out 1).trans rfl
    have hcz46_2 : wc.cell? ⟨gb171, 2, none⟩ = some (.int .i64 ((rd_T162 l1_0 x7_3).f2)) := (blk_cell BK171.out 2).trans rfl
    have hfz46_0 := blk_frozen BK171.out 0
    have hfz46_1 := blk_frozen BK171.out 1
    have hfz46_2 := blk_frozen BK171.out 2
    obtain ⟨Ao47, co47, eo47⟩ := Kd.R_slice HO_6.out
    subst eo47
    have p172 : 0 ≤ (((rd_T162 l1_0 x7_3).f1) : Int) := of_decide_eq_true (by first | (with_reducible assumption) | assumption)
    have q172 : ((rd_T162 l1_0 x7_3).f1) < (x6_3.length : Int) := of_decide_eq_true (by first | (with_reducible assumption) | assumption)
    obtain ⟨ad172, e172, hx172_0⟩ := Kd.at_bool (Kd.R_reads' HO_6.out).2.2 ((rd_T162 l1_0 x7_3).f1) p172 q172
    cases e172
    replace p172 := eq_true p172
    replace q172 := eq_true q172
    go_wp2
    go_meet
    case rel => exact ⟨_, (rdOf false x6_3 ((rd_T162 l1_0 x7_3).f1)), (by first | rfl | (simp; done) | (simp [*]; done)), H', ⟨by have := HJ2.out; have := HJ6.out; have := HK3.out; have := HJ17.out; have := HJ28.out; first | omega | exact Nat.le_refl _⟩, ⟨by (with_reducible repeat (first | apply Kd.R_alloc | apply Kd.R_drewN | apply Kd.R_drew)); exact HO_6.out⟩, ⟨by (with_reducible repeat (first | refine blk_drewN ?_ _ | refine blk_drew ?_ | refine blk_alloc ?_ _)); exact BK166.out⟩, ⟨by (with_reducible repeat (first | refine blk_drewN ?_ _ | refine blk_drew ?_ | refine blk_alloc ?_ _)); exact BK171.out⟩, ⟨by repeat (first | (with_reducible first | exact HB.out | apply below_alloc | apply pw_below_drewN | apply below_drew1 | refine below_set ?_ GE166.out | refine below_set ?_ GE171.out) | exact HB.out)⟩⟩
   ·rw [if_neg c44] at H
    exact absurd H (by simp)
  ·rw [if_neg c43] at H
   exact absurd H (by simp))
    case rest =>
     clear HC36
     try clear c1
     try clear p1
     try clear q1
     try clear hx1
     try clear c2
     try clear p2
     try clear c3
     try clear c4
     try clear c5
     try clear c5b0
     try clear c6
     try clear p6
     try clear c9
     try clear c9b0
     try clear c9b1
     try clear c10
     try clear c11
     try clear c11b0
     try clear c11b1
     try clear c12
     try clear c12b0
     try clear c12b1
     try clear c15
     try clear c15b0
     try clear c16
     try clear c16b0
     try clear c17
     try clear c17b0
     try clear p17
     try clear q17
     try clear hx17
     try clear c21
     try clear c23
     try clear c23b0
     try clear c24
     try clear c26
     try clear c28
     try clear c30
     try clear c30b0
     try clear c30b1
     try clear c31
     try clear c33
     try clear c35
     try clear c36
     try clear c37
     try clear c37b0
     try clear c38
     try clear c40
     try clear c40b0
     try clear c41
     try clear c43
     try clear c43b0
     try clear c44
     try clear c44b0
     try clear c45
     try clear hcz19_0
     try clear hcz22_0
     try clear hcz22_1
     try clear hcz22_2
     try clear hcz25_0
     try clear hcz25_1
     try clear hcz25_2
     try clear hcz27_0
     try clear hcz27_1
     try clear hcz27_2
     try clear hcz32_0
     try clear hcz32_1
     try clear hcz32_2
     try clear hcz34_0
     try clear hcz34_1
     try clear hcz34_2
     try clear hcz39_0
     try clear hcz39_1
     try clear hcz39_2
     try clear hcz42_0
     try clear hcz42_1
     try clear hcz42_2
     try clear hcz46_0
     try clear hcz46_1
     try clear hcz46_2
     try clear hcz8_0
     try clear hfz19_0
     try clear hfz22_0
     try clear hfz22_1
     try clear hfz22_2
     try clear hfz25_0
     try clear hfz25_1
     try clear hfz25_2
     try clear hfz27_0
     try clear hfz27_1
     try clear hfz27_2
     try clear hfz32_0
     try clear hfz32_1
     try clear hfz32_2
     try clear hfz34_0
     try clear hfz34_1
     try clear hfz34_2
     try clear hfz39_0
     try clear hfz39_1
     try clear hfz39_2
     try clear hfz42_0
     try clear hfz42_1
     try clear hfz42_2
     try clear hfz46_0
     try clear hfz46_1
     try clear hfz46_2
     try clear hfz8_0
     try clear hx170_0
     try clear hx170_1
     try clear hx170_2
     try clear hx172_0
     try clear p1
     try clear p17
     try clear p170
     try clear p172
     try clear p2
     try clear q1
     try clear q17
     try clear q170
     try clear q172
     obtain ⟨kq, x69_35, rfl, HA, HJ35, HO_6, BK166, BK171, HB⟩ := hcut
     cases kq with
     | zero => exact absurd HA.out (by simp [evermoreref12_Tree.j5])
     | succ kj35 =>
      have H := HA.out
      clear HA
      simp only [evermoreref12_Tree.j5] at H
      by_cases c48 : x69_35 = true
      ·(
 subst c48
 have H1 : (some 3) = some r := by rw [if_pos rfl] at H; exact H
 clear H
 have H := H1
 clear H1
 obtain rfl := Option.some.inj H
 go_wp2
 go_ret
 exact ⟨by first | rfl | (simp [errW_none, errW_some] <;> rfl) | (simp [*, errW_none, errW_some] <;> rfl), by repeat (first | (with_reducible first | exact HB.out | apply below_alloc | apply pw_below_drewN | apply below_drew1 | refine below_set ?_ GE166.out | refine below_set ?_ GE171.out) | exact HB.out)⟩)
      ·(
 replace c48 := Bool.eq_false_iff.mpr c48
 subst c48
 have H1 : (if 0 ≤ ((rd_T162 l1_0 x7_3).f1) then (if ((rd_T162 l1_0 x7_3).f1) < (x6_3.length : Int) then ((some (x6_3.set (((rd_T162 l1_0 x7_3).f1) : Int).toNat true : List Bool)).bind fun y173 => (if ((rd_T162 l1_0 x7_3).f2) < 0 then (some 3) else (if ((rd_T162 l1_0 x7_3).f2) ≥ x7_3 then (some 3) else (if 0 ≤ ((rd_T162 l1_0 x7_3).f2) then (if ((rd_T162 l1_0 x7_3).f2) < (x6_3.length : Int) then (if rdOf false y173 ((rd_T162 l1_0 x7_3).f2) = true then (some 3) else (evermoreref12_Tree.l0 kj35 a0 (l1_0.length : Int) (y173.set (((rd_T162 l1_0 x7_3).f2) : Int).toNat true) (wrap64 (x7_3 + 1)) l1_0)) else (none)) else (none))))) else (none)) else (none)) = some r := by rw [if_neg (show ¬ (false = true) by decide)] at H; exact H
 clear H
 have H := H1
 clear H1
 by_cases c49 : 0 ≤ ((rd_T162 l1_0 x7_3).f1)
 ·rw [if_pos c49] at H
  have c49b0 : decide (0 ≤ ((rd_T162 l1_0 x7_3).f1)) = true := decide_eq_true c49
  clear c49
  by_cases c50 : ((rd_T162 l1_0 x7_3).f1) < (x6_3.length : Int)
  ·rw [if_pos c50] at H
   have c50b0 : decide (((rd_T162 l1_0 x7_3).f1) < (x6_3.length : Int)) = true := decide_eq_true c50
   clear c50
   obtain ⟨y173, hy173⟩ : ∃ y_ : List Bool, y_ = (x6_3.set (((rd_T162 l1_0 x7_3).f1) : Int).toNat true) := ⟨_, rfl⟩
   replace H : (if ((rd_T162 l1_0 x7_3).f2) < 0 then (some 3) else (if ((rd_T162 l1_0 x7_3).f2) ≥ x7_3 then (some 3) else (if 0 ≤ ((rd_T162 l1_0 x7_3).f2) then (if ((rd_T162 l1_0 x7_3).f2) < (x6_3.length : Int) then (if rdOf false y173 ((rd_T162 l1_0 x7_3).f2) = true then (some 3) else (evermoreref12_Tree.l0 kj35 a0 (l1_0.length : Int) (y173.set (((rd_T162 l1_0 x7_3).f2) : Int).toNat true) (wrap64 (x7_3 + 1)) l1_0)) else (none)) else (none)))) = some r := by first | (rw [hy173]; with_reducible exact H) | (have H2_ := (Option.bind_some _ _).symm.trans H; rw [hy173]; with_reducible exact H2_) | (have H2_ := (Option.bind_some _ _).symm.trans H; with_reducible exact H2_) | with_reducible exact H | (rw [hy173]; exact H) | exact H
   have Ny173 := Aside0.mk hy173
   clear hy173
   by_cases c52 : ((rd_T162 l1_0 x7_3).f2) < 0
   ·rw [if_pos c52] at H
    have c52b0 : decide (((rd_T162 l1_0 x7_3).f2) < 0) = true := decide_eq_true c52
    clear c52
    obtain rfl := Option.some.inj H
    have hnb53 := NB171_166.out
    have hnc53 := NB166_171.out
    have hcz54_0 : wc.cell? ⟨gb171, 0, none⟩ = some (.int .i64 ((rd_T162 l1_0 x7_3).f0)) := (blk_cell BK171.out 0).trans rfl
    have hcz54_1 : wc.cell? ⟨gb171, 1, none⟩ = some (.int .i64 ((rd_T162 l1_0 x7_3).f1)) := (blk_cell BK171.out 1).trans rfl
    have hcz54_2 : wc.cell? ⟨gb171, 2, none⟩ = some (.int .i64 ((rd_T162 l1_0 x7_3).f2)) := (blk_cell BK171.out 2).trans rfl
    have hfz54_0 := blk_frozen BK171.out 0
    have hfz54_1 := blk_frozen BK171.out 1
    have hfz54_2 := blk_frozen BK171.out 2
    have p51 : 0 ≤ (((rd_T162 l1_0 x7_3).f1) : Int) := of_decide_eq_true (by first | (with_reducible assumption) | assumption)
    have q51 : (((rd_T162 l1_0 x7_3).f1) : Int) < ((x6_3.length : Int) : Int) := of_decide_eq_true (by first | (with_reducible assumption) | assumption)
    obtain ⟨go51, co51, eo51, gb51, gl51, cl51, HG51⟩ := Kd.R_form HO_6.out (by omega)
    (first | cases eo51 | (injection eo51 with ea_ en_ ec_; (first | subst ea_ | (injection ea_ with ea_; subst ea_)); subst ec_; clear en_))
    have GB51 := Aside0.mk gb51
    have GG51 := Aside0.mk HG51
    clear gb51 gl51 HG51
    obtain ⟨hx51_0, hf51_0⟩ := Kd.R_celln false HO_6.out (((rd_T162 l1_0 x7_3).f1) : Int) p51 q51
    replace p51 := eq_true p51
    replace q51 := eq_true q51
    have HP55 := Kd.R_putg HO_6.out (((rd_T162 l1_0 x7_3).f1) : Int) true
    go_wp2_with (first | ((with_reducible refine gate_store (t := 4) (p := 73) rfl ?_); refine store_event (t := 4) (p := 73) (v := ?vo_w56) (w1 := (wc.setCell ⟨go51, (((rd_T162 l1_0 x7_3).f1) : Int).toNat, none⟩ (.bool true))) ?hg ?ho ?hn ?hr ?_; (case ho => rfl); (case hg => rfl); (case hn => rfl); (case hr => first | (go_simp; done) | (go_simp; rfl)); intro w56 hw; have hg : wc.grownBy w56 (some go51) := (by rw [hw]; exact HP55.2); have hp_ : Kd.R Kd.bool 4 w56 w.heap.size (fun _ => True) (.slice (some ⟨go51, 0, none⟩) x6_3.length co51) y173 := (by rw [hw, Ny173.out]; exact HP55.1); clear HP55; have n0_ := Aside0.mk (hp_); have n1_ := Aside0.mk (blk_grown (g := gb166) (o := .cells #[.slice (some ad170) l1_0.length c1_0] 59 (0, 0)) (by (with_reducible repeat (first | refine blk_drewN ?_ _ | refine blk_drew ?_ | refine blk_alloc ?_ _)); exact BK166.out) hg (Kd.R_ne HO_6.out BK166.out (by decide))); have n2_ := Aside0.mk (blk_grown (g := gb171) (o := .cells #[.int .i64 ((rd_T162 l1_0 x7_3).f0), .int .i64 ((rd_T162 l1_0 x7_3).f1), .int .i64 ((rd_T162 l1_0 x7_3).f2)] 162 (0, 0)) (by (with_reducible repeat (first | refine blk_drewN ?_ _ | refine blk_drew ?_ | refine blk_alloc ?_ _)); exact BK171.out) hg (Kd.R_ne HO_6.out BK171.out (by decide))); have n3_ := Aside0.mk ((by rw [hw]; exact below_set (HB.out) GB51.out : Below w.heap.size w w56)); clear HO_6; clear BK166; clear BK171; clear HB; have HO_6 := n0_; have BK166 := n1_; have BK171 := n2_; have HB := n3_; clear n0_ n1_ n2_ n3_; clear hg hw hp_; have hcz57_0 : w56.cell? ⟨gb171, 0, none⟩ = some (.int .i64 ((rd_T162 l1_0 x7_3).f0)) := (blk_cell BK171.out 0).trans rfl; have hcz57_1 : w56.cell? ⟨gb171, 1, none⟩ = some (.int .i64 ((rd_T162 l1_0 x7_3).f1)) := (blk_cell BK171.out 1).trans rfl; have hcz57_2 : w56.cell? ⟨gb171, 2, none⟩ = some (.int .i64 ((rd_T162 l1_0 x7_3).f2)) := (blk_cell BK171.out 2).trans rfl; have hfz57_0 := blk_frozen BK171.out 0; have hfz57_1 := blk_frozen BK171.out 1; have hfz57_2 := blk_frozen BK171.out 2))
    go_ret
    exact ⟨by first | rfl | (simp [errW_none, errW_some] <;> rfl) | (simp [*, errW_none, errW_some] <;> rfl), by repeat (first | (with_reducible first | exact HB.out | apply below_alloc | apply pw_below_drewN | apply below_drew1 | refine below_set ?_ GE166.out | refine below_set ?_ GE171.out) | exact HB.out)⟩
   ·rw [if_neg c52] at H
    have c52b0 : decide (((rd_T162 l1_0 x7_3).f2) < 0) = false := decide_eq_false c52
    clear c52
    by_cases c58 : ((rd_T162 l1_0 x7_3).f2) ≥ x7_3
    ·(
 rw [if_pos c58] at H
 have c58b0 : decide (x7_3 ≤ ((rd_T162 l1_0 x7_3).f2)) = true := decide_eq_true c58
 clear c58
 obtain rfl := Option.some.inj H
 have hnb59 := NB171_166.out
 have hnc59 := NB166_171.out
 have hcz60_0 : wc.cell? ⟨gb171, 0, none⟩ = some (.int .i64 ((rd_T162 l1_0 x7_3).f0)) := (blk_cell BK171.out 0).trans rfl
 have hcz60_1 : wc.cell? ⟨gb171, 1, none⟩ = some (.int .i64 ((rd_T162 l1_0 x7_3).f1)) := (blk_cell BK171.out 1).trans rfl
 have hcz60_2 : wc.cell? ⟨gb171, 2, none⟩ = some (.int .i64 ((rd_T162 l1_0 x7_3).f2)) := (blk_cell BK171.out 2).trans rfl
 have hfz60_0 := blk_frozen BK171.out 0
 have hfz60_1 := blk_frozen BK171.out 1
 have hfz60_2 := blk_frozen BK171.out 2
 have p51 : 0 ≤ (((rd_T162 l1_0 x7_3).f1) : Int) := of_decide_eq_true (by first | (with_reducible assumption) | assumption)
 have q51 : (((rd_T162 l1_0 x7_3).f1) : Int) < ((x6_3.length : Int) : Int) := of_decide_eq_true (by first | (with_reducible assumption) | assumption)
 obtain ⟨go51, co51, eo51, gb51, gl51, cl51, HG51⟩ := Kd.R_form HO_6.out (by omega)
 (first | cases eo51 | (injection eo51 with ea_ en_ ec_; (first | subst ea_ | (injection ea_ with ea_; subst ea_)); subst ec_; clear en_))
 have GB51 := Aside0.mk gb51
 have GG51 := Aside0.mk HG51
 clear gb51 gl51 HG51
 obtain ⟨hx51_0, hf51_0⟩ := Kd.R_celln false HO_6.out (((rd_T162 l1_0 x7_3).f1) : Int) p51 q51
 replace p51 := eq_true p51
 replace q51 := eq_true q51
 have HP61 := Kd.R_putg HO_6.out (((rd_T162 l1_0 x7_3).f1) : Int) true
 go_wp2_with (first | ((with_reducible refine gate_store (t := 4) (p := 73) rfl ?_); refine store_event (t := 4) (p := 73) (v := ?vo_w62) (w1 := (wc.setCell ⟨go51, (((rd_T162 l1_0 x7_3).f1) : Int).toNat, none⟩ (.bool true))) ?hg ?ho ?hn ?hr ?_; (case ho => rfl); (case hg => rfl); (case hn => rfl); (case hr => first | (go_simp; done) | (go_simp; rfl)); intro w62 hw; have hg : wc.grownBy w62 (some go51) := (by rw [hw]; exact HP61.2); have hp_ : Kd.R Kd.bool 4 w62 w.heap.size (fun _ => True) (.slice (some ⟨go51, 0, none⟩) x6_3.length co51) y173 := (by rw [hw, Ny173.out]; exact HP61.1); clear HP61; have n0_ := Aside0.mk (hp_); have n1_ := Aside0.mk (blk_grown (g := gb166) (o := .cells #[.slice (some ad170) l1_0.length c1_0] 59 (0, 0)) (by (with_reducible repeat (first | refine blk_drewN ?_ _ | refine blk_drew ?_ | refine blk_alloc ?_ _)); exact BK166.out) hg (Kd.R_ne HO_6.out BK166.out (by decide))); have n2_ := Aside0.mk (blk_grown (g := gb171) (o := .cells #[.int .i64 ((rd_T162 l1_0 x7_3).f0), .int .i64 ((rd_T162 l1_0 x7_3).f1), .int .i64 ((rd_T162 l1_0 x7_3).f2)] 162 (0, 0)) (by (with_reducible repeat (first | refine blk_drewN ?_ _ | refine blk_drew ?_ | refine blk_alloc ?_ _)); exact BK171.out) hg (Kd.R_ne HO_6.out BK171.out (by decide))); have n3_ := Aside0.mk ((by rw [hw]; exact below_set (HB.out) GB51.out : Below w.heap.size w w62)); clear HO_6; clear BK166; clear BK171; clear HB; have HO_6 := n0_; have BK166 := n1_; have BK171 := n2_; have HB := n3_; clear n0_ n1_ n2_ n3_; clear hg hw hp_; have hcz63_0 : w62.cell? ⟨gb171, 0, none⟩ = some (.int .i64 ((rd_T162 l1_0 x7_3).f0)) := (blk_cell BK171.out 0).trans rfl; have hcz63_1 : w62.cell? ⟨gb171, 1, none⟩ = some (.int .i64 ((rd_T162 l1_0 x7_3).f1)) := (blk_cell BK171.out 1).trans rfl; have hcz63_2 : w62.cell? ⟨gb171, 2, none⟩ = some (.int .i64 ((rd_T162 l1_0 x7_3).f2)) := (blk_cell BK171.out 2).trans rfl; have hfz63_0 := blk_frozen BK171.out 0; have hfz63_1 := blk_frozen BK171.out 1; have hfz63_2 := blk_frozen BK171.out 2))
 go_ret
 exact ⟨by first | rfl | (simp [errW_none, errW_some] <;> rfl) | (simp [*, errW_none, errW_some] <;> rfl), by repeat (first | (with_reducible first | exact HB.out | apply below_alloc | apply pw_below_drewN | apply below_drew1 | refine below_set ?_ GE166.out | refine below_set ?_ GE171.out) | exact HB.out)⟩)
    ·(
 rw [if_neg c58] at H
 have c58b0 : decide (x7_3 ≤ ((rd_T162 l1_0 x7_3).f2)) = false := decide_eq_false c58
 clear c58
 by_cases c64 : 0 ≤ ((rd_T162 l1_0 x7_3).f2)
 ·rw [if_pos c64] at H
  have c64b0 : decide (0 ≤ ((rd_T162 l1_0 x7_3).f2)) = true := decide_eq_true c64
  clear c64
  by_cases c65 : ((rd_T162 l1_0 x7_3).f2) < (x6_3.length : Int)
  ·rw [if_pos c65] at H
   have c65b0 : decide (((rd_T162 l1_0 x7_3).f2) < (x6_3.length : Int)) = true := decide_eq_true c65
   clear c65
   obtain ⟨bq66, hbq66⟩ : ∃ b_ : Bool, b_ = (rdOf false y173 ((rd_T162 l1_0 x7_3).f2)) := ⟨_, rfl⟩
   replace H : (if bq66 = true then (some 3) else (evermoreref12_Tree.l0 kj35 a0 (l1_0.length : Int) (y173.set (((rd_T162 l1_0 x7_3).f2) : Int).toNat true) (wrap64 (x7_3 + 1)) l1_0)) = some r := by rw [← hbq66] at H; exact H
   have Nbq66 := Aside0.mk hbq66
   clear hbq66
   by_cases c67 : bq66 = true
   ·subst c67
    have H1 : (some 3) = some r := by rw [if_pos rfl] at H; exact H
    clear H
    have H := H1
    clear H1
    obtain rfl := Option.some.inj H
    have hnb68 := NB171_166.out
    have hnc68 := NB166_171.out
    have hcz69_0 : wc.cell? ⟨gb171, 0, none⟩ = some (.int .i64 ((rd_T162 l1_0 x7_3).f0)) := (blk_cell BK171.out 0).trans rfl
    have hcz69_1 : wc.cell? ⟨gb171, 1, none⟩ = some (.int .i64 ((rd_T162 l1_0 x7_3).f1)) := (blk_cell BK171.out 1).trans rfl
    have hcz69_2 : wc.cell? ⟨gb171, 2, none⟩ = some (.int .i64 ((rd_T162 l1_0 x7_3).f2)) := (blk_cell BK171.out 2).trans rfl
    have hfz69_0 := blk_frozen BK171.out 0
    have hfz69_1 := blk_frozen BK171.out 1
    have hfz69_2 := blk_frozen BK171.out 2
    have p51 : 0 ≤ (((rd_T162 l1_0 x7_3).f1) : Int) := of_decide_eq_true (by first | (with_reducible assumption) | assumption)
    have q51 : (((rd_T162 l1_0 x7_3).f1) : Int) < ((x6_3.length : Int) : Int) := of_decide_eq_true (by first | (with_reducible assumption) | assumption)
    obtain ⟨go51, co51, eo51, gb51, gl51, cl51, HG51⟩ := Kd.R_form HO_6.out (by omega)
    (first | cases eo51 | (injection eo51 with ea_ en_ ec_; (first | subst ea_ | (injection ea_ with ea_; subst ea_)); subst ec_; clear en_))
    have GB51 := Aside0.mk gb51
    have GG51 := Aside0.mk HG51
    clear gb51 gl51 HG51
    obtain ⟨hx51_0, hf51_0⟩ := Kd.R_celln false HO_6.out (((rd_T162 l1_0 x7_3).f1) : Int) p51 q51
    replace p51 := eq_true p51
    replace q51 := eq_true q51
    have HP70 := Kd.R_putg HO_6.out (((rd_T162 l1_0 x7_3).f1) : Int) true
    go_wp2_with (first | ((with_reducible refine gate_store (t := 4) (p := 73) rfl ?_); refine store_event (t := 4) (p := 73) (v := ?vo_w71) (w1 := (wc.setCell ⟨go51, (((rd_T162 l1_0 x7_3).f1) : Int).toNat, none⟩ (.bool true))) ?hg ?ho ?hn ?hr ?_; (case ho => rfl); (case hg => rfl); (case hn => rfl); (case hr => first | (go_simp; done) | (go_simp; rfl)); intro w71 hw; have hg : wc.grownBy w71 (some go51) := (by rw [hw]; exact HP70.2); have hp_ : Kd.R Kd.bool 4 w71 w.heap.size (fun _ => True) (.slice (some ⟨go51, 0, none⟩) x6_3.length co51) y173 := (by rw [hw, Ny173.out]; exact HP70.1); clear HP70; have n0_ := Aside0.mk (hp_); have n1_ := Aside0.mk (blk_grown (g := gb166) (o := .cells #[.slice (some ad170) l1_0.length c1_0] 59 (0, 0)) (by (with_reducible repeat (first | refine blk_drewN ?_ _ | refine blk_drew ?_ | refine blk_alloc ?_ _)); exact BK166.out) hg (Kd.R_ne HO_6.out BK166.out (by decide))); have n2_ := Aside0.mk (blk_grown (g := gb171) (o := .cells #[.int .i64 ((rd_T162 l1_0 x7_3).f0), .int .i64 ((rd_T162 l1_0 x7_3).f1), .int .i64 ((rd_T162 l1_0 x7_3).f2)] 162 (0, 0)) (by (with_reducible repeat (first | refine blk_drewN ?_ _ | refine blk_drew ?_ | refine blk_alloc ?_ _)); exact BK171.out) hg (Kd.R_ne HO_6.out BK171.out (by decide))); have n3_ := Aside0.mk ((by rw [hw]; exact below_set (HB.out) GB51.out : Below w.heap.size w w71)); clear HO_6; clear BK166; clear BK171; clear HB; have HO_6 := n0_; have BK166 := n1_; have BK171 := n2_; have HB := n3_; clear n0_ n1_ n2_ n3_; clear hg hw hp_; have hcz72_0 : w71.cell? ⟨gb171, 0, none⟩ = some (.int .i64 ((rd_T162 l1_0 x7_3).f0)) := (blk_cell BK171.out 0).trans rfl; have hcz72_1 : w71.cell? ⟨gb171, 1, none⟩ = some (.int .i64 ((rd_T162 l1_0 x7_3).f1)) := (blk_cell BK171.out 1).trans rfl; have hcz72_2 : w71.cell? ⟨gb171, 2, none⟩ = some (.int .i64 ((rd_T162 l1_0 x7_3).f2)) := (blk_cell BK171.out 2).trans rfl; have hfz72_0 := blk_frozen BK171.out 0; have hfz72_1 := blk_frozen BK171.out 1; have hfz72_2 := blk_frozen BK171.out 2; have p174 : 0 ≤ (((rd_T162 l1_0 x7_3).f2) : Int) := of_decide_eq_true (by first | (with_reducible assumption) | assumption); have q174 : ((rd_T162 l1_0 x7_3).f2) < (y173.length : Int) := (by have h_ : (((rd_T162 l1_0 x7_3).f2) : Int) < ((x6_3.length : Int) : Int) := of_decide_eq_true (by first | (with_reducible assumption) | assumption); first | (have e_ := (Kd.R_reads' HO_6.out).1; omega) | simpa only [Ny173.out, List.length_set] using h_); have ql174 : ((((rd_T162 l1_0 x7_3).f2) : Int) < ((x6_3.length : Int) : Int)) = True := eq_true (of_decide_eq_true (by first | (with_reducible assumption) | assumption)); obtain ⟨ad174, e174, hx174_0⟩ := Kd.at_bool (Kd.R_reads' HO_6.out).2.2 ((rd_T162 l1_0 x7_3).f2) p174 q174; (try rw [← Nbq66.out] at hx174_0); obtain rfl : (⟨go51, 0, none⟩ : Addr) = ad174 := (by injection e174); (first | simp only [add_plain] at hx174_0 | simp only [add_at] at hx174_0 | simp only [Addr.add, Nat.zero_add] at hx174_0 | skip); replace p174 := eq_true p174; replace q174 := eq_true q174))
    go_ret
    exact ⟨by first | rfl | (simp [errW_none, errW_some] <;> rfl) | (simp [*, errW_none, errW_some] <;> rfl), by repeat (first | (with_reducible first | exact HB.out | apply below_alloc | apply pw_below_drewN | apply below_drew1 | refine below_set ?_ GE166.out | refine below_set ?_ GE171.out) | exact HB.out)⟩
   ·replace c67 := Bool.eq_false_iff.mpr c67
    subst c67
    have H1 : (evermoreref12_Tree.l0 kj35 a0 (l1_0.length : Int) (y173.set (((rd_T162 l1_0 x7_3).f2) : Int).toNat true) (wrap64 (x7_3 + 1)) l1_0) = some r := by rw [if_neg (show ¬ (false = true) by decide)] at H; exact H
    clear H
    have H := H1
    clear H1
    obtain ⟨y175, hy175⟩ : ∃ y_ : List Bool, y_ = (y173.set (((rd_T162 l1_0 x7_3).f2) : Int).toNat true) := ⟨_, rfl⟩
    replace H : (evermoreref12_Tree.l0 kj35 a0 (l1_0.length : Int) y175 (wrap64 (x7_3 + 1)) l1_0) = some r := by first | (rw [hy175]; with_reducible exact H) | (have H2_ := (Option.bind_some _ _).symm.trans H; rw [hy175]; with_reducible exact H2_) | (have H2_ := (Option.bind_some _ _).symm.trans H; with_reducible exact H2_) | with_reducible exact H | (rw [hy175]; exact H) | exact H
    have Ny175 := Aside0.mk hy175
    clear hy175
    have H' := Aside0.mk H
    clear H
    have hnb74 := NB171_166.out
    have hnc74 := NB166_171.out
    have hcz75_0 : wc.cell? ⟨gb171, 0, none⟩ = some (.int .i64 ((rd_T162 l1_0 x7_3).f0)) := (blk_cell BK171.out 0).trans rfl
    have hcz75_1 : wc.cell? ⟨gb171, 1, none⟩ = some (.int .i64 ((rd_T162 l1_0 x7_3).f1)) := (blk_cell BK171.out 1).trans rfl
    have hcz75_2 : wc.cell? ⟨gb171, 2, none⟩ = some (.int .i64 ((rd_T162 l1_0 x7_3).f2)) := (blk_cell BK171.out 2).trans rfl
    have hfz75_0 := blk_frozen BK171.out 0
    have hfz75_1 := blk_frozen BK171.out 1
    have hfz75_2 := blk_frozen BK171.out 2
    have p51 : 0 ≤ (((rd_T162 l1_0 x7_3).f1) : Int) := of_decide_eq_true (by first | (with_reducible assumption) | assumption)
    have q51 : (((rd_T162 l1_0 x7_3).f1) : Int) < ((x6_3.length : Int) : Int) := of_decide_eq_true (by first | (with_reducible assumption) | assumption)
    obtain ⟨go51, co51, eo51, gb51, gl51, cl51, HG51⟩ := Kd.R_form HO_6.out (by omega)
    (first | cases eo51 | (injection eo51 with ea_ en_ ec_; (first | subst ea_ | (injection ea_ with ea_; subst ea_)); subst ec_; clear en_))
    have GB51 := Aside0.mk gb51
    have GG51 := Aside0.mk HG51
    clear gb51 gl51 HG51
    obtain ⟨hx51_0, hf51_0⟩ := Kd.R_celln false HO_6.out (((rd_T162 l1_0 x7_3).f1) : Int) p51 q51
    replace p51 := eq_true p51
    replace q51 := eq_true q51
    have HP76 := Kd.R_putg HO_6.out (((rd_T162 l1_0 x7_3).f1) : Int) true
    go_wp2_with (first | ((with_reducible refine gate_store (t := 4) (p := 73) rfl ?_); refine store_event (t := 4) (p := 73) (v := ?vo_w77) (w1 := (wc.setCell ⟨go51, (((rd_T162 l1_0 x7_3).f1) : Int).toNat, none⟩ (.bool true))) ?hg ?ho ?hn ?hr ?_; (case ho => rfl); (case hg => rfl); (case hn => rfl); (case hr => first | (go_simp; done) | (go_simp; rfl)); intro w77 hw; have hg : wc.grownBy w77 (some go51) := (by rw [hw]; exact HP76.2); have hp_ : Kd.R Kd.bool 4 w77 w.heap.size (fun _ => True) (.slice (some ⟨go51, 0, none⟩) x6_3.length co51) y173 := (by rw [hw, Ny173.out]; exact HP76.1); clear HP76; have n0_ := Aside0.mk (hp_); have n1_ := Aside0.mk (blk_grown (g := gb166) (o := .cells #[.slice (some ad170) l1_0.length c1_0] 59 (0, 0)) (by (with_reducible repeat (first | refine blk_drewN ?_ _ | refine blk_drew ?_ | refine blk_alloc ?_ _)); exact BK166.out) hg (Kd.R_ne HO_6.out BK166.out (by decide))); have n2_ := Aside0.mk (blk_grown (g := gb171) (o := .cells #[.int .i64 ((rd_T162 l1_0 x7_3).f0), .int .i64 ((rd_T162 l1_0 x7_3).f1), .int .i64 ((rd_T162 l1_0 x7_3).f2)] 162 (0, 0)) (by (with_reducible repeat (first | refine blk_drewN ?_ _ | refine blk_drew ?_ | refine blk_alloc ?_ _)); exact BK171.out) hg (Kd.R_ne HO_6.out BK171.out (by decide))); have n3_ := Aside0.mk ((by rw [hw]; exact below_set (HB.out) GB51.out : Below w.heap.size w w77)); clear HO_6; clear BK166; clear BK171; clear HB; have HO_6 := n0_; have BK166 := n1_; have BK171 := n2_; have HB := n3_; clear n0_ n1_ n2_ n3_; clear hg hw hp_; have hcz78_0 : w77.cell? ⟨gb171, 0, none⟩ = some (.int .i64 ((rd_T162 l1_0 x7_3).f0)) := (blk_cell BK171.out 0).trans rfl; have hcz78_1 : w77.cell? ⟨gb171, 1, none⟩ = some (.int .i64 ((rd_T162 l1_0 x7_3).f1)) := (blk_cell BK171.out 1).trans rfl; have hcz78_2 : w77.cell? ⟨gb171, 2, none⟩ = some (.int .i64 ((rd_T162 l1_0 x7_3).f2)) := (blk_cell BK171.out 2).trans rfl; have hfz78_0 := blk_frozen BK171.out 0; have hfz78_1 := blk_frozen BK171.out 1; have hfz78_2 := blk_frozen BK171.out 2; have p174 : 0 ≤ (((rd_T162 l1_0 x7_3).f2) : Int) := of_decide_eq_true (by first | (with_reducible assumption) | assumption); have q174 : ((rd_T162 l1_0 x7_3).f2) < (y173.length : Int) := (by have h_ : (((rd_T162 l1_0 x7_3).f2) : Int) < ((x6_3.length : Int) : Int) := of_decide_eq_true (by first | (with_reducible assumption) | assumption); first | (have e_ := (Kd.R_reads' HO_6.out).1; omega) | simpa only [Ny173.out, List.length_set] using h_); have ql174 : ((((rd_T162 l1_0 x7_3).f2) : Int) < ((x6_3.length : Int) : Int)) = True := eq_true (of_decide_eq_true (by first | (with_reducible assumption) | assumption)); obtain ⟨ad174, e174, hx174_0⟩ := Kd.at_bool (Kd.R_reads' HO_6.out).2.2 ((rd_T162 l1_0 x7_3).f2) p174 q174; (try rw [← Nbq66.out] at hx174_0); obtain rfl : (⟨go51, 0, none⟩ : Addr) = ad174 := (by injection e174); (first | simp only [add_plain] at hx174_0 | simp only [add_at] at hx174_0 | simp only [Addr.add, Nat.zero_add] at hx174_0 | skip); replace p174 := eq_true p174; replace q174 := eq_true q174; have p73 : 0 ≤ (((rd_T162 l1_0 x7_3).f2) : Int) := of_decide_eq_true (by first | (with_reducible assumption) | assumption); have q73 : (((rd_T162 l1_0 x7_3).f2) : Int) < ((x6_3.length : Int) : Int) := of_decide_eq_true (by first | (with_reducible assumption) | assumption); obtain ⟨hx73_0, hf73_0⟩ := Kd.R_celln false HO_6.out (((rd_T162 l1_0 x7_3).f2) : Int) p73 q73; replace p73 := eq_true p73; replace q73 := eq_true q73; obtain ⟨hy79_, hz79_⟩ := Kd.R_celln false HO_6.out (((rd_T162 l1_0 x7_3).f2) : Int) (of_decide_eq_true (by first | (with_reducible assumption) | assumption)) (of_decide_eq_true (by first | (with_reducible assumption) | assumption)); have HP79 := Kd.R_putg HO_6.out (((rd_T162 l1_0 x7_3).f2) : Int) true) | ((with_reducible refine gate_store (t := 4) (p := 93) rfl ?_); refine store_event (t := 4) (p := 93) (v := ?vo_w80) (w1 := (w77.setCell ⟨go51, (((rd_T162 l1_0 x7_3).f2) : Int).toNat, none⟩ (.bool true))) ?hg ?ho ?hn ?hr ?_; (case ho => rfl); (case hg => rfl); (case hn => rfl); (case hr => first | (go_simp; done) | (go_simp; rfl)); intro w80 hw; have hg : w77.grownBy w80 (some go51) := (by rw [hw]; exact HP79.2); have hp_ : Kd.R Kd.bool 4 w80 w.heap.size (fun _ => True) (.slice (some ⟨go51, 0, none⟩) x6_3.length co51) y175 := (by rw [hw, Ny175.out]; exact HP79.1); clear HP79; have n0_ := Aside0.mk (hp_); have n1_ := Aside0.mk (blk_grown (g := gb166) (o := .cells #[.slice (some ad170) l1_0.length c1_0] 59 (0, 0)) (by (with_reducible repeat (first | refine blk_drewN ?_ _ | refine blk_drew ?_ | refine blk_alloc ?_ _)); exact BK166.out) hg (Kd.R_ne HO_6.out BK166.out (by decide))); have n2_ := Aside0.mk (blk_grown (g := gb171) (o := .cells #[.int .i64 ((rd_T162 l1_0 x7_3).f0), .int .i64 ((rd_T162 l1_0 x7_3).f1), .int .i64 ((rd_T162 l1_0 x7_3).f2)] 162 (0, 0)) (by (with_reducible repeat (first | refine blk_drewN ?_ _ | refine blk_drew ?_ | refine blk_alloc ?_ _)); exact BK171.out) hg (Kd.R_ne HO_6.out BK171.out (by decide))); have n3_ := Aside0.mk ((by rw [hw]; exact below_set (HB.out) GB51.out : Below w.heap.size w w80)); clear HO_6; clear BK166; clear BK171; clear HB; have HO_6 := n0_; have BK166 := n1_; have BK171 := n2_; have HB := n3_; clear n0_ n1_ n2_ n3_; clear hg hw hp_))
    go_roundg kj35
    case measure => have := HJ2.out; have := HJ6.out; have := HK3.out; have := HJ17.out; have := HJ28.out; have := HJ35.out; omega
    case rel => exact ⟨(y175), (wrap64 (x7_3 + 1)), (by first | rfl | (simp; done) | (simp [*]; done)), H', ⟨by have := HJ2.out; have := HJ6.out; have := HK3.out; have := HJ17.out; have := HJ28.out; have := HJ35.out; omega⟩, ⟨by (with_reducible repeat (first | apply Kd.R_alloc | apply Kd.R_drewN | apply Kd.R_drew)); exact HO_6.out⟩, ⟨by (with_reducible repeat (first | refine blk_drewN ?_ _ | refine blk_drew ?_ | refine blk_alloc ?_ _)); exact BK166.out⟩, ⟨by repeat (first | (with_reducible first | exact HB.out | apply below_alloc | apply pw_below_drewN | apply below_drew1 | refine below_set ?_ GE166.out | refine below_set ?_ GE171.out) | exact HB.out)⟩⟩
  ·rw [if_neg c65] at H
   exact absurd H (by simp)
 ·rw [if_neg c64] at H
  exact absurd H (by simp))
  ·rw [if_neg c50] at H
   exact absurd H (by simp)
 ·rw [if_neg c49] at H
  exact absurd H (by simp)))
  ·rw [if_neg c17] at H
   exact absurd H (by simp)
 ·rw [if_neg c16] at H
  exact absurd H (by simp))
     ·(
 rw [if_neg c15] at H
 have c15b0 : decide (x7_3 < (l1_0.length : Int)) = false := decide_eq_false c15
 clear c15
 have H' := Aside0.mk H
 clear H
 go_wp2
 go_loopg [9] k3 (fun kq v9 w' => ∃ (x9_4 : Int), v9 = .int .i64 x9_4 ∧ Aside0 (evermoreref12_Tree.l1 kq (l1_0.length : Int) x6_3 x9_4 = some r) ∧ Aside0 (kq ≤ k3) ∧ Aside0 (Kd.R Kd.bool 4 w' w.heap.size (fun _ => True) v168 x6_3) ∧ Aside0 (w'.heap[gb166]? = some (.cells #[(.slice A1_0 l1_0.length c1_0)] 59 (0, 0))) ∧ Aside0 (Below w.heap.size w w'))
 case atStart => exact ⟨(0), (by first | rfl | (simp; done) | (simp [*]; done)), H', ⟨Nat.le_refl _⟩, ⟨by (with_reducible repeat (first | apply Kd.R_alloc | apply Kd.R_drewN | apply Kd.R_drew)); exact HO_6.out⟩, ⟨by (with_reducible repeat (first | refine blk_drewN ?_ _ | refine blk_drew ?_ | refine blk_alloc ?_ _)); exact BK166.out⟩, ⟨by repeat (first | (with_reducible first | exact HB.out | apply below_alloc | apply pw_below_drewN | apply below_drew1 | refine below_set ?_ GE166.out) | exact HB.out)⟩⟩
 case round =>
  clear H'
  try clear c1
  try clear p1
  try clear q1
  try clear hx1
  try clear c2
  try clear p2
  try clear c3
  try clear c4
  try clear c5
  try clear c5b0
  try clear p5
  try clear q5
  try clear hx5
  try clear hf5
  try clear c6
  try clear p6
  try clear q6
  try clear c7
  try clear p7
  try clear q7
  try clear hx7
  try clear hf7
  try clear c9
  try clear c9b0
  try clear c9b1
  try clear c10
  try clear c11
  try clear c11b0
  try clear c11b1
  try clear c12
  try clear c12b0
  try clear c12b1
  try clear c15
  try clear c15b0
  try clear c16
  try clear c16b0
  try clear c17
  try clear c17b0
  try clear p17
  try clear q17
  try clear hx17
  try clear c21
  try clear c23
  try clear c23b0
  try clear c24
  try clear c26
  try clear c28
  try clear c30
  try clear c30b0
  try clear c30b1
  try clear c31
  try clear c33
  try clear c35
  try clear c36
  try clear c37
  try clear c37b0
  try clear c38
  try clear c40
  try clear c40b0
  try clear c41
  try clear c43
  try clear c43b0
  try clear c44
  try clear c44b0
  try clear c45
  try clear c48
  try clear c49
  try clear c49b0
  try clear c50
  try clear c50b0
  try clear p51
  try clear q51
  try clear hx51
  try clear hf51
  try clear c52
  try clear c52b0
  try clear c53
  try clear c58
  try clear c58b0
  try clear c59
  try clear c64
  try clear c64b0
  try clear p64
  try clear c65
  try clear c65b0
  try clear q66
  try clear c67
  try clear c68
  try clear p73
  try clear q73
  try clear hx73
  try clear hf73
  try clear c74
  try clear hcz19_0
  try clear hcz22_0
  try clear hcz22_1
  try clear hcz22_2
  try clear hcz25_0
  try clear hcz25_1
  try clear hcz25_2
  try clear hcz27_0
  try clear hcz27_1
  try clear hcz27_2
  try clear hcz32_0
  try clear hcz32_1
  try clear hcz32_2
  try clear hcz34_0
  try clear hcz34_1
  try clear hcz34_2
  try clear hcz39_0
  try clear hcz39_1
  try clear hcz39_2
  try clear hcz42_0
  try clear hcz42_1
  try clear hcz42_2
  try clear hcz46_0
  try clear hcz46_1
  try clear hcz46_2
  try clear hcz54_0
  try clear hcz54_1
  try clear hcz54_2
  try clear hcz57_0
  try clear hcz57_1
  try clear hcz57_2
  try clear hcz60_0
  try clear hcz60_1
  try clear hcz60_2
  try clear hcz63_0
  try clear hcz63_1
  try clear hcz63_2
  try clear hcz69_0
  try clear hcz69_1
  try clear hcz69_2
  try clear hcz72_0
  try clear hcz72_1
  try clear hcz72_2
  try clear hcz75_0
  try clear hcz75_1
  try clear hcz75_2
  try clear hcz78_0
  try clear hcz78_1
  try clear hcz78_2
  try clear hcz8_0
  try clear hfz19_0
  try clear hfz22_0
  try clear hfz22_1
  try clear hfz22_2
  try clear hfz25_0
  try clear hfz25_1
  try clear hfz25_2
  try clear hfz27_0
  try clear hfz27_1
  try clear hfz27_2
  try clear hfz32_0
  try clear hfz32_1
  try clear hfz32_2
  try clear hfz34_0
  try clear hfz34_1
  try clear hfz34_2
  try clear hfz39_0
  try clear hfz39_1
  try clear hfz39_2
  try clear hfz42_0
  try clear hfz42_1
  try clear hfz42_2
  try clear hfz46_0
  try clear hfz46_1
  try clear hfz46_2
  try clear hfz54_0
  try clear hfz54_1
  try clear hfz54_2
  try clear hfz57_0
  try clear hfz57_1
  try clear hfz57_2
  try clear hfz60_0
  try clear hfz60_1
  try clear hfz60_2
  try clear hfz63_0
  try clear hfz63_1
  try clear hfz63_2
  try clear hfz69_0
  try clear hfz69_1
  try clear hfz69_2
  try clear hfz72_0
  try clear hfz72_1
  try clear hfz72_2
  try clear hfz75_0
  try clear hfz75_1
  try clear hfz75_2
  try clear hfz78_0
  try clear hfz78_1
  try clear hfz78_2
  try clear hfz8_0
  try clear hx170_0
  try clear hx170_1
  try clear hx170_2
  try clear hx172_0
  try clear hx174_0
  try clear hx51_0
  try clear hx73_0
  try clear p1
  try clear p17
  try clear p170
  try clear p172
  try clear p174
  try clear p2
  try clear p51
  try clear p6
  try clear p73
  try clear q1
  try clear q17
  try clear q170
  try clear q172
  try clear q174
  try clear q51
  try clear q73
  obtain ⟨x9_4, rfl, HA, HK4, HO_6, BK166, HB⟩ := hrel
  cases gk with
  | zero => exact absurd HA.out (by simp [evermoreref12_Tree.l1])
  | succ k4 =>
   have H := HA.out
   clear HA
   simp only [evermoreref12_Tree.l1] at H
   by_cases c81 : x9_4 < (wrap64 ((l1_0.length : Int) - 1))
   ·rw [if_pos c81] at H
    have c81b0 : decide (x9_4 < (wrap64 ((l1_0.length : Int) - 1))) = true := decide_eq_true c81
    clear c81
    by_cases c82 : 0 ≤ x9_4
    ·(
 rw [if_pos c82] at H
 have c82b0 : decide (0 ≤ x9_4) = true := decide_eq_true c82
 clear c82
 by_cases c83 : x9_4 < (x6_3.length : Int)
 ·rw [if_pos c83] at H
  have c83b0 : decide (x9_4 < (x6_3.length : Int)) = true := decide_eq_true c83
  clear c83
  obtain ⟨bq84, hbq84⟩ : ∃ b_ : Bool, b_ = (rdOf false x6_3 x9_4) := ⟨_, rfl⟩
  replace H : (if bq84 = true then (evermoreref12_Tree.l1 k4 (l1_0.length : Int) x6_3 (wrap64 (x9_4 + 1))) else (some 3)) = some r := by rw [← hbq84] at H; exact H
  have Nbq84 := Aside0.mk hbq84
  clear hbq84
  by_cases c85 : bq84 = true
  ·subst c85
   have H1 : (evermoreref12_Tree.l1 k4 (l1_0.length : Int) x6_3 (wrap64 (x9_4 + 1))) = some r := by rw [if_pos rfl] at H; exact H
   clear H
   have H := H1
   clear H1
   have H' := Aside0.mk H
   clear H
   obtain ⟨Ao86, co86, eo86⟩ := Kd.R_slice HO_6.out
   subst eo86
   have p176 : 0 ≤ (x9_4 : Int) := of_decide_eq_true (by first | (with_reducible assumption) | assumption)
   have q176 : x9_4 < (x6_3.length : Int) := of_decide_eq_true (by first | (with_reducible assumption) | assumption)
   obtain ⟨ad176, e176, hx176_0⟩ := Kd.at_bool (Kd.R_reads' HO_6.out).2.2 x9_4 p176 q176
   (try rw [← Nbq84.out] at hx176_0)
   cases e176
   replace p176 := eq_true p176
   replace q176 := eq_true q176
   go_wp2
   go_roundg k4
   case measure => have := HJ2.out; have := HJ6.out; have := HK3.out; have := HK4.out; omega
   case rel => exact ⟨(wrap64 (x9_4 + 1)), (by first | rfl | (simp; done) | (simp [*]; done)), H', ⟨by have := HJ2.out; have := HJ6.out; have := HK3.out; have := HK4.out; omega⟩, ⟨by (with_reducible repeat (first | apply Kd.R_alloc | apply Kd.R_drewN | apply Kd.R_drew)); exact HO_6.out⟩, ⟨by (with_reducible repeat (first | refine blk_drewN ?_ _ | refine blk_drew ?_ | refine blk_alloc ?_ _)); exact BK166.out⟩, ⟨by repeat (first | (with_reducible first | exact HB.out | apply below_alloc | apply pw_below_drewN | apply below_drew1 | refine below_set ?_ GE166.out) | exact HB.out)⟩⟩
  ·replace c85 := Bool.eq_false_iff.mpr c85
   subst c85
   have H1 : (some 3) = some r := by rw [if_neg (show ¬ (false = true) by decide)] at H; exact H
   clear H
   have H := H1
   clear H1
   obtain rfl := Option.some.inj H
   obtain ⟨Ao87, co87, eo87⟩ := Kd.R_slice HO_6.out
   subst eo87
   have p176 : 0 ≤ (x9_4 : Int) := of_decide_eq_true (by first | (with_reducible assumption) | assumption)
   have q176 : x9_4 < (x6_3.length : Int) := of_decide_eq_true (by first | (with_reducible assumption) | assumption)
   obtain ⟨ad176, e176, hx176_0⟩ := Kd.at_bool (Kd.R_reads' HO_6.out).2.2 x9_4 p176 q176
   (try rw [← Nbq84.out] at hx176_0)
   cases e176
   replace p176 := eq_true p176
   replace q176 := eq_true q176
   go_wp2
   go_ret
   exact ⟨by first | rfl | (simp [errW_none, errW_some] <;> rfl) | (simp [*, errW_none, errW_some] <;> rfl), by repeat (first | (with_reducible first | exact HB.out | apply below_alloc | apply pw_below_drewN | apply below_drew1 | refine below_set ?_ GE166.out) | exact HB.out)⟩
 ·rw [if_neg c83] at H
  exact absurd H (by simp))
    ·(
 rw [if_neg c82] at H
 exact absurd H (by simp))
   ·rw [if_neg c81] at H
    have c81b0 : decide (x9_4 < (wrap64 ((l1_0.length : Int) - 1))) = false := decide_eq_false c81
    clear c81
    obtain rfl := Option.some.inj H
    go_wp2
    go_ret
    exact ⟨by first | rfl | (simp [errW_none, errW_some] <;> rfl) | (simp [*, errW_none, errW_some] <;> rfl), by repeat (first | (with_reducible first | exact HB.out | apply below_alloc | apply pw_below_drewN | apply below_drew1 | refine below_set ?_ GE166.out) | exact HB.out)⟩)
  ·rw [if_neg c12] at H
   exact absurd H (by simp)
 ·rw [if_neg c11] at H
  exact absurd H (by simp))
end Go.Proofs.Yteacnmjinjaapaa.PTreeAccepts
