-- Printed over the kit's print by a program of this session (wip/hprint.py), with contracts of its own hand.
import Derived.Test.YthbdmfhobienaaaPSeqsDiffersx0
namespace Go.Proofs.Ythbdmfhobienaaa.PSeqsDiffers
open Go.RowKit Go.Proofs.YthbdmfhobienaaaW.PrintWords Go.Proofs.YthbdmfhobienaaaW.PrintLast Go.Proofs.YthbdmfhobienaaaW.PrintMore
attribute [local go_sem] max2_int min2_int max_two min_two max_three min_three max_four min_four   -- for this text's walks alone
set_option linter.unusedVariables false
set_option linter.unusedSimpArgs false

/-! ### evermoreref23_Letter: function 29 -/
mutual
def evermoreref23_Letter.l0 : Nat → Int → List Int → Int → List (List Int) → List Int → Option (Int)
 | 0, _, _, _, _, _ => none
 | k + 1, x1, x5, x112000, x112001, x112002 => if x1 > 0 then (if x112000 = 0 then (none) else (if x5.length < 17592186044416 then (evermoreref23_Letter.l0 k (wrap64 (Int.tdiv x1 x112000)) (x5 ++ [Int.tmod x1 x112000]) x112000 x112001 x112002) else (none))) else (evermoreref23_Letter.l1 k x5 0 (wrap64 ((x5.length : Int) - 1)) x112000 x112001 x112002)
def evermoreref23_Letter.l1 : Nat → List Int → Int → Int → Int → List (List Int) → List Int → Option (Int)
 | 0, _, _, _, _, _, _ => none
 | k + 1, x5, x6, x7, x112000, x112001, x112002 => if x7 ≥ 0 then (if 0 ≤ x6 then (if x6 < (x112001.length : Int) then (if 0 ≤ x7 then (if x7 < (x5.length : Int) then (if 0 ≤ (rd x5 x7) then (if (rd x5 x7) < ((rd_L1 x112001 x6).length : Int) then (evermoreref23_Letter.l1 k x5 (rd (rd_L1 x112001 x6) (rd x5 x7)) (wrap64 (x7 - 1)) x112000 x112001 x112002) else (none)) else (none)) else (none)) else (none)) else (none)) else (none)) else (some x6)
end
def evermoreref23_Letter.f (k : Nat) (a0_0 : Int) (l0_1 : List (List Int)) (l0_2 : List Int) (a1 : Int) : Option (Int) := evermoreref23_Letter.l0 k a1 ([] : List Int) a0_0 l0_1 l0_2
theorem evermoreref23_Letter.mono_l : ∀ k, (∀ y0 y1 y2 y3 y4, LeO (evermoreref23_Letter.l0 k y0 y1 y2 y3 y4) (evermoreref23_Letter.l0 (k + 1) y0 y1 y2 y3 y4)) ∧ (∀ y0 y1 y2 y3 y4 y5, LeO (evermoreref23_Letter.l1 k y0 y1 y2 y3 y4 y5) (evermoreref23_Letter.l1 (k + 1) y0 y1 y2 y3 y4 y5))
 | 0 => ⟨fun _ _ _ _ _ r h => by simp [evermoreref23_Letter.l0] at h, fun _ _ _ _ _ _ r h => by simp [evermoreref23_Letter.l1] at h⟩
 | k + 1 => by
  obtain ⟨ih0, ih1⟩ := evermoreref23_Letter.mono_l k
  refine ⟨?_, ?_⟩
  ·intro y0 y1 y2 y3 y4
   unfold evermoreref23_Letter.l0
   repeat' first
   | (with_reducible exact ih0 _ _ _ _ _)
   | (with_reducible exact ih1 _ _ _ _ _ _)
   | (with_reducible exact LeO.refl _)
   | (with_reducible exact LeO.none _)
   | (with_reducible refine LeO.ite ?_ ?_)
   | (with_reducible refine LeO.bind ?_ (fun _ => ?_))
   | exact ih0 _ _ _ _ _
   | exact ih1 _ _ _ _ _ _
   | exact LeO.none _
   | refine LeO.ite ?_ ?_
   | refine LeO.bind ?_ (fun _ => ?_)
  ·intro y0 y1 y2 y3 y4 y5
   unfold evermoreref23_Letter.l1
   repeat' first
   | (with_reducible exact ih0 _ _ _ _ _)
   | (with_reducible exact ih1 _ _ _ _ _ _)
   | (with_reducible exact LeO.refl _)
   | (with_reducible exact LeO.none _)
   | (with_reducible refine LeO.ite ?_ ?_)
   | (with_reducible refine LeO.bind ?_ (fun _ => ?_))
   | exact ih0 _ _ _ _ _
   | exact ih1 _ _ _ _ _ _
   | exact LeO.none _
   | refine LeO.ite ?_ ?_
   | refine LeO.bind ?_ (fun _ => ?_)
theorem evermoreref23_Letter.mono : ∀ a0 a1 a2 a3 k, LeO (evermoreref23_Letter.f k a0 a1 a2 a3) (evermoreref23_Letter.f (k + 1) a0 a1 a2 a3) := by
 intro a0 a1 a2 a3 k
 obtain ⟨ih0, ih1⟩ := evermoreref23_Letter.mono_l k
 unfold evermoreref23_Letter.f
 repeat' first
   | (with_reducible exact ih0 _ _ _ _ _)
   | (with_reducible exact ih1 _ _ _ _ _ _)
   | (with_reducible exact LeO.refl _)
   | (with_reducible exact LeO.none _)
   | (with_reducible refine LeO.ite ?_ ?_)
   | (with_reducible refine LeO.bind ?_ (fun _ => ?_))
   | exact ih0 _ _ _ _ _
   | exact ih1 _ _ _ _ _ _
   | exact LeO.none _
   | refine LeO.ite ?_ ?_
   | refine LeO.bind ?_ (fun _ => ?_)
set_option maxHeartbeats 8000000 in
set_option maxRecDepth 100000 in
theorem evermoreref23_Letter.calls (k : Nat) (a0_0 : Int) (A0_1 : Option Addr) (c0_1 : Nat) (l0_1 : List (List Int)) (A0_2 : Option Addr) (c0_2 : Nat) (l0_2 : List Int) (a1 : Int) (r : Int) (w : World) (hr0_1 : Kd.C (Kd.slice 3 (Kd.int .i64)) w A0_1 l0_1.length l0_1) (hc0_1 : l0_1.length ≤ c0_1) (hr0_2 : Kd.C (Kd.int .i64) w A0_2 l0_2.length l0_2) (hc0_2 : l0_2.length ≤ c0_2) (h : evermoreref23_Letter.f k a0_0 l0_1 l0_2 a1 = some r) :
  Calls Try.prog 29 #[.agg #[.int .i64 a0_0, .slice A0_1 l0_1.length c0_1, .slice A0_2 l0_2.length c0_2], .int .i64 a1] w fun e w' => e = .returned (.int .i64 r) ∧ Below w.heap.size w w' := by
 have hu47 := Try.underlying47
 have HR0_1 := Aside0.mk hr0_1
 have HC0_1 := Aside0.mk hc0_1
 clear hr0_1 hc0_1
 have HR0_2 := Aside0.mk hr0_2
 have HC0_2 := Aside0.mk hc0_2
 clear hr0_2 hc0_2
 have HB := Aside0.mk (Below.refl w.heap.size w)
 have H : (evermoreref23_Letter.l0 k a1 ([] : List Int) a0_0 l0_1 l0_2) = some r := h
 clear h
 have H' := Aside0.mk H
 clear H
 go_enter Try.func29, Try.ntmps29
 iterate 4 ((try go_quiet (fail)); try go_wp2_with (first | ((with_reducible refine gate_dst (N := 2) rfl ?_); refine box_event ?hg (N := 2) ?hd (cs := #[.int .i64 a0_0, .slice A0_1 l0_1.length c0_1, .slice A0_2 l0_2.length c0_2]) (t := 47) ?hr ?_; (case hd => rfl); (case hg => rfl); (case hr => first | (go_simp; done) | (go_simp; rfl)); intro gb111 hg w3 hbox hb; have n0_ := Aside0.mk (below_step (by repeat (first | (with_reducible first | exact HB.out | apply below_alloc | apply pw_below_drewN | apply below_drew1) | exact HB.out)) hb); have n1_ := Aside0.mk (hbox); have n2_ := Aside0.mk ((by rw [hg]; exact (below_size (by repeat (first | (with_reducible first | exact HB.out | apply below_alloc | apply pw_below_drewN | apply below_drew1) | exact HB.out))) : w.heap.size ≤ gb111)); have n3_ := Aside0.mk ((by rw [hg]; exact (below_size (by repeat (first | (with_reducible first | exact HB.out | apply below_alloc | apply pw_below_drewN | apply below_drew1) | exact HB.out))) : w.heap.size ≤ gb111)); clear HB; have HB := n0_; have BK111 := n1_; have GW111 := n2_; have GE111 := n3_; clear n0_ n1_ n2_ n3_; clear hb hbox hg)))
 go_loopg [1, 5] k (fun kq v1 v5 w' => ∃ (x1_1 : Int) (x5_1 : List Int), v1 = .int .i64 x1_1 ∧ Aside0 (evermoreref23_Letter.l0 kq x1_1 x5_1 a0_0 l0_1 l0_2 = some r) ∧ Aside0 (kq ≤ k) ∧ Aside0 (Kd.R (Kd.int .i64) 3 w' w.heap.size (fun _ => True) v5 x5_1) ∧ Aside0 (w'.heap[gb111]? = some (.cells #[.int .i64 a0_0, (.slice A0_1 l0_1.length c0_1), (.slice A0_2 l0_2.length c0_2)] 47 (0, 0))) ∧ Aside0 (Below w.heap.size w w'))
 case atStart => exact ⟨(a1), (([] : List Int)), (by first | rfl | (simp; done) | (simp [*]; done)), H', ⟨Nat.le_refl _⟩, ⟨by first | exact Kd.R_nil _ _ _ _ _ | exact Kd.N_nil _ _ _ _ _ | exact Kd.V_nil _ _ _ _ _ | exact Kd.Q_nil _ _ _ _ _ | exact Kd.S_nil _ _ _ _ _⟩, ⟨by (with_reducible repeat (first | refine blk_drewN ?_ _ | refine blk_drew ?_ | refine blk_alloc ?_ _)); exact BK111.out⟩, ⟨by repeat (first | (with_reducible first | exact HB.out | apply below_alloc | apply pw_below_drewN | apply below_drew1 | refine below_set ?_ GE111.out) | exact HB.out)⟩⟩
 case round =>
  clear H'
  try clear c2
  try clear p2
  obtain ⟨x1_1, x5_1, rfl, HA, HK1, HO_5, BK111, HB⟩ := hrel
  cases gk with
  | zero => exact absurd HA.out (by simp [evermoreref23_Letter.l0])
  | succ k1 =>
   have H := HA.out
   clear HA
   simp only [evermoreref23_Letter.l0] at H
   by_cases c4 : x1_1 > 0
   ·rw [if_pos c4] at H
    have c4b0 : decide (0 < x1_1) = true := decide_eq_true c4
    clear c4
    by_cases c5 : a0_0 = 0
    ·(
 rw [if_pos c5] at H
 exact absurd H (by simp))
    ·(
 rw [if_neg c5] at H
 have c5b0 : (a0_0 == 0) = false := beq_eq_false_iff_ne.mpr c5
 have c5b1 : (a0_0 != 0) = true := bne_iff_ne.mpr c5
 by_cases c6 : x5_1.length < 17592186044416
 ·rw [if_pos c6] at H
  have LMc6 := Aside0.mk c6
  clear c6
  obtain ⟨y112, hy112⟩ : ∃ y_ : List Int, y_ = (x5_1 ++ [Int.tmod x1_1 a0_0]) := ⟨_, rfl⟩
  replace H : (evermoreref23_Letter.l0 k1 (wrap64 (Int.tdiv x1_1 a0_0)) y112 a0_0 l0_1 l0_2) = some r := by first | (rw [hy112]; with_reducible exact H) | (have H2_ := (Option.bind_some _ _).symm.trans H; rw [hy112]; with_reducible exact H2_) | (have H2_ := (Option.bind_some _ _).symm.trans H; with_reducible exact H2_) | with_reducible exact H | (rw [hy112]; exact H) | exact H
  have Ny112 := Aside0.mk hy112
  clear hy112
  have H' := Aside0.mk H
  clear H
  have hcz7_0 : wr.cell? ⟨gb111, 0, none⟩ = some (.int .i64 a0_0) := (blk_cell BK111.out 0).trans rfl
  have hcz7_1 : wr.cell? ⟨gb111, 1, none⟩ = some (.slice A0_1 l0_1.length c0_1) := (blk_cell BK111.out 1).trans rfl
  have hcz7_2 : wr.cell? ⟨gb111, 2, none⟩ = some (.slice A0_2 l0_2.length c0_2) := (blk_cell BK111.out 2).trans rfl
  have hfz7_0 := blk_frozen BK111.out 0
  have hfz7_1 := blk_frozen BK111.out 1
  have hfz7_2 := blk_frozen BK111.out 2
  iterate 4 ((try go_quiet (fail)); try go_wp2_with (first | ((with_reducible refine gate_builtin (b := .append) (xs := #[.tmp 10, .tmp 15]) rfl ?_); at_builtin; refine Kd.R_append (Kd.int .i64) (w0 := w) w.heap.size rfl (.tmp 10) (.tmp 15) 26 3 (.int .i64 0) 8 rfl Try.underlying26 info3 rfl (by decide) (by omega) u5 x5_1 (Int.tmod x1_1 a0_0) [.int .i64 (Int.tmod x1_1 a0_0)] (fun _ => True) (fun _ => False) rfl rfl ?aP (fun _ hk => hk.elim) ?aF ?aO ?aB ?aS ?aL ?_; (case aP => exact rfl); (case aB => exact (by repeat (first | (with_reducible first | exact HB.out | apply below_alloc | apply pw_below_drewN | apply below_drew1 | refine below_set ?_ GE111.out) | exact HB.out))); (case aF => exact (fun _ _ => trivial)); (case aO => exact (by (with_reducible repeat (first | apply Kd.R_alloc | apply Kd.R_drewN | apply Kd.R_drew)); exact HO_5.out)); (case aS => exact (below_size (by repeat (first | (with_reducible first | exact HB.out | apply below_alloc | apply pw_below_drewN | apply below_drew1 | refine below_set ?_ GE111.out) | exact HB.out)))); (case aL => have := LMc6.out; omega); intro v113 w8 ho hb hg hat; rw [← Ny112.out] at ho; have n0_ := Aside0.mk (blk_grown (g := gb111) (o := .cells #[.int .i64 a0_0, .slice A0_1 l0_1.length c0_1, .slice A0_2 l0_2.length c0_2] 47 (0, 0)) (by (with_reducible repeat (first | refine blk_drewN ?_ _ | refine blk_drew ?_ | refine blk_alloc ?_ _)); exact BK111.out) hg (Kd.R_ne HO_5.out BK111.out (by decide))); have n1_ := Aside0.mk (hb); have n2_ := Aside0.mk (ho); clear BK111; clear HB; clear HO_5; have BK111 := n0_; have HB := n1_; have HO114 := n2_; clear n0_ n1_ n2_; clear ho hb hg hat; have hcz9_0 : w8.cell? ⟨gb111, 0, none⟩ = some (.int .i64 a0_0) := (blk_cell BK111.out 0).trans rfl; have hcz9_1 : w8.cell? ⟨gb111, 1, none⟩ = some (.slice A0_1 l0_1.length c0_1) := (blk_cell BK111.out 1).trans rfl; have hcz9_2 : w8.cell? ⟨gb111, 2, none⟩ = some (.slice A0_2 l0_2.length c0_2) := (blk_cell BK111.out 2).trans rfl; have hfz9_0 := blk_frozen BK111.out 0; have hfz9_1 := blk_frozen BK111.out 1; have hfz9_2 := blk_frozen BK111.out 2)))
  go_roundg k1
  case measure => have := HK1.out; omega
  case rel => exact ⟨(wrap64 (Int.tdiv x1_1 a0_0)), (y112), (by first | rfl | (simp; done) | (simp [*]; done)), H', ⟨by have := HK1.out; omega⟩, ⟨by (with_reducible repeat (first | apply Kd.R_alloc | apply Kd.R_drewN | apply Kd.R_drew)); exact HO114.out⟩, ⟨by (with_reducible repeat (first | refine blk_drewN ?_ _ | refine blk_drew ?_ | refine blk_alloc ?_ _)); exact BK111.out⟩, ⟨by repeat (first | (with_reducible first | exact HB.out | apply below_alloc | apply pw_below_drewN | apply below_drew1 | refine below_set ?_ GE111.out) | exact HB.out)⟩⟩
 ·rw [if_neg c6] at H
  exact absurd H (by simp))
   ·rw [if_neg c4] at H
    have c4b0 : decide (0 < x1_1) = false := decide_eq_false c4
    clear c4
    have H' := Aside0.mk H
    clear H
    obtain ⟨Ao10, co10, eo10⟩ := Kd.R_slice HO_5.out
    subst eo10
    go_wp2
    repeat (go_quiet (fail); try go_wp2)
    go_loopg [6, 7] k1 (fun kq v6 v7 w' => ∃ (x6_2 : Int) (x7_2 : Int), v6 = .int .i64 x6_2 ∧ v7 = .int .i64 x7_2 ∧ Aside0 (evermoreref23_Letter.l1 kq x5_1 x6_2 x7_2 a0_0 l0_1 l0_2 = some r) ∧ Aside0 (kq ≤ k1) ∧ Aside0 (Kd.R (Kd.int .i64) 3 w' w.heap.size (fun _ => True) (.slice Ao10 x5_1.length co10) x5_1) ∧ Aside0 (w'.heap[gb111]? = some (.cells #[.int .i64 a0_0, (.slice A0_1 l0_1.length c0_1), (.slice A0_2 l0_2.length c0_2)] 47 (0, 0))) ∧ Aside0 (Below w.heap.size w w'))
    case atStart => exact ⟨(0), (wrap64 ((x5_1.length : Int) - 1)), (by first | rfl | (simp; done) | (simp [*]; done)), (by first | rfl | (simp; done) | (simp [*]; done)), H', ⟨Nat.le_refl _⟩, ⟨by (with_reducible repeat (first | apply Kd.R_alloc | apply Kd.R_drewN | apply Kd.R_drew)); exact HO_5.out⟩, ⟨by (with_reducible repeat (first | refine blk_drewN ?_ _ | refine blk_drew ?_ | refine blk_alloc ?_ _)); exact BK111.out⟩, ⟨by repeat (first | (with_reducible first | exact HB.out | apply below_alloc | apply pw_below_drewN | apply below_drew1 | refine below_set ?_ GE111.out) | exact HB.out)⟩⟩
    case round =>
     clear H'
     try clear c2
     try clear p2
     try clear c4
     try clear c4b0
     try clear c5
     try clear c5b0
     try clear c5b1
     try clear c6
     try clear p6
     try clear hcz7_0
     try clear hcz7_1
     try clear hcz7_2
     try clear hcz9_0
     try clear hcz9_1
     try clear hcz9_2
     try clear hfz7_0
     try clear hfz7_1
     try clear hfz7_2
     try clear hfz9_0
     try clear hfz9_1
     try clear hfz9_2
     try clear p2
     obtain ⟨x6_2, x7_2, rfl, rfl, HA, HK2, HO_5, BK111, HB⟩ := hrel
     cases gk with
     | zero => exact absurd HA.out (by simp [evermoreref23_Letter.l1])
     | succ k2 =>
      have H := HA.out
      clear HA
      simp only [evermoreref23_Letter.l1] at H
      by_cases c11 : x7_2 ≥ 0
      ·(
 rw [if_pos c11] at H
 have c11b0 : decide (0 ≤ x7_2) = true := decide_eq_true c11
 clear c11
 by_cases c12 : 0 ≤ x6_2
 ·rw [if_pos c12] at H
  have c12b0 : decide (0 ≤ x6_2) = true := decide_eq_true c12
  clear c12
  by_cases c13 : x6_2 < (l0_1.length : Int)
  ·rw [if_pos c13] at H
   have c13b0 : decide (x6_2 < (l0_1.length : Int)) = true := decide_eq_true c13
   clear c13
   by_cases c14 : 0 ≤ x7_2
   ·rw [if_pos c14] at H
    have c14b0 : decide (0 ≤ x7_2) = true := decide_eq_true c14
    clear c14
    by_cases c15 : x7_2 < (x5_1.length : Int)
    ·(
 rw [if_pos c15] at H
 have c15b0 : decide (x7_2 < (x5_1.length : Int)) = true := decide_eq_true c15
 clear c15
 by_cases c16 : 0 ≤ (rd x5_1 x7_2)
 ·rw [if_pos c16] at H
  have c16b0 : decide (0 ≤ (rd x5_1 x7_2)) = true := decide_eq_true c16
  clear c16
  by_cases c17 : (rd x5_1 x7_2) < ((rd_L1 l0_1 x6_2).length : Int)
  ·rw [if_pos c17] at H
   have c17b0 : decide ((rd x5_1 x7_2) < ((rd_L1 l0_1 x6_2).length : Int)) = true := decide_eq_true c17
   clear c17
   have H' := Aside0.mk H
   clear H
   have hcz18_0 : wr.cell? ⟨gb111, 0, none⟩ = some (.int .i64 a0_0) := (blk_cell BK111.out 0).trans rfl
   have hcz18_1 : wr.cell? ⟨gb111, 1, none⟩ = some (.slice A0_1 l0_1.length c0_1) := (blk_cell BK111.out 1).trans rfl
   have hcz18_2 : wr.cell? ⟨gb111, 2, none⟩ = some (.slice A0_2 l0_2.length c0_2) := (blk_cell BK111.out 2).trans rfl
   have hfz18_0 := blk_frozen BK111.out 0
   have hfz18_1 := blk_frozen BK111.out 1
   have hfz18_2 := blk_frozen BK111.out 2
   have p115 : 0 ≤ (x6_2 : Int) := of_decide_eq_true (by first | (with_reducible assumption) | assumption)
   have q115 : x6_2 < (l0_1.length : Int) := of_decide_eq_true (by first | (with_reducible assumption) | assumption)
   obtain ⟨ad115, A115_0, c115_0, e115, hx115_0, hl115_0, hi115_0⟩ := at_L1 HR0_1.out x6_2 p115 q115
   cases e115
   replace hx115_0 := (HB.out.cell (World.block_lt_of_cell? w _ hx115_0)).trans hx115_0
   have HR115_0 := Aside0.mk hi115_0
   have HC115_0 := Aside0.mk hl115_0
   clear hi115_0 hl115_0
   replace p115 := eq_true p115
   replace q115 := eq_true q115
   have p116 : 0 ≤ (x7_2 : Int) := of_decide_eq_true (by first | (with_reducible assumption) | assumption)
   have q116 : x7_2 < (x5_1.length : Int) := of_decide_eq_true (by first | (with_reducible assumption) | assumption)
   obtain ⟨ad116, e116, hx116_0⟩ := Kd.at_int (Kd.R_reads' HO_5.out).2.2 x7_2 p116 q116
   cases e116
   replace p116 := eq_true p116
   replace q116 := eq_true q116
   have p117 : 0 ≤ ((rd x5_1 x7_2) : Int) := of_decide_eq_true (by first | (with_reducible assumption) | assumption)
   have q117 : (rd x5_1 x7_2) < ((rd_L1 l0_1 x6_2).length : Int) := of_decide_eq_true (by first | (with_reducible assumption) | assumption)
   obtain ⟨ad117, e117, hx117_0⟩ := Kd.at_int HR115_0.out (rd x5_1 x7_2) p117 q117
   cases e117
   replace hx117_0 := (HB.out.cell (World.block_lt_of_cell? w _ hx117_0)).trans hx117_0
   replace p117 := eq_true p117
   replace q117 := eq_true q117
   go_wp2
   repeat (go_quiet (fail); try go_wp2)
   go_roundg k2
   case measure => have := HK1.out; have := HK2.out; omega
   case rel => exact ⟨(rd (rd_L1 l0_1 x6_2) (rd x5_1 x7_2)), (wrap64 (x7_2 - 1)), (by first | rfl | (simp; done) | (simp [*]; done)), (by first | rfl | (simp; done) | (simp [*]; done)), H', ⟨by have := HK1.out; have := HK2.out; omega⟩, ⟨by (with_reducible repeat (first | apply Kd.R_alloc | apply Kd.R_drewN | apply Kd.R_drew)); exact HO_5.out⟩, ⟨by (with_reducible repeat (first | refine blk_drewN ?_ _ | refine blk_drew ?_ | refine blk_alloc ?_ _)); exact BK111.out⟩, ⟨by repeat (first | (with_reducible first | exact HB.out | apply below_alloc | apply pw_below_drewN | apply below_drew1 | refine below_set ?_ GE111.out) | exact HB.out)⟩⟩
  ·rw [if_neg c17] at H
   exact absurd H (by simp)
 ·rw [if_neg c16] at H
  exact absurd H (by simp))
    ·(
 rw [if_neg c15] at H
 exact absurd H (by simp))
   ·rw [if_neg c14] at H
    exact absurd H (by simp)
  ·rw [if_neg c13] at H
   exact absurd H (by simp)
 ·rw [if_neg c12] at H
  exact absurd H (by simp))
      ·(
 rw [if_neg c11] at H
 have c11b0 : decide (0 ≤ x7_2) = false := decide_eq_false c11
 clear c11
 obtain rfl := Option.some.inj H
 go_wp2
 repeat (go_quiet (fail); try go_wp2)
 go_ret
 exact ⟨by first | rfl | (simp [errW_none, errW_some] <;> rfl) | (simp [*, errW_none, errW_some] <;> rfl), by repeat (first | (with_reducible first | exact HB.out | apply below_alloc | apply pw_below_drewN | apply below_drew1 | refine below_set ?_ GE111.out) | exact HB.out)⟩)
-- NOT PRINTED: function 76 (slices_IndexFunc_int_int_76)

-- NOT PRINTED: function 58 (slices_ContainsFunc_int_int_58)

-- NOT PRINTED: function 77 (slices_IndexFunc_int_int_77)

-- NOT PRINTED: function 60 (slices_ContainsFunc_int_int_60)

-- NOT PRINTED: function 61 (seqs_Check_1)

-- NOT PRINTED: function 62 (seqs_Check_2)

/-! ### seqs_Check: function 26 -/
/-- what lies in blocks of the call's own, in whatever later world -/
structure seqs_Check.Bx (w : World) (cs : List (Nat × Nat × Value)) (W : World) : Prop where
 below : Below w.heap.size w W
 cell : ∀ p ∈ cs, p.1 < W.heap.size ∧ W.cell? ⟨p.1, p.2.1, none⟩ = some p.2.2
theorem seqs_Check.Bx.step {w W W' : World} {cs : List (Nat × Nat × Value)} (h : seqs_Check.Bx w cs W) (hb : Below W.heap.size W W') : seqs_Check.Bx w cs W' :=
 ⟨below_step h.below hb, fun p hp => ⟨Nat.lt_of_lt_of_le (h.cell p hp).1 hb.size, (hb.cell (p := ⟨p.1, p.2.1, none⟩) (h.cell p hp).1).trans (h.cell p hp).2⟩⟩
theorem seqs_Check.Bx.at {w W : World} {cs : List (Nat × Nat × Value)} (h : seqs_Check.Bx w cs W) (i : Nat) {b o : Nat} {v : Value} (hi : cs[i]? = some (b, o, v)) : W.cell? ⟨b, o, none⟩ = some v :=
 (h.cell (b, o, v) (List.mem_of_getElem? hi)).2
/-- slices.IndexFunc at elements of one cell (int): the first one of which p holds. -/
def seqs_Check.idxI {α : Type} (p : α → Bool) : List α → Nat → Int
 | [], _ => -1
 | x :: xs, i => if p x = true then (i : Int) else seqs_Check.idxI p xs (i + 1)
theorem seqs_Check.idxI_any {α : Type} (p : α → Bool) : ∀ (xs : List α) (i : Nat), decide (seqs_Check.idxI p xs i ≥ 0) = xs.any p
 | [], _ => by simp [seqs_Check.idxI]
 | x :: xs, i => by
  have ih := seqs_Check.idxI_any p xs (i + 1)
  by_cases h : p x = true
  ·rw [seqs_Check.idxI, if_pos h, List.any_cons, h]
   simp
  ·rw [seqs_Check.idxI, if_neg h, List.any_cons, ih]
   simp [h]
set_option maxHeartbeats 4000000 in
set_option maxRecDepth 100000 in
theorem seqs_Check.IndexFuncI {α : Type} (d : Kd α) (hsz : d.sz = 1) (p : α → Bool) (g : Nat) (lb : Array Value) (eg : ∀ args w, (callFunc g args).run Try.prog w = .ok (.enter g args) w)
  (A : Option Addr) (c : Nat) (xs : List α) (w : World) (hr : d.C w A xs.length xs)
  (hp : ∀ (i : Nat) (x : α) (v : Value) (W : World), xs[i]? = some x → Below w.heap.size w W → d.K W x [v] → Calls Try.prog g (#[v] ++ lb) W fun e w' => e = .returned (.bool (p x)) ∧ Below w.heap.size w w') :
  Calls Try.prog 76 #[.slice A xs.length c, .func (.func g) #[] lb] w fun e w' => e = .returned (.int .i64 (seqs_Check.idxI p xs 0)) ∧ Below w.heap.size w w' := by
 have HR := Aside0.mk hr
 have hbig : xs.length ≤ 9223372036854775807 := hr.2.1
 clear hr
 go_enter Try.func76, Try.ntmps76
 go_wp2
 go_loopg [5, 8] xs.length (fun gg _ s8 wr => ∃ kk : Nat, kk ≤ xs.length ∧ xs.length - kk ≤ gg ∧ s8 = .int .i64 kk ∧ Aside0 (Below w.heap.size w wr) ∧ Aside0 (seqs_Check.idxI p xs 0 = seqs_Check.idxI p (xs.drop kk) kk))
 case atStart => exact ⟨0, Nat.zero_le _, by omega, rfl, ⟨Below.refl _ w⟩, ⟨rfl⟩⟩
 case round =>
  obtain ⟨kk, hkk, hg, rfl, BW, IX⟩ := hrel
  by_cases hlt : kk < xs.length
  ·have hltz : (kk : Int) < (xs.length : Int) := by omega
   obtain ⟨ad, cs, hA, hcs, hK, hcell⟩ := Kd.C_get (Kd.C_below HR.out BW.out) (xs[kk]'hlt) (kk : Int) (by omega) hltz
   have hcs1 : cs.length = 1 := by rw [hcs, hsz]
   obtain ⟨v, rfl⟩ : ∃ v, cs = [v] := by
    match cs, hcs1 with
    | [v], _ => exact ⟨v, rfl⟩
   have hx : xs.getD (kk : Int).toNat (xs[kk]'hlt) = xs[kk]'hlt := by rw [Int.toNat_natCast, List.getD_eq_getElem?_getD, List.getElem?_eq_getElem hlt]; rfl
   rw [hx] at hK
   have hc0 := hcell 0 v rfl
   rw [hsz, Nat.mul_one, Nat.add_zero, Int.toNat_natCast] at hc0
   have hcall := hp kk (xs[kk]'hlt) v wr (List.getElem?_eq_getElem hlt) BW.out hK
   have IX2 := IX.out
   rw [List.drop_eq_getElem_cons hlt, seqs_Check.idxI] at IX2
   have IX3 := Aside0.mk IX2
   have v1 : v.oneCell' = true := d.K_one hK v (by simp)
   clear IX IX2 hcell hK hcs hcs1 hx hp
   subst hA
   cases hq : p (xs[kk]'hlt) with
   | true =>
    rw [hq] at hcall
    have Hq := Aside0.mk hq
    clear hq
    go_wp2_with (go_at_fn g; refine hcall.mono ?_; rintro e w' ⟨rfl, hb'⟩)
    go_ret
    refine ⟨?_, hb'⟩
    rw [IX3.out, if_pos Hq.out]
    rfl
   | false =>
    rw [hq] at hcall
    have Hq := Aside0.mk hq
    clear hq
    go_wp2_with (go_at_fn g; refine hcall.mono ?_; rintro e w' ⟨rfl, hb'⟩)
    go_roundg (xs.length - (kk + 1))
    case measure => omega
    case rel =>
     exact ⟨kk + 1, by omega, by omega, by go_num, ⟨hb'⟩, ⟨by rw [IX3.out, if_neg (by rw [Hq.out]; decide)]⟩⟩
  ·have hltz : ¬ (kk : Int) < (xs.length : Int) := by omega
   have hkl : xs.length ≤ kk := by omega
   go_wp2
   go_ret
   refine ⟨?_, BW.out⟩
   rw [IX.out, List.drop_of_length_le hkl, seqs_Check.idxI]
   rfl
set_option maxHeartbeats 4000000 in
set_option maxRecDepth 100000 in
theorem seqs_Check.ContainsFuncI {α : Type} (d : Kd α) (hsz : d.sz = 1) (p : α → Bool) (g : Nat) (lb : Array Value) (eg : ∀ args w, (callFunc g args).run Try.prog w = .ok (.enter g args) w)
  (A : Option Addr) (c : Nat) (xs : List α) (w : World) (hr : d.C w A xs.length xs)
  (hp : ∀ (i : Nat) (x : α) (v : Value) (W : World), xs[i]? = some x → Below w.heap.size w W → d.K W x [v] → Calls Try.prog g (#[v] ++ lb) W fun e w' => e = .returned (.bool (p x)) ∧ Below w.heap.size w w') :
  Calls Try.prog 58 #[.slice A xs.length c, .func (.func g) #[] lb] w fun e w' => e = .returned (.bool (xs.any p)) ∧ Below w.heap.size w w' := by
 have hX := Aside0.mk (seqs_Check.IndexFuncI d hsz p g lb eg A c xs w hr hp)
 have hY := Aside0.mk (seqs_Check.idxI_any p xs 0)
 clear hr hp
 go_enter Try.func58, Try.ntmps58
 go_wp2_with (go_at_call 76; refine hX.out.mono ?_; rintro e w' ⟨rfl, hb'⟩)
 go_ret
 exact ⟨by rw [← hY.out]; simp, hb'⟩
/-- slices.IndexFunc at elements of one cell ([]int): the first one of which p holds. -/
def seqs_Check.idxL {α : Type} (p : α → Bool) : List α → Nat → Int
 | [], _ => -1
 | x :: xs, i => if p x = true then (i : Int) else seqs_Check.idxL p xs (i + 1)
theorem seqs_Check.idxL_any {α : Type} (p : α → Bool) : ∀ (xs : List α) (i : Nat), decide (seqs_Check.idxL p xs i ≥ 0) = xs.any p
 | [], _ => by simp [seqs_Check.idxL]
 | x :: xs, i => by
  have ih := seqs_Check.idxL_any p xs (i + 1)
  by_cases h : p x = true
  ·rw [seqs_Check.idxL, if_pos h, List.any_cons, h]
   simp
  ·rw [seqs_Check.idxL, if_neg h, List.any_cons, ih]
   simp [h]
set_option maxHeartbeats 4000000 in
set_option maxRecDepth 100000 in
theorem seqs_Check.IndexFuncL {α : Type} (d : Kd α) (hsz : d.sz = 1) (p : α → Bool) (g : Nat) (lb : Array Value) (eg : ∀ args w, (callFunc g args).run Try.prog w = .ok (.enter g args) w)
  (A : Option Addr) (c : Nat) (xs : List α) (w : World) (hr : d.C w A xs.length xs)
  (hp : ∀ (i : Nat) (x : α) (v : Value) (W : World), xs[i]? = some x → Below w.heap.size w W → d.K W x [v] → Calls Try.prog g (#[v] ++ lb) W fun e w' => e = .returned (.bool (p x)) ∧ Below w.heap.size w w') :
  Calls Try.prog 77 #[.slice A xs.length c, .func (.func g) #[] lb] w fun e w' => e = .returned (.int .i64 (seqs_Check.idxL p xs 0)) ∧ Below w.heap.size w w' := by
 have HR := Aside0.mk hr
 have hbig : xs.length ≤ 9223372036854775807 := hr.2.1
 clear hr
 go_enter Try.func77, Try.ntmps77
 go_wp2
 go_loopg [5, 8] xs.length (fun gg _ s8 wr => ∃ kk : Nat, kk ≤ xs.length ∧ xs.length - kk ≤ gg ∧ s8 = .int .i64 kk ∧ Aside0 (Below w.heap.size w wr) ∧ Aside0 (seqs_Check.idxL p xs 0 = seqs_Check.idxL p (xs.drop kk) kk))
 case atStart => exact ⟨0, Nat.zero_le _, by omega, rfl, ⟨Below.refl _ w⟩, ⟨rfl⟩⟩
 case round =>
  obtain ⟨kk, hkk, hg, rfl, BW, IX⟩ := hrel
  by_cases hlt : kk < xs.length
  ·have hltz : (kk : Int) < (xs.length : Int) := by omega
   obtain ⟨ad, cs, hA, hcs, hK, hcell⟩ := Kd.C_get (Kd.C_below HR.out BW.out) (xs[kk]'hlt) (kk : Int) (by omega) hltz
   have hcs1 : cs.length = 1 := by rw [hcs, hsz]
   obtain ⟨v, rfl⟩ : ∃ v, cs = [v] := by
    match cs, hcs1 with
    | [v], _ => exact ⟨v, rfl⟩
   have hx : xs.getD (kk : Int).toNat (xs[kk]'hlt) = xs[kk]'hlt := by rw [Int.toNat_natCast, List.getD_eq_getElem?_getD, List.getElem?_eq_getElem hlt]; rfl
   rw [hx] at hK
   have hc0 := hcell 0 v rfl
   rw [hsz, Nat.mul_one, Nat.add_zero, Int.toNat_natCast] at hc0
   have hcall := hp kk (xs[kk]'hlt) v wr (List.getElem?_eq_getElem hlt) BW.out hK
   have IX2 := IX.out
   rw [List.drop_eq_getElem_cons hlt, seqs_Check.idxL] at IX2
   have IX3 := Aside0.mk IX2
   have v1 : v.oneCell' = true := d.K_one hK v (by simp)
   clear IX IX2 hcell hK hcs hcs1 hx hp
   subst hA
   cases hq : p (xs[kk]'hlt) with
   | true =>
    rw [hq] at hcall
    have Hq := Aside0.mk hq
    clear hq
    go_wp2_with (go_at_fn g; refine hcall.mono ?_; rintro e w' ⟨rfl, hb'⟩)
    go_ret
    refine ⟨?_, hb'⟩
    rw [IX3.out, if_pos Hq.out]
    rfl
   | false =>
    rw [hq] at hcall
    have Hq := Aside0.mk hq
    clear hq
    go_wp2_with (go_at_fn g; refine hcall.mono ?_; rintro e w' ⟨rfl, hb'⟩)
    go_roundg (xs.length - (kk + 1))
    case measure => omega
    case rel =>
     exact ⟨kk + 1, by omega, by omega, by go_num, ⟨hb'⟩, ⟨by rw [IX3.out, if_neg (by rw [Hq.out]; decide)]⟩⟩
  ·have hltz : ¬ (kk : Int) < (xs.length : Int) := by omega
   have hkl : xs.length ≤ kk := by omega
   go_wp2
   go_ret
   refine ⟨?_, BW.out⟩
   rw [IX.out, List.drop_of_length_le hkl, seqs_Check.idxL]
   rfl
set_option maxHeartbeats 4000000 in
set_option maxRecDepth 100000 in
theorem seqs_Check.ContainsFuncL {α : Type} (d : Kd α) (hsz : d.sz = 1) (p : α → Bool) (g : Nat) (lb : Array Value) (eg : ∀ args w, (callFunc g args).run Try.prog w = .ok (.enter g args) w)
  (A : Option Addr) (c : Nat) (xs : List α) (w : World) (hr : d.C w A xs.length xs)
  (hp : ∀ (i : Nat) (x : α) (v : Value) (W : World), xs[i]? = some x → Below w.heap.size w W → d.K W x [v] → Calls Try.prog g (#[v] ++ lb) W fun e w' => e = .returned (.bool (p x)) ∧ Below w.heap.size w w') :
  Calls Try.prog 60 #[.slice A xs.length c, .func (.func g) #[] lb] w fun e w' => e = .returned (.bool (xs.any p)) ∧ Below w.heap.size w w' := by
 have hX := Aside0.mk (seqs_Check.IndexFuncL d hsz p g lb eg A c xs w hr hp)
 have hY := Aside0.mk (seqs_Check.idxL_any p xs 0)
 clear hr hp
 go_enter Try.func60, Try.ntmps60
 go_wp2_with (go_at_call 77; refine hX.out.mono ?_; rintro e w' ⟨rfl, hb'⟩)
 go_ret
 exact ⟨by rw [← hY.out]; simp, hb'⟩
def seqs_Check.bad (n : Int) (b : Int) : Bool := decide (b < 0) || decide (b ≥ n)
set_option maxHeartbeats 4000000 in
set_option maxRecDepth 100000 in
theorem seqs_Check.clo1 (b : Nat) (base : Int) (x : List Int) (A : Option Addr) (c : Nat) (W : World) (hc : W.cell? ⟨b, 0, none⟩ = some (.int .i64 base)) :
  Calls Try.prog 61 #[.slice A x.length c, .pointer (some ⟨b, 0, none⟩)] W fun e W' => e = .returned (.bool (decide ((x.length : Int) ≠ base))) ∧ Below W.heap.size W W' := by
 by_cases h : (x.length : Int) = base
 ·have c1 : ((x.length : Int) != base) = false := by rw [bne_eq_false_iff_eq]; exact h
  have c2 := Aside0.mk h
  clear h
  go_enter Try.func61, Try.ntmps61
  go_wp2
  go_ret
  exact ⟨by simp [c2.out], Below.refl _ _⟩
 ·have c1 : ((x.length : Int) != base) = true := by rw [bne_iff_ne]; exact h
  have c2 := Aside0.mk h
  clear h
  go_enter Try.func61, Try.ntmps61
  go_wp2
  go_ret
  exact ⟨by simp [c2.out], Below.refl _ _⟩
set_option maxHeartbeats 4000000 in
set_option maxRecDepth 100000 in
theorem seqs_Check.clo2 (b : Nat) (n : Int) (x : Int) (W : World) (hc : W.cell? ⟨b, 0, none⟩ = some (.int .i64 n)) :
  Calls Try.prog 62 #[.int .i64 x, .pointer (some ⟨b, 0, none⟩)] W fun e W' => e = .returned (.bool (seqs_Check.bad n x)) ∧ Below W.heap.size W W' := by
 have hs : ∀ y, y = seqs_Check.bad n x → Aside0 (seqs_Check.bad n x = y) := fun y hy => ⟨hy.symm⟩
 by_cases h : x < 0
 ·have H := hs true (by unfold seqs_Check.bad; simp [h])
  go_enter Try.func62, Try.ntmps62
  go_wp2
  go_ret
  exact ⟨by rw [H.out]; simp, Below.refl _ _⟩
 ·by_cases h2 : n ≤ x
  ·have H := hs true (by unfold seqs_Check.bad; simp [h2])
   go_enter Try.func62, Try.ntmps62
   go_wp2
   go_ret
   exact ⟨by rw [H.out]; simp, Below.refl _ _⟩
  ·have H := hs false (by unfold seqs_Check.bad; simp [h, h2])
   go_enter Try.func62, Try.ntmps62
   go_wp2
   go_ret
   exact ⟨by rw [H.out]; simp, Below.refl _ _⟩
def seqs_Check.rowBad (n : Int) (imgs : List (List Int)) (cod : List Int) (i : Nat) : Bool := (imgs.getD i []).any (seqs_Check.bad n) || decide (rd cod (i : Int) < 0) || decide (rd cod (i : Int) > 9)
def seqs_Check.v (base : Int) (imgs : List (List Int)) (cod : List Int) : Int :=
 if base < 2 ∨ base > 4 then 2 else if imgs.length < 1 ∨ imgs.length > 4 then 1 else if cod.length ≠ imgs.length ∨ imgs.any (fun x => decide ((x.length : Int) ≠ base)) = true then 3
 else if (List.range imgs.length).any (seqs_Check.rowBad imgs.length imgs cod) = true then 2 else if rd (imgs.getD 0 []) 0 ≠ 0 then 3 else 0
def seqs_Check.f (a0 : Int) (l1 : List (List Int)) (l2 : List Int) : Option (Int) := some (seqs_Check.v a0 l1 l2)
set_option maxHeartbeats 4000000 in
set_option maxRecDepth 100000 in
theorem seqs_Check.calls (a0_0 : Int) (A0_1 : Option Addr) (c0_1 : Nat) (l0_1 : List (List Int)) (A0_2 : Option Addr) (c0_2 : Nat) (l0_2 : List Int) (r : Int) (w : World) (hr0_1 : Kd.C (Kd.slice 3 (Kd.int .i64)) w A0_1 l0_1.length l0_1) (hc0_1 : l0_1.length ≤ c0_1) (hr0_2 : Kd.C (Kd.int .i64) w A0_2 l0_2.length l0_2) (hc0_2 : l0_2.length ≤ c0_2) (h : seqs_Check.f a0_0 l0_1 l0_2 = some r) :
  Calls Try.prog 26 #[.agg #[.int .i64 a0_0, .slice A0_1 l0_1.length c0_1, .slice A0_2 l0_2.length c0_2]] w fun e w' => e = .returned (.int .i64 r) ∧ Below w.heap.size w w' := by
 have HR1 := Aside0.mk hr0_1
 have HR2 := Aside0.mk hr0_2
 have hm1 : l0_1.length ≤ 9223372036854775807 := hr0_1.2.1
 have hm2 : l0_2.length ≤ 9223372036854775807 := hr0_2.2.1
 clear hr0_1 hr0_2
 obtain rfl := Option.some.inj h
 clear h
 have HV : ∀ y, seqs_Check.v a0_0 l0_1 l0_2 = y → Aside0 (y = seqs_Check.v a0_0 l0_1 l0_2) := fun y hy => ⟨hy.symm⟩
 by_cases p1 : a0_0 < 2
 ·have H := HV 2 (by unfold seqs_Check.v; rw [if_pos (.inl p1)])
  clear HV
  go_enter Try.func26, Try.ntmps26
  go_wp2
  go_ret
  exact ⟨by rw [← H.out]; rfl, by repeat (first | exact Below.refl _ _ | apply below_alloc)⟩
 by_cases p2 : 4 < a0_0
 ·have H := HV 2 (by unfold seqs_Check.v; rw [if_pos (.inr p2)])
  clear HV
  go_enter Try.func26, Try.ntmps26
  go_wp2
  go_ret
  exact ⟨by rw [← H.out]; rfl, by repeat (first | exact Below.refl _ _ | apply below_alloc)⟩
 by_cases p3 : l0_1.length < 1
 ·have H := HV 1 (by unfold seqs_Check.v; rw [if_neg (by omega), if_pos (.inl p3)])
  clear HV
  go_enter Try.func26, Try.ntmps26
  go_wp2
  go_ret
  exact ⟨by rw [← H.out]; rfl, by repeat (first | exact Below.refl _ _ | apply below_alloc)⟩
 by_cases p4 : 4 < l0_1.length
 ·have H := HV 1 (by unfold seqs_Check.v; rw [if_neg (by omega), if_pos (.inr p4)])
  clear HV
  go_enter Try.func26, Try.ntmps26
  go_wp2
  go_ret
  exact ⟨by rw [← H.out]; rfl, by repeat (first | exact Below.refl _ _ | apply below_alloc)⟩
 by_cases p5 : l0_2.length = l0_1.length
 case neg =>
  have H := HV 3 (by unfold seqs_Check.v; rw [if_neg (by omega), if_neg (by omega), if_pos (.inl p5)])
  clear HV
  have c5 : ((l0_2.length : Int) != (l0_1.length : Int)) = true := by rw [bne_iff_ne]; omega
  clear p5
  go_enter Try.func26, Try.ntmps26
  go_wp2
  go_ret
  exact ⟨by rw [← H.out]; rfl, by repeat (first | exact Below.refl _ _ | apply below_alloc)⟩
 have c5 : ((l0_2.length : Int) != (l0_1.length : Int)) = false := by rw [bne_eq_false_iff_eq]; omega
 have C5 := Aside0.mk p5
 clear p5
 have e60 : ∀ args w, (callFunc 61 args).run Try.prog w = .ok (.enter 61 args) w := enters_of Try.func61 (by kernel_rfl) rfl
 have e61 : ∀ args w, (callFunc 62 args).run Try.prog w = .ok (.enter 62 args) w := enters_of Try.func62 (by kernel_rfl) rfl
 have hp : ∀ W0 : World, W0.cell? ⟨w.heap.size, 0, none⟩ = some (.int .i64 a0_0) → w.heap.size < W0.heap.size → ∀ (i : Nat) (x : List Int) (v : Value) (W : World), l0_1[i]? = some x → Below W0.heap.size W0 W → (Kd.slice 3 (Kd.int .i64)).K W x [v] →
   Calls Try.prog 61 (#[v] ++ #[.pointer (some ⟨w.heap.size, 0, none⟩)]) W fun e w' => e = .returned (.bool ((fun x : List Int => decide ((x.length : Int) ≠ a0_0)) x)) ∧ Below W0.heap.size W0 w' := by
  intro W0 hc hlt i x v W _ hb hK
  obtain ⟨A, c, hv, _, hC⟩ := hK
  injection hv with hv
  subst hv
  exact (seqs_Check.clo1 w.heap.size a0_0 x A c W ((hb.cell (p := ⟨w.heap.size, 0, none⟩) hlt).trans hc)).mono fun e w' ⟨he, hb'⟩ => ⟨he, below_step hb hb'⟩
 have HP := Aside0.mk hp
 clear hp
 cases p6 : l0_1.any (fun x : List Int => decide ((x.length : Int) ≠ a0_0)) with
 | true =>
  have H := HV 3 (by unfold seqs_Check.v; rw [if_neg (by omega), if_neg (by omega), if_pos (.inr p6)])
  clear HV
  have P6 := Aside0.mk p6
  clear p6
  go_enter Try.func26, Try.ntmps26
  go_wp2_with fail
  refine (seqs_Check.ContainsFuncL (Kd.slice 3 (Kd.int .i64)) rfl (fun x : List Int => decide ((x.length : Int) ≠ a0_0)) 61 #[.pointer (some ⟨w.heap.size, 0, none⟩)] e60 A0_1 c0_1 l0_1 _ (Kd.C_alloc (Kd.C_alloc HR1.out _) _) (HP.out _ (by go_simp) (by simp; omega))).mono ?_
  rintro e w1 ⟨rfl, hb1⟩
  rw [P6.out]
  have HB := Aside0.mk (show Below w.heap.size w w1 from below_step (by repeat (first | exact Below.refl _ _ | apply below_alloc)) hb1)
  clear hb1
  go_wp2_with fail
  go_ret
  exact ⟨by rw [← H.out]; rfl, HB.out⟩
 | false =>
  have P6 := Aside0.mk p6
  clear p6
  go_enter Try.func26, Try.ntmps26
  go_wp2_with fail
  refine (seqs_Check.ContainsFuncL (Kd.slice 3 (Kd.int .i64)) rfl (fun x : List Int => decide ((x.length : Int) ≠ a0_0)) 61 #[.pointer (some ⟨w.heap.size, 0, none⟩)] e60 A0_1 c0_1 l0_1 _ (Kd.C_alloc (Kd.C_alloc HR1.out _) _) (HP.out _ (by go_simp) (by simp; omega))).mono ?_
  rintro e w1 ⟨rfl, hb1⟩
  rw [P6.out]
  have HX := Aside0.mk (show seqs_Check.Bx w [(w.heap.size, 0, .int .i64 a0_0), (w.heap.size, 1, .slice A0_1 l0_1.length c0_1), (w.heap.size, 2, .slice A0_2 l0_2.length c0_2), (w.heap.size + 1, 0, .int .i64 (l0_1.length : Int))] w1 from
   seqs_Check.Bx.step ⟨by repeat (first | exact Below.refl _ _ | apply below_alloc), by
    simp only [List.forall_mem_cons, List.not_mem_nil, false_imp_iff, implies_true, and_true]
    refine ⟨⟨?_, by go_simp⟩, ⟨?_, by go_simp⟩, ⟨?_, by go_simp⟩, ⟨?_, by go_simp⟩⟩ <;> (simp <;> omega)⟩ hb1)
  have b0 := HX.out.at 0 rfl
  have b1 := HX.out.at 1 rfl
  have b2 := HX.out.at 2 rfl
  have b3 := HX.out.at 3 rfl
  clear hb1
  go_wp2_with fail
  go_loopg [37] l0_1.length (fun gg v37 wr => ∃ kk : Nat, kk ≤ l0_1.length ∧ l0_1.length - kk ≤ gg ∧ v37 = .int .i64 kk ∧ Aside0 (seqs_Check.Bx w [(w.heap.size, 0, .int .i64 a0_0), (w.heap.size, 1, .slice A0_1 l0_1.length c0_1), (w.heap.size, 2, .slice A0_2 l0_2.length c0_2), (w.heap.size + 1, 0, .int .i64 (l0_1.length : Int))] wr) ∧ Aside0 (∀ j, j < kk → seqs_Check.rowBad l0_1.length l0_1 l0_2 j = false))
  case atStart => exact ⟨0, Nat.zero_le _, by omega, rfl, HX, ⟨fun j hj => absurd hj (Nat.not_lt_zero _)⟩⟩
  case round =>
   clear b0 b1 b2 b3 HX
   obtain ⟨kk, hkk, hg, rfl, HX, NB⟩ := hrel
   have b0 := HX.out.at 0 rfl
   have b1 := HX.out.at 1 rfl
   have b2 := HX.out.at 2 rfl
   have b3 := HX.out.at 3 rfl
   by_cases hlt : kk < l0_1.length
   ·have hltz : (kk : Int) < (l0_1.length : Int) := by omega
    have hltz2 : (kk : Int) < (l0_2.length : Int) := by have := C5.out; omega
    obtain ⟨ad, cs, hA, hcs, hK, hcell⟩ := Kd.C_get (Kd.C_below HR1.out HX.out.below) ([] : List Int) (kk : Int) (by omega) hltz
    obtain ⟨Ai, ci, rfl, hli, hCi⟩ := hK
    subst hA
    have hc0 := hcell 0 _ rfl
    rw [show (Kd.slice 3 (Kd.int .i64)).sz = 1 from rfl, Nat.mul_one, Nat.add_zero, Int.toNat_natCast] at hc0
    rw [Int.toNat_natCast] at hCi hli
    clear hcell hcs
    obtain ⟨ad2, hA2, hd0⟩ := Kd.at_int (Kd.C_below HR2.out HX.out.below) (kk : Int) (by omega) hltz2
    subst hA2
    rw [Int.toNat_natCast] at hd0
    have hx : l0_1.getD kk [] = l0_1.getD kk [] := rfl
    generalize hX : l0_1.getD kk [] = X at hc0 hCi hli hx
    generalize hY : rd l0_2 (kk : Int) = Y at hd0
    have HRB := Aside0.mk (show seqs_Check.rowBad l0_1.length l0_1 l0_2 kk = (X.any (seqs_Check.bad l0_1.length) || decide (Y < 0) || decide (Y > 9)) by unfold seqs_Check.rowBad; rw [hX, hY])
    have HY := Aside0.mk hY
    clear hX hY hx
    have hcon := seqs_Check.ContainsFuncI (Kd.int .i64) rfl (seqs_Check.bad l0_1.length) 62 #[.pointer (some ⟨w.heap.size + 1, 0, none⟩)] e61 Ai ci X wr hCi (by
     intro i x v W _ hb hK
     injection hK with hv
     subst hv
     have hb3 := HX.out.cell (w.heap.size + 1, 0, .int .i64 (l0_1.length : Int)) (by simp)
     exact (seqs_Check.clo2 (w.heap.size + 1) (l0_1.length : Int) x W ((hb.cell (p := ⟨w.heap.size + 1, 0, none⟩) hb3.1).trans hb3.2)).mono fun e w' ⟨he, hb'⟩ => ⟨he, below_step hb hb'⟩)
    have bad : seqs_Check.rowBad l0_1.length l0_1 l0_2 kk = true → Aside0 (2 = seqs_Check.v a0_0 l0_1 l0_2) := fun hb => HV 2 (by
     unfold seqs_Check.v
     rw [if_neg (by omega), if_neg (by omega), if_neg (by rw [P6.out, C5.out]; simp), if_pos (List.any_eq_true.2 ⟨kk, List.mem_range.2 hlt, hb⟩)])
    have HC := Aside0.mk hcon
    clear hcon
    cases q1 : X.any (seqs_Check.bad l0_1.length) with
    | true =>
     have H := bad (by rw [HRB.out, q1]; rfl)
     have Q1 := Aside0.mk q1
     clear q1 HV bad
     go_wp2_with fail
     refine HC.out.mono ?_
     rintro e w2 ⟨rfl, hb2⟩
     rw [Q1.out]
     have HX2 := Aside0.mk (HX.out.step hb2)
     clear hb2
     go_wp2_with fail
     go_ret
     exact ⟨by rw [← H.out]; rfl, HX2.out.below⟩
    | false =>
     have Q1 := Aside0.mk q1
     clear q1
     by_cases q2 : Y < 0
     ·(
 have H := bad (by rw [HRB.out, Q1.out, decide_eq_true q2]; rfl)
 clear HV bad
 go_wp2_with fail
 refine HC.out.mono ?_
 rintro e w2 ⟨rfl, hb2⟩
 rw [Q1.out]
 have HX2 := Aside0.mk (HX.out.step hb2)
 have b2' := HX2.out.at 2 rfl
 obtain ⟨ad3, hA3, hd1⟩ := Kd.at_int (Kd.C_below HR2.out HX2.out.below) (kk : Int) (by omega) hltz2
 obtain rfl := Option.some.inj hA3
 rw [Int.toNat_natCast, HY.out] at hd1
 clear hb2 hA3 hd0 b0 b1 b2 b3
 go_wp2_with fail
 go_ret
 exact ⟨by rw [← H.out]; rfl, HX2.out.below⟩)
     ·(
 by_cases q3 : 9 < Y
 ·have H := bad (by rw [HRB.out, Q1.out, decide_eq_true (show Y > 9 from q3), Bool.or_true])
  clear HV bad
  go_wp2_with fail
  refine HC.out.mono ?_
  rintro e w2 ⟨rfl, hb2⟩
  rw [Q1.out]
  have HX2 := Aside0.mk (HX.out.step hb2)
  have b2' := HX2.out.at 2 rfl
  obtain ⟨ad3, hA3, hd1⟩ := Kd.at_int (Kd.C_below HR2.out HX2.out.below) (kk : Int) (by omega) hltz2
  obtain rfl := Option.some.inj hA3
  rw [Int.toNat_natCast, HY.out] at hd1
  clear hb2 hA3 hd0 b0 b1 b2 b3
  go_wp2_with fail
  go_ret
  exact ⟨by rw [← H.out]; rfl, HX2.out.below⟩
 ·have HN := Aside0.mk (show seqs_Check.rowBad l0_1.length l0_1 l0_2 kk = false by rw [HRB.out, Q1.out, decide_eq_false q2, decide_eq_false (show ¬ Y > 9 from q3)]; rfl)
  clear HV bad
  go_wp2_with fail
  refine HC.out.mono ?_
  rintro e w2 ⟨rfl, hb2⟩
  rw [Q1.out]
  have HX2 := Aside0.mk (HX.out.step hb2)
  have b2' := HX2.out.at 2 rfl
  obtain ⟨ad3, hA3, hd1⟩ := Kd.at_int (Kd.C_below HR2.out HX2.out.below) (kk : Int) (by omega) hltz2
  obtain rfl := Option.some.inj hA3
  rw [Int.toNat_natCast, HY.out] at hd1
  clear hb2 hA3 hd0 b0 b1 b2 b3
  go_wp2_with fail
  go_roundg (l0_1.length - (kk + 1))
  case measure => omega
  case rel =>
   exact ⟨kk + 1, by omega, by omega, by go_num, HX2, ⟨fun j hj => by
    by_cases e : j = kk
    ·rw [e]; exact HN.out
    ·exact NB.out j (by omega)⟩⟩)
   ·have hkl : kk = l0_1.length := by omega
    subst hkl
    have hlt0 : ¬ ((l0_1.length : Int) < (l0_1.length : Int)) := by omega
    have hz : (0 : Int) < (l0_1.length : Int) := by omega
    obtain ⟨ad, cs, hA, hcs, hK, hcell⟩ := Kd.C_get (Kd.C_below HR1.out HX.out.below) ([] : List Int) (0 : Int) (by omega) hz
    obtain ⟨Ai, ci, rfl, hli, hCi⟩ := hK
    subst hA
    have hc0 := hcell 0 _ rfl
    rw [show (Kd.slice 3 (Kd.int .i64)).sz = 1 from rfl, Nat.mul_one, Nat.add_zero] at hc0
    clear hcell hcs
    have hlen : ((l0_1.getD (0 : Int).toNat []).length : Int) = a0_0 := by
     have h6 := P6.out
     rw [List.any_eq_false] at h6
     have h7 := h6 (l0_1.getD 0 []) (by
      rw [List.getD_eq_getElem?_getD, List.getElem?_eq_getElem (show 0 < l0_1.length by omega)]
      exact List.getElem_mem _)
     have h8 : ¬ (((l0_1.getD 0 []).length : Int) ≠ a0_0) := by simpa using h7
     show ((l0_1.getD 0 []).length : Int) = a0_0
     omega
    have hl2 : (0 : Int) < ((l0_1.getD (0 : Int).toNat []).length : Int) := by omega
    clear hlen
    obtain ⟨ad2, hA2, hd0⟩ := Kd.at_int hCi (0 : Int) (by omega) hl2
    subst hA2
    have hx : l0_1.getD (0 : Int).toNat [] = l0_1.getD 0 [] := rfl
    generalize hX : l0_1.getD (0 : Int).toNat [] = X at hc0 hCi hli hx hd0 hl2
    generalize hY : rd X 0 = Y at hd0
    have HXY := Aside0.mk (show rd (l0_1.getD 0 []) 0 = Y by rw [← hx]; exact hY)
    have hval := fun y (hy : (if rd (l0_1.getD 0 []) 0 ≠ 0 then (3 : Int) else 0) = y) => HV y (by
     unfold seqs_Check.v
     rw [if_neg (by omega), if_neg (by omega), if_neg (by rw [P6.out, C5.out]; simp), if_neg (by
      intro ha
      obtain ⟨j, hj, hb⟩ := List.any_eq_true.1 ha
      rw [NB.out j (List.mem_range.1 hj)] at hb
      cases hb)]
     exact hy)
    rw [show ad.add (Int.toNat 0) = ad from by cases ad; rfl] at hc0
    rw [show ad2.add (Int.toNat 0) = ad2 from by cases ad2; rfl] at hd0
    clear hX hY hx HV
    by_cases q : Y = 0
    ·(
 have H := hval 0 (by rw [HXY.out, if_neg (by simp [q])])
 have q1 : (Y != 0) = false := bne_eq_false_iff_eq.2 q
 clear hval q
 go_wp2_with fail
 go_ret
 exact ⟨by rw [← H.out]; rfl, HX.out.below⟩)
    ·(
 have H := hval 3 (by rw [HXY.out, if_pos q])
 have q1 : (Y != 0) = true := bne_iff_ne.2 q
 clear hval q
 go_wp2_with fail
 go_ret
 exact ⟨by rw [← H.out]; rfl, HX.out.below⟩)
end Go.Proofs.Ythbdmfhobienaaa.PSeqsDiffers
