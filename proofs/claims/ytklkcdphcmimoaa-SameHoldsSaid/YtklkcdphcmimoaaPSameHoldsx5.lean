-- Printed over the kit's print by a program of this session (wip/hprint.py), with contracts of its own hand.
import Derived.Test.YtklkcdphcmimoaaPSameHoldsx0
namespace Go.Proofs.Ytklkcdphcmimoaa.PSameHolds
open Go.RowKit Go.Proofs.YtklkcdphcmimoaaW.PrintWords Go.Proofs.YtklkcdphcmimoaaW.PrintLast Go.Proofs.YtklkcdphcmimoaaW.PrintMore
attribute [local go_sem] max2_int min2_int max_two min_two max_three min_three max_four min_four   -- for this text's walks alone
set_option linter.unusedVariables false
set_option linter.unusedSimpArgs false

-- NOT PRINTED: function 83 (same_Saying_1)

/-! ### same_Saying_1: function 224 -/
def same_Saying_1.f (a0 : Int) (a1 : Bool) (a2_0 : Int) : Option (Bool) := if a1 = true then (if a0 ≥ 0 then (if a0 < a2_0 then (some true) else (some false)) else (some false)) else (some (a0 == 0))
set_option maxHeartbeats 8000000 in
set_option maxRecDepth 100000 in
theorem same_Saying_1.calls (a0 : Int) (a1 : Bool) (g2 : Nat) (a2_0 : Int) (r : Bool) (w : World) (hb2 : w.heap[g2]? = some (.cells #[.int .i64 a2_0] 3 (0, 0))) (h : same_Saying_1.f a0 a1 a2_0 = some r) :
    Calls Try.prog 83 #[.int .i64 a0, .bool a1, .pointer (some ⟨g2, 0, none⟩)] w fun e w' => e = .returned (.bool r) ∧ Drawn0 w w' := by
  have BK900002 := Aside0.mk hb2
  clear hb2
  have H : (if a1 = true then (if a0 ≥ 0 then (if a0 < a2_0 then (some true) else (some false)) else (some false)) else (some (a0 == 0))) = some r := h
  clear h
  by_cases c4 : a1 = true
  · subst c4
    have H1 : (if a0 ≥ 0 then (if a0 < a2_0 then (some true) else (some false)) else (some false)) = some r := by rw [if_pos rfl] at H; exact H
    clear H
    have H := H1
    clear H1
    by_cases c5 : a0 ≥ 0
    · rw [if_pos c5] at H
      have c5b0 : decide (0 ≤ a0) = true := decide_eq_true c5
      clear c5
      by_cases c6 : a0 < a2_0
      · rw [if_pos c6] at H
        have c6b0 : decide (a0 < a2_0) = true := decide_eq_true c6
        clear c6
        obtain rfl := Option.some.inj H
        have hcz7_0 : w.cell? ⟨g2, 0, none⟩ = some (.int .i64 a2_0) := (blk_cell BK900002.out 0).trans rfl
        have hfz7_0 := blk_frozen BK900002.out 0
        go_enter Try.func83, Try.ntmps83
        go_wp2
        go_ret
        exact ⟨by first | rfl | (simp; done) | (simp [*]; done), by repeat (first | exact Drawn0.refl _ | apply Drawn0.step)⟩
      · rw [if_neg c6] at H
        have c6b0 : decide (a0 < a2_0) = false := decide_eq_false c6
        clear c6
        obtain rfl := Option.some.inj H
        have hcz8_0 : w.cell? ⟨g2, 0, none⟩ = some (.int .i64 a2_0) := (blk_cell BK900002.out 0).trans rfl
        have hfz8_0 := blk_frozen BK900002.out 0
        go_enter Try.func83, Try.ntmps83
        go_wp2
        go_ret
        exact ⟨by first | rfl | (simp; done) | (simp [*]; done), by repeat (first | exact Drawn0.refl _ | apply Drawn0.step)⟩
    · rw [if_neg c5] at H
      have c5b0 : decide (0 ≤ a0) = false := decide_eq_false c5
      clear c5
      obtain rfl := Option.some.inj H
      go_enter Try.func83, Try.ntmps83
      go_wp2
      go_ret
      exact ⟨by first | rfl | (simp; done) | (simp [*]; done), by repeat (first | exact Drawn0.refl _ | apply Drawn0.step)⟩
  · replace c4 := Bool.eq_false_iff.mpr c4
    subst c4
    have H1 : (some (a0 == 0)) = some r := by rw [if_neg (show ¬ (false = true) by decide)] at H; exact H
    clear H
    have H := H1
    clear H1
    obtain rfl := Option.some.inj H
    go_enter Try.func83, Try.ntmps83
    go_wp2
    go_ret
    exact ⟨by first | rfl | (simp; done) | (simp [*]; done), by repeat (first | exact Drawn0.refl _ | apply Drawn0.step)⟩

/-! ### same_Saying: function 23 -/
mutual
def same_Saying.j0 : Nat → List (S138) → Bool → Option (Int)
  | 0, _, _ => none
  | k + 1, x0, x13 => if x13 = true then (some 1) else (same_Saying.l0 k x0 (x0.length : Int) 0)
def same_Saying.l0 : Nat → List (S138) → Int → Int → Option (Int)
  | 0, _, _, _ => none
  | k + 1, x14, x15, x16 => if x16 < x15 then (if 0 ≤ x16 then (if x16 < (x14.length : Int) then (if ((rd_T138 x14 x16).f0) < 0 then (same_Saying.j2 k x14 x15 x16 true x16 ((rd_T138 x14 x16).f0) ((rd_T138 x14 x16).f1) ((rd_T138 x14 x16).f2) ((rd_T138 x14 x16).f3)) else (same_Saying.j2 k x14 x15 x16 (decide (((rd_T138 x14 x16).f0) > 3)) x16 ((rd_T138 x14 x16).f0) ((rd_T138 x14 x16).f1) ((rd_T138 x14 x16).f2) ((rd_T138 x14 x16).f3))) else (none)) else (none)) else (some 0)
def same_Saying.j2 : Nat → List (S138) → Int → Int → Bool → Int → Int → Int → Int → Int → Option (Int)
  | 0, _, _, _, _, _, _, _, _, _ => none
  | k + 1, x14, x15, x16, x28, x142000, x143000, x143001, x143002, x143003 => if x28 = true then (some 3) else ((same_Saying_1.f x143002 (decide (x143000 > 0)) x142000).bind fun t143 => (if t143 = true then ((same_Saying_1.f x143003 (x143000 == 3) x142000).bind fun t144 => (if t144 = true then (if x143000 = 2 then (if x143001 < 0 then (same_Saying.j3 k x14 x15 x16 true) else (same_Saying.j3 k x14 x15 x16 (decide (x143001 ≥ 4)))) else (if x143001 = 0 then (if x143001 < 0 then (same_Saying.j3 k x14 x15 x16 true) else (same_Saying.j3 k x14 x15 x16 (decide (x143001 ≥ 4)))) else (same_Saying.j3 k x14 x15 x16 true))) else (same_Saying.j3 k x14 x15 x16 true))) else (same_Saying.j3 k x14 x15 x16 true)))
def same_Saying.j3 : Nat → List (S138) → Int → Int → Bool → Option (Int)
  | 0, _, _, _, _ => none
  | k + 1, x14, x15, x16, x67 => if x67 = true then (some 2) else (same_Saying.l0 k x14 x15 (wrap64 (x16 + 1)))
end
def same_Saying.f (k : Nat) (l0 : List (S138)) : Option (Int) := if (l0.length : Int) < 1 then (same_Saying.j0 k l0 true) else (same_Saying.j0 k l0 (decide ((l0.length : Int) > 3000)))
theorem same_Saying.mono_l : ∀ k, (∀ y0 y1, LeO (same_Saying.j0 k y0 y1) (same_Saying.j0 (k + 1) y0 y1)) ∧ (∀ y0 y1 y2, LeO (same_Saying.l0 k y0 y1 y2) (same_Saying.l0 (k + 1) y0 y1 y2)) ∧ (∀ y0 y1 y2 y3 y4 y5 y6 y7 y8, LeO (same_Saying.j2 k y0 y1 y2 y3 y4 y5 y6 y7 y8) (same_Saying.j2 (k + 1) y0 y1 y2 y3 y4 y5 y6 y7 y8)) ∧ (∀ y0 y1 y2 y3, LeO (same_Saying.j3 k y0 y1 y2 y3) (same_Saying.j3 (k + 1) y0 y1 y2 y3))
  | 0 => ⟨fun _ _ r h => by simp [same_Saying.j0] at h, fun _ _ _ r h => by simp [same_Saying.l0] at h, fun _ _ _ _ _ _ _ _ _ r h => by simp [same_Saying.j2] at h, fun _ _ _ _ r h => by simp [same_Saying.j3] at h⟩
  | k + 1 => by
    obtain ⟨ih0, ih1, ih2, ih3⟩ := same_Saying.mono_l k
    refine ⟨?_, ?_, ?_, ?_⟩
    · intro y0 y1
      unfold same_Saying.j0
      repeat' first
      | (with_reducible exact ih0 _ _)
      | (with_reducible exact ih1 _ _ _)
      | (with_reducible exact ih2 _ _ _ _ _ _ _ _ _)
      | (with_reducible exact ih3 _ _ _ _)
      | (with_reducible exact LeO.refl _)
      | (with_reducible exact LeO.none _)
      | (with_reducible refine LeO.ite ?_ ?_)
      | (with_reducible refine LeO.bind ?_ (fun _ => ?_))
      | exact ih0 _ _
      | exact ih1 _ _ _
      | exact ih2 _ _ _ _ _ _ _ _ _
      | exact ih3 _ _ _ _
      | exact LeO.none _
      | refine LeO.ite ?_ ?_
      | refine LeO.bind ?_ (fun _ => ?_)
    · intro y0 y1 y2
      unfold same_Saying.l0
      repeat' first
      | (with_reducible exact ih0 _ _)
      | (with_reducible exact ih1 _ _ _)
      | (with_reducible exact ih2 _ _ _ _ _ _ _ _ _)
      | (with_reducible exact ih3 _ _ _ _)
      | (with_reducible exact LeO.refl _)
      | (with_reducible exact LeO.none _)
      | (with_reducible refine LeO.ite ?_ ?_)
      | (with_reducible refine LeO.bind ?_ (fun _ => ?_))
      | exact ih0 _ _
      | exact ih1 _ _ _
      | exact ih2 _ _ _ _ _ _ _ _ _
      | exact ih3 _ _ _ _
      | exact LeO.none _
      | refine LeO.ite ?_ ?_
      | refine LeO.bind ?_ (fun _ => ?_)
    · intro y0 y1 y2 y3 y4 y5 y6 y7 y8
      unfold same_Saying.j2
      repeat' first
      | (with_reducible exact ih0 _ _)
      | (with_reducible exact ih1 _ _ _)
      | (with_reducible exact ih2 _ _ _ _ _ _ _ _ _)
      | (with_reducible exact ih3 _ _ _ _)
      | (with_reducible exact LeO.refl _)
      | (with_reducible exact LeO.none _)
      | (with_reducible refine LeO.ite ?_ ?_)
      | (with_reducible refine LeO.bind ?_ (fun _ => ?_))
      | exact ih0 _ _
      | exact ih1 _ _ _
      | exact ih2 _ _ _ _ _ _ _ _ _
      | exact ih3 _ _ _ _
      | exact LeO.none _
      | refine LeO.ite ?_ ?_
      | refine LeO.bind ?_ (fun _ => ?_)
    · intro y0 y1 y2 y3
      unfold same_Saying.j3
      repeat' first
      | (with_reducible exact ih0 _ _)
      | (with_reducible exact ih1 _ _ _)
      | (with_reducible exact ih2 _ _ _ _ _ _ _ _ _)
      | (with_reducible exact ih3 _ _ _ _)
      | (with_reducible exact LeO.refl _)
      | (with_reducible exact LeO.none _)
      | (with_reducible refine LeO.ite ?_ ?_)
      | (with_reducible refine LeO.bind ?_ (fun _ => ?_))
      | exact ih0 _ _
      | exact ih1 _ _ _
      | exact ih2 _ _ _ _ _ _ _ _ _
      | exact ih3 _ _ _ _
      | exact LeO.none _
      | refine LeO.ite ?_ ?_
      | refine LeO.bind ?_ (fun _ => ?_)
theorem same_Saying.mono : ∀ a0 k, LeO (same_Saying.f k a0) (same_Saying.f (k + 1) a0) := by
  intro a0 k
  obtain ⟨ih0, ih1, ih2, ih3⟩ := same_Saying.mono_l k
  unfold same_Saying.f
  repeat' first
      | (with_reducible exact ih0 _ _)
      | (with_reducible exact ih1 _ _ _)
      | (with_reducible exact ih2 _ _ _ _ _ _ _ _ _)
      | (with_reducible exact ih3 _ _ _ _)
      | (with_reducible exact LeO.refl _)
      | (with_reducible exact LeO.none _)
      | (with_reducible refine LeO.ite ?_ ?_)
      | (with_reducible refine LeO.bind ?_ (fun _ => ?_))
      | exact ih0 _ _
      | exact ih1 _ _ _
      | exact ih2 _ _ _ _ _ _ _ _ _
      | exact ih3 _ _ _ _
      | exact LeO.none _
      | refine LeO.ite ?_ ?_
      | refine LeO.bind ?_ (fun _ => ?_)
set_option maxHeartbeats 8000000 in
set_option maxRecDepth 100000 in
theorem same_Saying.calls (k : Nat) (A0 : Option Addr) (c0 : Nat) (l0 : List (S138)) (r : Int) (w : World) (hr0 : Kd.C k138 w A0 l0.length l0) (hc0 : l0.length ≤ c0) (h : same_Saying.f k l0 = some r) :
    Calls Try.prog 23 #[.slice A0 l0.length c0] w fun e w' => e = .returned (.int .i64 r) ∧ Below w.heap.size w w' := by
  have hu138 := Try.underlying138
  have HR0 := Aside0.mk hr0
  have HC0 := Aside0.mk hc0
  clear hr0 hc0
  have HB := Aside0.mk (Below.refl w.heap.size w)
  have H : (if (l0.length : Int) < 1 then (same_Saying.j0 k l0 true) else (same_Saying.j0 k l0 (decide ((l0.length : Int) > 3000)))) = some r := h
  clear h
  have HC2 := Aside0.mk H
  clear H
  go_enter Try.func23, Try.ntmps23
  go_upto_region 1 with (fail)
  go_cut [13] (fun v13 wc => ∃ (kq : Nat) (x13_1 : Bool), v13 = .bool x13_1 ∧ Aside0 (same_Saying.j0 kq l0 x13_1 = some r) ∧ Aside0 (kq ≤ k) ∧ Aside0 (Below w.heap.size w wc))
  case first =>
    have H := HC2.out
    clear HC2
    by_cases c3 : (l0.length : Int) < 1
    · rw [if_pos c3] at H
      have c3b0 : decide ((l0.length : Int) < 1) = true := decide_eq_true c3
      have c3b1 : decide (l0.length < 1) = true := decide_eq_true (by omega)
      clear c3
      (first | rw [c3b0] | (simp only [i64_w, i32_w]; rw [c3b0]) | skip)
      have H' := Aside0.mk H
      clear H
      go_wp2
      go_meet
      case rel => exact ⟨_, (true), (by first | rfl | (simp; done) | (simp [*]; done)), H', ⟨by first | omega | exact Nat.le_refl _⟩, ⟨by repeat (first | (with_reducible first | exact HB.out | apply below_alloc | apply pw_below_drewN | apply below_drew1) | exact HB.out)⟩⟩
    · rw [if_neg c3] at H
      have c3b0 : decide ((l0.length : Int) < 1) = false := decide_eq_false c3
      have c3b1 : decide (l0.length < 1) = false := decide_eq_false (by omega)
      clear c3
      (first | rw [c3b0] | (simp only [i64_w, i32_w]; rw [c3b0]) | skip)
      have H' := Aside0.mk H
      clear H
      go_wp2
      go_meet
      case rel => exact ⟨_, (decide ((l0.length : Int) > 3000)), (by first | rfl | (simp; done) | (simp [*]; done)), H', ⟨by first | omega | exact Nat.le_refl _⟩, ⟨by repeat (first | (with_reducible first | exact HB.out | apply below_alloc | apply pw_below_drewN | apply below_drew1) | exact HB.out)⟩⟩
  case rest =>
    clear HC2
    try clear c2
    try clear p2
    try clear c3
    try clear c3b0
    try clear c3b1
    obtain ⟨kq, x13_1, rfl, HA, HJ1, HB⟩ := hcut
    cases kq with
    | zero => exact absurd HA.out (by simp [same_Saying.j0])
    | succ kj1 =>
      have H := HA.out
      clear HA
      simp only [same_Saying.j0] at H
      by_cases c4 : x13_1 = true
      · subst c4
        have H1 : (some 1) = some r := by rw [if_pos rfl] at H; exact H
        clear H
        have H := H1
        clear H1
        obtain rfl := Option.some.inj H
        go_wp2
        go_ret
        exact ⟨by first | rfl | (simp [errW_none, errW_some] <;> rfl) | (simp [*, errW_none, errW_some] <;> rfl), by repeat (first | (with_reducible first | exact HB.out | apply below_alloc | apply pw_below_drewN | apply below_drew1) | exact HB.out)⟩
      · replace c4 := Bool.eq_false_iff.mpr c4
        subst c4
        have H1 : (same_Saying.l0 kj1 l0 (l0.length : Int) 0) = some r := by rw [if_neg (show ¬ (false = true) by decide)] at H; exact H
        clear H
        have H := H1
        clear H1
        have H' := Aside0.mk H
        clear H
        go_wp2
        go_loopg [16] kj1 (fun kq v16 w' => ∃ (x16_2 : Int), v16 = .int .i64 x16_2 ∧ Aside0 (same_Saying.l0 kq l0 (l0.length : Int) x16_2 = some r) ∧ Aside0 (kq ≤ kj1) ∧ Aside0 (Below w.heap.size w w'))
        case atStart => exact ⟨(0), (by first | rfl | (simp; done) | (simp [*]; done)), H', ⟨Nat.le_refl _⟩, ⟨by repeat (first | (with_reducible first | exact HB.out | apply below_alloc | apply pw_below_drewN | apply below_drew1) | exact HB.out)⟩⟩
        case round =>
          clear H'
          try clear c2
          try clear p2
          try clear c3
          try clear c3b0
          try clear c3b1
          try clear c4
          try clear p2
          obtain ⟨x16_2, rfl, HA, HK2, HB⟩ := hrel
          cases gk with
          | zero => exact absurd HA.out (by simp [same_Saying.l0])
          | succ k2 =>
            have H := HA.out
            clear HA
            simp only [same_Saying.l0] at H
            by_cases c5 : x16_2 < (l0.length : Int)
            · rw [if_pos c5] at H
              have c5b0 : decide (x16_2 < (l0.length : Int)) = true := decide_eq_true c5
              clear c5
              by_cases c6 : 0 ≤ x16_2
              · rw [if_pos c6] at H
                have c6b0 : decide (0 ≤ x16_2) = true := decide_eq_true c6
                clear c6
                by_cases c7 : x16_2 < (l0.length : Int)
                · rw [if_pos c7] at H
                  have c7b0 : decide (x16_2 < (l0.length : Int)) = true := decide_eq_true c7
                  clear c7
                  have HC8 := Aside0.mk H
                  clear H
                  have p140 : 0 ≤ (x16_2 : Int) := of_decide_eq_true (by first | (with_reducible assumption) | assumption)
                  have q140 : x16_2 < (l0.length : Int) := of_decide_eq_true (by first | (with_reducible assumption) | assumption)
                  obtain ⟨ad140, e140, hx140_0, hx140_1, hx140_2, hx140_3⟩ := at_T138 HR0.out x16_2 p140 q140
                  cases e140
                  replace hx140_0 := (HB.out.cell (World.block_lt_of_cell? w _ hx140_0)).trans hx140_0
                  replace hx140_1 := (HB.out.cell (World.block_lt_of_cell? w _ hx140_1)).trans hx140_1
                  replace hx140_2 := (HB.out.cell (World.block_lt_of_cell? w _ hx140_2)).trans hx140_2
                  replace hx140_3 := (HB.out.cell (World.block_lt_of_cell? w _ hx140_3)).trans hx140_3
                  replace p140 := eq_true p140
                  replace q140 := eq_true q140
                  go_upto_region 6 with (first | ((with_reducible refine gate_dst (N := 3) rfl ?_); (try (refine gate_guard (by rfl) ?_; dsimp only)); refine box_event ?hg (N := 3) ?hd (cs := #[.int .i64 0]) (t := 3) ?hr ?_; (case hd => rfl); (case hg => rfl); (case hr => first | (go_simp; done) | (go_simp; rfl)); intro gb141 hg w9 hbox hb; have n0_ := Aside0.mk (below_step (by repeat (first | (with_reducible first | exact HB.out | apply below_alloc | apply pw_below_drewN | apply below_drew1) | exact HB.out)) hb); have n1_ := Aside0.mk (hbox); have n2_ := Aside0.mk ((by rw [hg]; exact (below_size (by repeat (first | (with_reducible first | exact HB.out | apply below_alloc | apply pw_below_drewN | apply below_drew1) | exact HB.out))) : w.heap.size ≤ gb141)); have n3_ := Aside0.mk ((by rw [hg]; exact (below_size (by repeat (first | (with_reducible first | exact HB.out | apply below_alloc | apply pw_below_drewN | apply below_drew1) | exact HB.out))) : w.heap.size ≤ gb141)); clear HB; have HB := n0_; have BK141 := n1_; have GW141 := n2_; have GE141 := n3_; clear n0_ n1_ n2_ n3_; clear hb hbox hg) | ((with_reducible refine gate_dst (N := 4) rfl ?_); (try (refine gate_guard (by rfl) ?_; dsimp only)); refine box_event ?hg (N := 4) ?hd (cs := #[.int .i64 0, .int .i64 0, .int .i64 0, .int .i64 0]) (t := 138) ?hr ?_; (case hd => rfl); (case hg => rfl); (case hr => first | (go_simp; done) | (go_simp; rfl)); intro gb142 hg w10 hbox hb; have n0_ := Aside0.mk (blk_below (g := gb141) (o := .cells #[.int .i64 0] 3 (0, 0)) (by (with_reducible repeat (first | refine blk_drewN ?_ _ | refine blk_drew ?_ | refine blk_alloc ?_ _)); exact BK141.out) hb); have n1_ := Aside0.mk (below_step (by repeat (first | (with_reducible first | exact HB.out | apply below_alloc | apply pw_below_drewN | apply below_drew1 | refine below_set ?_ GE141.out) | exact HB.out)) hb); have n2_ := Aside0.mk (hbox); have n3_ := Aside0.mk ((by rw [hg]; exact (below_size (by repeat (first | (with_reducible first | exact HB.out | apply below_alloc | apply pw_below_drewN | apply below_drew1 | refine below_set ?_ GE141.out) | exact HB.out))) : w.heap.size ≤ gb142)); have n4_ := Aside0.mk ((by rw [hg]; exact (below_size (by repeat (first | (with_reducible first | exact HB.out | apply below_alloc | apply pw_below_drewN | apply below_drew1 | refine below_set ?_ GE141.out) | exact HB.out))) : w.heap.size ≤ gb142)); have n5_ := Aside0.mk ((by rw [hg]; exact Nat.ne_of_lt (blk_lt (g := gb141) (o := .cells #[.int .i64 0] 3 (0, 0)) (by (with_reducible repeat (first | refine blk_drewN ?_ _ | refine blk_drew ?_ | refine blk_alloc ?_ _)); exact BK141.out)) : gb141 ≠ gb142)); have n6_ := Aside0.mk ((by rw [hg]; exact Nat.ne_of_gt (blk_lt (g := gb141) (o := .cells #[.int .i64 0] 3 (0, 0)) (by (with_reducible repeat (first | refine blk_drewN ?_ _ | refine blk_drew ?_ | refine blk_alloc ?_ _)); exact BK141.out)) : gb142 ≠ gb141)); clear BK141; clear HB; have BK141 := n0_; have HB := n1_; have BK142 := n2_; have GW142 := n3_; have GE142 := n4_; have NB141_142 := n5_; have NB142_141 := n6_; clear n0_ n1_ n2_ n3_ n4_ n5_ n6_; clear hb hbox hg; have hnb11 := NB141_142.out; have hnc11 := NB142_141.out; have hcz12_0 : w10.cell? ⟨gb141, 0, none⟩ = some (.int .i64 0) := (blk_cell BK141.out 0).trans rfl; have hfz12_0 := blk_frozen BK141.out 0; have hcz13_0 : w10.cell? ⟨gb142, 0, none⟩ = some (.int .i64 0) := (blk_cell BK142.out 0).trans rfl; have hcz13_1 : w10.cell? ⟨gb142, 1, none⟩ = some (.int .i64 0) := (blk_cell BK142.out 1).trans rfl; have hcz13_2 : w10.cell? ⟨gb142, 2, none⟩ = some (.int .i64 0) := (blk_cell BK142.out 2).trans rfl; have hcz13_3 : w10.cell? ⟨gb142, 3, none⟩ = some (.int .i64 0) := (blk_cell BK142.out 3).trans rfl; have hfz13_0 := blk_frozen BK142.out 0; have hfz13_1 := blk_frozen BK142.out 1; have hfz13_2 := blk_frozen BK142.out 2; have hfz13_3 := blk_frozen BK142.out 3))
                  (try simp only [Act.put, List.setIfInBounds_toArray, List.set_cons_zero, List.set_cons_succ])
                  go_cut [28] (fun v28 wc => ∃ (kq : Nat) (x28_7 : Bool), v28 = .bool x28_7 ∧ Aside0 (same_Saying.j2 kq l0 (l0.length : Int) x16_2 x28_7 x16_2 ((rd_T138 l0 x16_2).f0) ((rd_T138 l0 x16_2).f1) ((rd_T138 l0 x16_2).f2) ((rd_T138 l0 x16_2).f3) = some r) ∧ Aside0 (kq ≤ k2) ∧ Aside0 (wc.heap[gb141]? = some (.cells #[.int .i64 x16_2] 3 (0, 0))) ∧ Aside0 (wc.heap[gb142]? = some (.cells #[.int .i64 ((rd_T138 l0 x16_2).f0), .int .i64 ((rd_T138 l0 x16_2).f1), .int .i64 ((rd_T138 l0 x16_2).f2), .int .i64 ((rd_T138 l0 x16_2).f3)] 138 (0, 0))) ∧ Aside0 (Below w.heap.size w wc))
                  case first =>
                    have H := HC8.out
                    clear HC8
                    by_cases c14 : ((rd_T138 l0 x16_2).f0) < 0
                    · rw [if_pos c14] at H
                      have c14b0 : decide (((rd_T138 l0 x16_2).f0) < 0) = true := decide_eq_true c14
                      clear c14
                      (first | rw [c14b0] | (simp only [i64_w, i32_w]; rw [c14b0]) | skip)
                      have H' := Aside0.mk H
                      clear H
                      have hnb15 := NB142_141.out
                      have hnc15 := NB141_142.out
                      have hcz16_0 : w10.cell? ⟨gb142, 0, none⟩ = some (.int .i64 0) := (blk_cell BK142.out 0).trans rfl
                      have hcz16_1 : w10.cell? ⟨gb142, 1, none⟩ = some (.int .i64 0) := (blk_cell BK142.out 1).trans rfl
                      have hcz16_2 : w10.cell? ⟨gb142, 2, none⟩ = some (.int .i64 0) := (blk_cell BK142.out 2).trans rfl
                      have hcz16_3 : w10.cell? ⟨gb142, 3, none⟩ = some (.int .i64 0) := (blk_cell BK142.out 3).trans rfl
                      have hfz16_0 := blk_frozen BK142.out 0
                      have hfz16_1 := blk_frozen BK142.out 1
                      have hfz16_2 := blk_frozen BK142.out 2
                      have hfz16_3 := blk_frozen BK142.out 3
                      go_wp2
                      go_meet
                      case rel => exact ⟨_, (true), (by first | rfl | (simp; done) | (simp [*]; done)), H', ⟨by have := HJ1.out; have := HK2.out; first | omega | exact Nat.le_refl _⟩, ⟨by (with_reducible repeat (first | refine blk_drewN ?_ _ | refine blk_drew ?_ | refine blk_alloc ?_ _)); refine blk_far ?_ NB141_142.out _; (with_reducible repeat (first | refine blk_drewN ?_ _ | refine blk_drew ?_ | refine blk_alloc ?_ _)); refine blk_far ?_ NB141_142.out _; (with_reducible repeat (first | refine blk_drewN ?_ _ | refine blk_drew ?_ | refine blk_alloc ?_ _)); refine blk_far ?_ NB141_142.out _; (with_reducible repeat (first | refine blk_drewN ?_ _ | refine blk_drew ?_ | refine blk_alloc ?_ _)); refine blk_far ?_ NB141_142.out _; (with_reducible repeat (first | refine blk_drewN ?_ _ | refine blk_drew ?_ | refine blk_alloc ?_ _)); refine blk_put (cs := #[.int .i64 0]) ?_ 0 _ rfl; (with_reducible repeat (first | refine blk_drewN ?_ _ | refine blk_drew ?_ | refine blk_alloc ?_ _)); exact BK141.out⟩, ⟨by (with_reducible repeat (first | refine blk_drewN ?_ _ | refine blk_drew ?_ | refine blk_alloc ?_ _)); refine blk_put (cs := #[.int .i64 ((rd_T138 l0 x16_2).f0), .int .i64 ((rd_T138 l0 x16_2).f1), .int .i64 ((rd_T138 l0 x16_2).f2), .int .i64 0]) ?_ 3 _ rfl; (with_reducible repeat (first | refine blk_drewN ?_ _ | refine blk_drew ?_ | refine blk_alloc ?_ _)); refine blk_put (cs := #[.int .i64 ((rd_T138 l0 x16_2).f0), .int .i64 ((rd_T138 l0 x16_2).f1), .int .i64 0, .int .i64 0]) ?_ 2 _ rfl; (with_reducible repeat (first | refine blk_drewN ?_ _ | refine blk_drew ?_ | refine blk_alloc ?_ _)); refine blk_put (cs := #[.int .i64 ((rd_T138 l0 x16_2).f0), .int .i64 0, .int .i64 0, .int .i64 0]) ?_ 1 _ rfl; (with_reducible repeat (first | refine blk_drewN ?_ _ | refine blk_drew ?_ | refine blk_alloc ?_ _)); refine blk_put (cs := #[.int .i64 0, .int .i64 0, .int .i64 0, .int .i64 0]) ?_ 0 _ rfl; (with_reducible repeat (first | refine blk_drewN ?_ _ | refine blk_drew ?_ | refine blk_alloc ?_ _)); refine blk_far ?_ NB142_141.out _; (with_reducible repeat (first | refine blk_drewN ?_ _ | refine blk_drew ?_ | refine blk_alloc ?_ _)); exact BK142.out⟩, ⟨by repeat (first | (with_reducible first | exact HB.out | apply below_alloc | apply pw_below_drewN | apply below_drew1 | refine below_set ?_ GE141.out | refine below_set ?_ GE142.out) | exact HB.out)⟩⟩
                    · rw [if_neg c14] at H
                      have c14b0 : decide (((rd_T138 l0 x16_2).f0) < 0) = false := decide_eq_false c14
                      clear c14
                      (first | rw [c14b0] | (simp only [i64_w, i32_w]; rw [c14b0]) | skip)
                      have H' := Aside0.mk H
                      clear H
                      have hnb17 := NB142_141.out
                      have hnc17 := NB141_142.out
                      have hcz18_0 : w10.cell? ⟨gb142, 0, none⟩ = some (.int .i64 0) := (blk_cell BK142.out 0).trans rfl
                      have hcz18_1 : w10.cell? ⟨gb142, 1, none⟩ = some (.int .i64 0) := (blk_cell BK142.out 1).trans rfl
                      have hcz18_2 : w10.cell? ⟨gb142, 2, none⟩ = some (.int .i64 0) := (blk_cell BK142.out 2).trans rfl
                      have hcz18_3 : w10.cell? ⟨gb142, 3, none⟩ = some (.int .i64 0) := (blk_cell BK142.out 3).trans rfl
                      have hfz18_0 := blk_frozen BK142.out 0
                      have hfz18_1 := blk_frozen BK142.out 1
                      have hfz18_2 := blk_frozen BK142.out 2
                      have hfz18_3 := blk_frozen BK142.out 3
                      go_wp2
                      go_meet
                      case rel => exact ⟨_, (decide (((rd_T138 l0 x16_2).f0) > 3)), (by first | rfl | (simp; done) | (simp [*]; done)), H', ⟨by have := HJ1.out; have := HK2.out; first | omega | exact Nat.le_refl _⟩, ⟨by (with_reducible repeat (first | refine blk_drewN ?_ _ | refine blk_drew ?_ | refine blk_alloc ?_ _)); refine blk_far ?_ NB141_142.out _; (with_reducible repeat (first | refine blk_drewN ?_ _ | refine blk_drew ?_ | refine blk_alloc ?_ _)); refine blk_far ?_ NB141_142.out _; (with_reducible repeat (first | refine blk_drewN ?_ _ | refine blk_drew ?_ | refine blk_alloc ?_ _)); refine blk_far ?_ NB141_142.out _; (with_reducible repeat (first | refine blk_drewN ?_ _ | refine blk_drew ?_ | refine blk_alloc ?_ _)); refine blk_far ?_ NB141_142.out _; (with_reducible repeat (first | refine blk_drewN ?_ _ | refine blk_drew ?_ | refine blk_alloc ?_ _)); refine blk_put (cs := #[.int .i64 0]) ?_ 0 _ rfl; (with_reducible repeat (first | refine blk_drewN ?_ _ | refine blk_drew ?_ | refine blk_alloc ?_ _)); exact BK141.out⟩, ⟨by (with_reducible repeat (first | refine blk_drewN ?_ _ | refine blk_drew ?_ | refine blk_alloc ?_ _)); refine blk_put (cs := #[.int .i64 ((rd_T138 l0 x16_2).f0), .int .i64 ((rd_T138 l0 x16_2).f1), .int .i64 ((rd_T138 l0 x16_2).f2), .int .i64 0]) ?_ 3 _ rfl; (with_reducible repeat (first | refine blk_drewN ?_ _ | refine blk_drew ?_ | refine blk_alloc ?_ _)); refine blk_put (cs := #[.int .i64 ((rd_T138 l0 x16_2).f0), .int .i64 ((rd_T138 l0 x16_2).f1), .int .i64 0, .int .i64 0]) ?_ 2 _ rfl; (with_reducible repeat (first | refine blk_drewN ?_ _ | refine blk_drew ?_ | refine blk_alloc ?_ _)); refine blk_put (cs := #[.int .i64 ((rd_T138 l0 x16_2).f0), .int .i64 0, .int .i64 0, .int .i64 0]) ?_ 1 _ rfl; (with_reducible repeat (first | refine blk_drewN ?_ _ | refine blk_drew ?_ | refine blk_alloc ?_ _)); refine blk_put (cs := #[.int .i64 0, .int .i64 0, .int .i64 0, .int .i64 0]) ?_ 0 _ rfl; (with_reducible repeat (first | refine blk_drewN ?_ _ | refine blk_drew ?_ | refine blk_alloc ?_ _)); refine blk_far ?_ NB142_141.out _; (with_reducible repeat (first | refine blk_drewN ?_ _ | refine blk_drew ?_ | refine blk_alloc ?_ _)); exact BK142.out⟩, ⟨by repeat (first | (with_reducible first | exact HB.out | apply below_alloc | apply pw_below_drewN | apply below_drew1 | refine below_set ?_ GE141.out | refine below_set ?_ GE142.out) | exact HB.out)⟩⟩
                  case rest =>
                    clear HC8
                    try clear c1
                    try clear p1
                    try clear q1
                    try clear hx1
                    try clear c2
                    try clear p2
                    try clear c3
                    try clear c3b0
                    try clear c3b1
                    try clear c4
                    try clear c5
                    try clear c5b0
                    try clear c6
                    try clear c6b0
                    try clear c7
                    try clear c7b0
                    try clear c11
                    try clear c14
                    try clear c14b0
                    try clear p14
                    try clear q14
                    try clear hx14
                    try clear c15
                    try clear c17
                    try clear hcz12_0
                    try clear hcz13_0
                    try clear hcz13_1
                    try clear hcz13_2
                    try clear hcz13_3
                    try clear hcz16_0
                    try clear hcz16_1
                    try clear hcz16_2
                    try clear hcz16_3
                    try clear hcz18_0
                    try clear hcz18_1
                    try clear hcz18_2
                    try clear hcz18_3
                    try clear hfz12_0
                    try clear hfz13_0
                    try clear hfz13_1
                    try clear hfz13_2
                    try clear hfz13_3
                    try clear hfz16_0
                    try clear hfz16_1
                    try clear hfz16_2
                    try clear hfz16_3
                    try clear hfz18_0
                    try clear hfz18_1
                    try clear hfz18_2
                    try clear hfz18_3
                    try clear hx140_0
                    try clear hx140_1
                    try clear hx140_2
                    try clear hx140_3
                    try clear p140
                    try clear p2
                    try clear q140
                    obtain ⟨kq, x28_7, rfl, HA, HJ7, BK141, BK142, HB⟩ := hcut
                    cases kq with
                    | zero => exact absurd HA.out (by simp [same_Saying.j2])
                    | succ kj7 =>
                      have H := HA.out
                      clear HA
                      simp only [same_Saying.j2] at H
                      by_cases c19 : x28_7 = true
                      · subst c19
                        have H1 : (some 3) = some r := by rw [if_pos rfl] at H; exact H
                        clear H
                        have H := H1
                        clear H1
                        obtain rfl := Option.some.inj H
                        go_wp2
                        go_ret
                        exact ⟨by first | rfl | (simp [errW_none, errW_some] <;> rfl) | (simp [*, errW_none, errW_some] <;> rfl), by repeat (first | (with_reducible first | exact HB.out | apply below_alloc | apply pw_below_drewN | apply below_drew1 | refine below_set ?_ GE141.out | refine below_set ?_ GE142.out) | exact HB.out)⟩
                      · replace c19 := Bool.eq_false_iff.mpr c19
                        subst c19
                        have H1 : ((same_Saying_1.f ((rd_T138 l0 x16_2).f2) (decide (((rd_T138 l0 x16_2).f0) > 0)) x16_2).bind fun t143 => (if t143 = true then ((same_Saying_1.f ((rd_T138 l0 x16_2).f3) (((rd_T138 l0 x16_2).f0) == 3) x16_2).bind fun t144 => (if t144 = true then (if ((rd_T138 l0 x16_2).f0) = 2 then (if ((rd_T138 l0 x16_2).f1) < 0 then (same_Saying.j3 kj7 l0 (l0.length : Int) x16_2 true) else (same_Saying.j3 kj7 l0 (l0.length : Int) x16_2 (decide (((rd_T138 l0 x16_2).f1) ≥ 4)))) else (if ((rd_T138 l0 x16_2).f1) = 0 then (if ((rd_T138 l0 x16_2).f1) < 0 then (same_Saying.j3 kj7 l0 (l0.length : Int) x16_2 true) else (same_Saying.j3 kj7 l0 (l0.length : Int) x16_2 (decide (((rd_T138 l0 x16_2).f1) ≥ 4)))) else (same_Saying.j3 kj7 l0 (l0.length : Int) x16_2 true))) else (same_Saying.j3 kj7 l0 (l0.length : Int) x16_2 true))) else (same_Saying.j3 kj7 l0 (l0.length : Int) x16_2 true))) = some r := by rw [if_neg (show ¬ (false = true) by decide)] at H; exact H
                        clear H
                        have H := H1
                        clear H1
                        have HC20 := Aside0.mk H
                        clear H
                        go_upto_region 9 with (fail)
                        go_cut [67] (fun v67 wc => ∃ (kq : Nat) (x67_19 : Bool), v67 = .bool x67_19 ∧ Aside0 (same_Saying.j3 kq l0 (l0.length : Int) x16_2 x67_19 = some r) ∧ Aside0 (kq ≤ kj7) ∧ Aside0 (wc.heap[gb141]? = some (.cells #[.int .i64 x16_2] 3 (0, 0))) ∧ Aside0 (wc.heap[gb142]? = some (.cells #[.int .i64 ((rd_T138 l0 x16_2).f0), .int .i64 ((rd_T138 l0 x16_2).f1), .int .i64 ((rd_T138 l0 x16_2).f2), .int .i64 ((rd_T138 l0 x16_2).f3)] 138 (0, 0))) ∧ Aside0 (Below w.heap.size w wc))
                        case first =>
                          have H := HC20.out
                          clear HC20
                          replace H := Option.bind_eq_some_iff.mp H
                          obtain ⟨t143, A210, H⟩ := H
                          replace H : (if t143 = true then ((same_Saying_1.f ((rd_T138 l0 x16_2).f3) (((rd_T138 l0 x16_2).f0) == 3) x16_2).bind fun t144 => (if t144 = true then (if ((rd_T138 l0 x16_2).f0) = 2 then (if ((rd_T138 l0 x16_2).f1) < 0 then (same_Saying.j3 kj7 l0 (l0.length : Int) x16_2 true) else (same_Saying.j3 kj7 l0 (l0.length : Int) x16_2 (decide (((rd_T138 l0 x16_2).f1) ≥ 4)))) else (if ((rd_T138 l0 x16_2).f1) = 0 then (if ((rd_T138 l0 x16_2).f1) < 0 then (same_Saying.j3 kj7 l0 (l0.length : Int) x16_2 true) else (same_Saying.j3 kj7 l0 (l0.length : Int) x16_2 (decide (((rd_T138 l0 x16_2).f1) ≥ 4)))) else (same_Saying.j3 kj7 l0 (l0.length : Int) x16_2 true))) else (same_Saying.j3 kj7 l0 (l0.length : Int) x16_2 true))) else (same_Saying.j3 kj7 l0 (l0.length : Int) x16_2 true)) = some r := H
                          have A21 := Aside0.mk A210
                          clear A210
                          by_cases c22 : t143 = true
                          · subst c22
                            have H1 : ((same_Saying_1.f ((rd_T138 l0 x16_2).f3) (((rd_T138 l0 x16_2).f0) == 3) x16_2).bind fun t144 => (if t144 = true then (if ((rd_T138 l0 x16_2).f0) = 2 then (if ((rd_T138 l0 x16_2).f1) < 0 then (same_Saying.j3 kj7 l0 (l0.length : Int) x16_2 true) else (same_Saying.j3 kj7 l0 (l0.length : Int) x16_2 (decide (((rd_T138 l0 x16_2).f1) ≥ 4)))) else (if ((rd_T138 l0 x16_2).f1) = 0 then (if ((rd_T138 l0 x16_2).f1) < 0 then (same_Saying.j3 kj7 l0 (l0.length : Int) x16_2 true) else (same_Saying.j3 kj7 l0 (l0.length : Int) x16_2 (decide (((rd_T138 l0 x16_2).f1) ≥ 4)))) else (same_Saying.j3 kj7 l0 (l0.length : Int) x16_2 true))) else (same_Saying.j3 kj7 l0 (l0.length : Int) x16_2 true))) = some r := by rw [if_pos rfl] at H; exact H
                            clear H
                            have H := H1
                            clear H1
                            replace H := Option.bind_eq_some_iff.mp H
                            obtain ⟨t144, A230, H⟩ := H
                            replace H : (if t144 = true then (if ((rd_T138 l0 x16_2).f0) = 2 then (if ((rd_T138 l0 x16_2).f1) < 0 then (same_Saying.j3 kj7 l0 (l0.length : Int) x16_2 true) else (same_Saying.j3 kj7 l0 (l0.length : Int) x16_2 (decide (((rd_T138 l0 x16_2).f1) ≥ 4)))) else (if ((rd_T138 l0 x16_2).f1) = 0 then (if ((rd_T138 l0 x16_2).f1) < 0 then (same_Saying.j3 kj7 l0 (l0.length : Int) x16_2 true) else (same_Saying.j3 kj7 l0 (l0.length : Int) x16_2 (decide (((rd_T138 l0 x16_2).f1) ≥ 4)))) else (same_Saying.j3 kj7 l0 (l0.length : Int) x16_2 true))) else (same_Saying.j3 kj7 l0 (l0.length : Int) x16_2 true)) = some r := H
                            have A23 := Aside0.mk A230
                            clear A230
                            by_cases c24 : t144 = true
                            · subst c24
                              have H1 : (if ((rd_T138 l0 x16_2).f0) = 2 then (if ((rd_T138 l0 x16_2).f1) < 0 then (same_Saying.j3 kj7 l0 (l0.length : Int) x16_2 true) else (same_Saying.j3 kj7 l0 (l0.length : Int) x16_2 (decide (((rd_T138 l0 x16_2).f1) ≥ 4)))) else (if ((rd_T138 l0 x16_2).f1) = 0 then (if ((rd_T138 l0 x16_2).f1) < 0 then (same_Saying.j3 kj7 l0 (l0.length : Int) x16_2 true) else (same_Saying.j3 kj7 l0 (l0.length : Int) x16_2 (decide (((rd_T138 l0 x16_2).f1) ≥ 4)))) else (same_Saying.j3 kj7 l0 (l0.length : Int) x16_2 true))) = some r := by rw [if_pos rfl] at H; exact H
                              clear H
                              have H := H1
                              clear H1
                              by_cases c25 : ((rd_T138 l0 x16_2).f0) = 2
                              · rw [if_pos c25] at H
                                have c25b0 : (((rd_T138 l0 x16_2).f0) == 2) = true := beq_iff_eq.mpr c25
                                have c25b1 : (((rd_T138 l0 x16_2).f0) != 2) = false := bne_eq_false_iff_eq.mpr c25
                                clear c25
                                (first | rw [c25b0] | (simp only [i64_w, i32_w]; rw [c25b0]) | skip)
                                by_cases c26 : ((rd_T138 l0 x16_2).f1) < 0
                                · rw [if_pos c26] at H
                                  have c26b0 : decide (((rd_T138 l0 x16_2).f1) < 0) = true := decide_eq_true c26
                                  clear c26
                                  have H' := Aside0.mk H
                                  clear H
                                  have hnb27 := NB142_141.out
                                  have hnc27 := NB141_142.out
                                  have hcz28_0 : wc.cell? ⟨gb142, 0, none⟩ = some (.int .i64 ((rd_T138 l0 x16_2).f0)) := (blk_cell BK142.out 0).trans rfl
                                  have hcz28_1 : wc.cell? ⟨gb142, 1, none⟩ = some (.int .i64 ((rd_T138 l0 x16_2).f1)) := (blk_cell BK142.out 1).trans rfl
                                  have hcz28_2 : wc.cell? ⟨gb142, 2, none⟩ = some (.int .i64 ((rd_T138 l0 x16_2).f2)) := (blk_cell BK142.out 2).trans rfl
                                  have hcz28_3 : wc.cell? ⟨gb142, 3, none⟩ = some (.int .i64 ((rd_T138 l0 x16_2).f3)) := (blk_cell BK142.out 3).trans rfl
                                  have hfz28_0 := blk_frozen BK142.out 0
                                  have hfz28_1 := blk_frozen BK142.out 1
                                  have hfz28_2 := blk_frozen BK142.out 2
                                  have hfz28_3 := blk_frozen BK142.out 3
                                  have hcz29_0 : wc.cell? ⟨gb141, 0, none⟩ = some (.int .i64 x16_2) := (blk_cell BK141.out 0).trans rfl
                                  have hfz29_0 := blk_frozen BK141.out 0
                                  go_wp2_with (first | (go_at_call 83; (with_reducible refine (same_Saying_1.calls ((rd_T138 l0 x16_2).f2) (decide (((rd_T138 l0 x16_2).f0) > 0)) gb141 x16_2 true _ ?side1 A21.out).mono ?_); (case side1 => exact (by (with_reducible repeat (first | refine blk_drewN ?_ _ | refine blk_drew ?_ | refine blk_alloc ?_ _)); exact BK141.out)); rintro e w' ⟨rfl, ⟨nd, rfl⟩⟩) | (go_at_call 83; (with_reducible refine (same_Saying_1.calls ((rd_T138 l0 x16_2).f3) (((rd_T138 l0 x16_2).f0) == 3) gb141 x16_2 true _ ?side1 A23.out).mono ?_); (case side1 => exact (by (with_reducible repeat (first | refine blk_drewN ?_ _ | refine blk_drew ?_ | refine blk_alloc ?_ _)); exact BK141.out)); rintro e w' ⟨rfl, ⟨nd, rfl⟩⟩))
                                  go_meet
                                  case rel => exact ⟨_, (true), (by first | rfl | (simp; done) | (simp [*]; done)), H', ⟨by have := HJ1.out; have := HK2.out; have := HJ7.out; first | omega | exact Nat.le_refl _⟩, ⟨by (with_reducible repeat (first | refine blk_drewN ?_ _ | refine blk_drew ?_ | refine blk_alloc ?_ _)); exact BK141.out⟩, ⟨by (with_reducible repeat (first | refine blk_drewN ?_ _ | refine blk_drew ?_ | refine blk_alloc ?_ _)); exact BK142.out⟩, ⟨by repeat (first | (with_reducible first | exact HB.out | apply below_alloc | apply pw_below_drewN | apply below_drew1 | refine below_set ?_ GE141.out | refine below_set ?_ GE142.out) | exact HB.out)⟩⟩
                                · rw [if_neg c26] at H
                                  have c26b0 : decide (((rd_T138 l0 x16_2).f1) < 0) = false := decide_eq_false c26
                                  clear c26
                                  have H' := Aside0.mk H
                                  clear H
                                  have hnb30 := NB142_141.out
                                  have hnc30 := NB141_142.out
                                  have hcz31_0 : wc.cell? ⟨gb142, 0, none⟩ = some (.int .i64 ((rd_T138 l0 x16_2).f0)) := (blk_cell BK142.out 0).trans rfl
                                  have hcz31_1 : wc.cell? ⟨gb142, 1, none⟩ = some (.int .i64 ((rd_T138 l0 x16_2).f1)) := (blk_cell BK142.out 1).trans rfl
                                  have hcz31_2 : wc.cell? ⟨gb142, 2, none⟩ = some (.int .i64 ((rd_T138 l0 x16_2).f2)) := (blk_cell BK142.out 2).trans rfl
                                  have hcz31_3 : wc.cell? ⟨gb142, 3, none⟩ = some (.int .i64 ((rd_T138 l0 x16_2).f3)) := (blk_cell BK142.out 3).trans rfl
                                  have hfz31_0 := blk_frozen BK142.out 0
                                  have hfz31_1 := blk_frozen BK142.out 1
                                  have hfz31_2 := blk_frozen BK142.out 2
                                  have hfz31_3 := blk_frozen BK142.out 3
                                  have hcz32_0 : wc.cell? ⟨gb141, 0, none⟩ = some (.int .i64 x16_2) := (blk_cell BK141.out 0).trans rfl
                                  have hfz32_0 := blk_frozen BK141.out 0
                                  go_wp2_with (first | (go_at_call 83; (with_reducible refine (same_Saying_1.calls ((rd_T138 l0 x16_2).f2) (decide (((rd_T138 l0 x16_2).f0) > 0)) gb141 x16_2 true _ ?side1 A21.out).mono ?_); (case side1 => exact (by (with_reducible repeat (first | refine blk_drewN ?_ _ | refine blk_drew ?_ | refine blk_alloc ?_ _)); exact BK141.out)); rintro e w' ⟨rfl, ⟨nd, rfl⟩⟩) | (go_at_call 83; (with_reducible refine (same_Saying_1.calls ((rd_T138 l0 x16_2).f3) (((rd_T138 l0 x16_2).f0) == 3) gb141 x16_2 true _ ?side1 A23.out).mono ?_); (case side1 => exact (by (with_reducible repeat (first | refine blk_drewN ?_ _ | refine blk_drew ?_ | refine blk_alloc ?_ _)); exact BK141.out)); rintro e w' ⟨rfl, ⟨nd, rfl⟩⟩))
                                  go_meet
                                  case rel => exact ⟨_, (decide (((rd_T138 l0 x16_2).f1) ≥ 4)), (by first | rfl | (simp; done) | (simp [*]; done)), H', ⟨by have := HJ1.out; have := HK2.out; have := HJ7.out; first | omega | exact Nat.le_refl _⟩, ⟨by (with_reducible repeat (first | refine blk_drewN ?_ _ | refine blk_drew ?_ | refine blk_alloc ?_ _)); exact BK141.out⟩, ⟨by (with_reducible repeat (first | refine blk_drewN ?_ _ | refine blk_drew ?_ | refine blk_alloc ?_ _)); exact BK142.out⟩, ⟨by repeat (first | (with_reducible first | exact HB.out | apply below_alloc | apply pw_below_drewN | apply below_drew1 | refine below_set ?_ GE141.out | refine below_set ?_ GE142.out) | exact HB.out)⟩⟩
                              · rw [if_neg c25] at H
                                have c25b0 : (((rd_T138 l0 x16_2).f0) == 2) = false := beq_eq_false_iff_ne.mpr c25
                                have c25b1 : (((rd_T138 l0 x16_2).f0) != 2) = true := bne_iff_ne.mpr c25
                                (first | rw [c25b0] | (simp only [i64_w, i32_w]; rw [c25b0]) | skip)
                                by_cases c33 : ((rd_T138 l0 x16_2).f1) = 0
                                · rw [if_pos c33] at H
                                  have c33b0 : (((rd_T138 l0 x16_2).f1) == 0) = true := beq_iff_eq.mpr c33
                                  have c33b1 : (((rd_T138 l0 x16_2).f1) != 0) = false := bne_eq_false_iff_eq.mpr c33
                                  clear c33
                                  by_cases c34 : ((rd_T138 l0 x16_2).f1) < 0
                                  · rw [if_pos c34] at H
                                    have c34b0 : decide (((rd_T138 l0 x16_2).f1) < 0) = true := decide_eq_true c34
                                    clear c34
                                    have H' := Aside0.mk H
                                    clear H
                                    have hnb35 := NB142_141.out
                                    have hnc35 := NB141_142.out
                                    have hcz36_0 : wc.cell? ⟨gb142, 0, none⟩ = some (.int .i64 ((rd_T138 l0 x16_2).f0)) := (blk_cell BK142.out 0).trans rfl
                                    have hcz36_1 : wc.cell? ⟨gb142, 1, none⟩ = some (.int .i64 ((rd_T138 l0 x16_2).f1)) := (blk_cell BK142.out 1).trans rfl
                                    have hcz36_2 : wc.cell? ⟨gb142, 2, none⟩ = some (.int .i64 ((rd_T138 l0 x16_2).f2)) := (blk_cell BK142.out 2).trans rfl
                                    have hcz36_3 : wc.cell? ⟨gb142, 3, none⟩ = some (.int .i64 ((rd_T138 l0 x16_2).f3)) := (blk_cell BK142.out 3).trans rfl
                                    have hfz36_0 := blk_frozen BK142.out 0
                                    have hfz36_1 := blk_frozen BK142.out 1
                                    have hfz36_2 := blk_frozen BK142.out 2
                                    have hfz36_3 := blk_frozen BK142.out 3
                                    have hcz37_0 : wc.cell? ⟨gb141, 0, none⟩ = some (.int .i64 x16_2) := (blk_cell BK141.out 0).trans rfl
                                    have hfz37_0 := blk_frozen BK141.out 0
                                    go_wp2_with (first | (go_at_call 83; (with_reducible refine (same_Saying_1.calls ((rd_T138 l0 x16_2).f2) (decide (((rd_T138 l0 x16_2).f0) > 0)) gb141 x16_2 true _ ?side1 A21.out).mono ?_); (case side1 => exact (by (with_reducible repeat (first | refine blk_drewN ?_ _ | refine blk_drew ?_ | refine blk_alloc ?_ _)); exact BK141.out)); rintro e w' ⟨rfl, ⟨nd, rfl⟩⟩) | (go_at_call 83; (with_reducible refine (same_Saying_1.calls ((rd_T138 l0 x16_2).f3) (((rd_T138 l0 x16_2).f0) == 3) gb141 x16_2 true _ ?side1 A23.out).mono ?_); (case side1 => exact (by (with_reducible repeat (first | refine blk_drewN ?_ _ | refine blk_drew ?_ | refine blk_alloc ?_ _)); exact BK141.out)); rintro e w' ⟨rfl, ⟨nd, rfl⟩⟩))
                                    go_meet
                                    case rel => exact ⟨_, (true), (by first | rfl | (simp; done) | (simp [*]; done)), H', ⟨by have := HJ1.out; have := HK2.out; have := HJ7.out; first | omega | exact Nat.le_refl _⟩, ⟨by (with_reducible repeat (first | refine blk_drewN ?_ _ | refine blk_drew ?_ | refine blk_alloc ?_ _)); exact BK141.out⟩, ⟨by (with_reducible repeat (first | refine blk_drewN ?_ _ | refine blk_drew ?_ | refine blk_alloc ?_ _)); exact BK142.out⟩, ⟨by repeat (first | (with_reducible first | exact HB.out | apply below_alloc | apply pw_below_drewN | apply below_drew1 | refine below_set ?_ GE141.out | refine below_set ?_ GE142.out) | exact HB.out)⟩⟩
                                  · rw [if_neg c34] at H
                                    have c34b0 : decide (((rd_T138 l0 x16_2).f1) < 0) = false := decide_eq_false c34
                                    clear c34
                                    have H' := Aside0.mk H
                                    clear H
                                    have hnb38 := NB142_141.out
                                    have hnc38 := NB141_142.out
                                    have hcz39_0 : wc.cell? ⟨gb142, 0, none⟩ = some (.int .i64 ((rd_T138 l0 x16_2).f0)) := (blk_cell BK142.out 0).trans rfl
                                    have hcz39_1 : wc.cell? ⟨gb142, 1, none⟩ = some (.int .i64 ((rd_T138 l0 x16_2).f1)) := (blk_cell BK142.out 1).trans rfl
                                    have hcz39_2 : wc.cell? ⟨gb142, 2, none⟩ = some (.int .i64 ((rd_T138 l0 x16_2).f2)) := (blk_cell BK142.out 2).trans rfl
                                    have hcz39_3 : wc.cell? ⟨gb142, 3, none⟩ = some (.int .i64 ((rd_T138 l0 x16_2).f3)) := (blk_cell BK142.out 3).trans rfl
                                    have hfz39_0 := blk_frozen BK142.out 0
                                    have hfz39_1 := blk_frozen BK142.out 1
                                    have hfz39_2 := blk_frozen BK142.out 2
                                    have hfz39_3 := blk_frozen BK142.out 3
                                    have hcz40_0 : wc.cell? ⟨gb141, 0, none⟩ = some (.int .i64 x16_2) := (blk_cell BK141.out 0).trans rfl
                                    have hfz40_0 := blk_frozen BK141.out 0
                                    go_wp2_with (first | (go_at_call 83; (with_reducible refine (same_Saying_1.calls ((rd_T138 l0 x16_2).f2) (decide (((rd_T138 l0 x16_2).f0) > 0)) gb141 x16_2 true _ ?side1 A21.out).mono ?_); (case side1 => exact (by (with_reducible repeat (first | refine blk_drewN ?_ _ | refine blk_drew ?_ | refine blk_alloc ?_ _)); exact BK141.out)); rintro e w' ⟨rfl, ⟨nd, rfl⟩⟩) | (go_at_call 83; (with_reducible refine (same_Saying_1.calls ((rd_T138 l0 x16_2).f3) (((rd_T138 l0 x16_2).f0) == 3) gb141 x16_2 true _ ?side1 A23.out).mono ?_); (case side1 => exact (by (with_reducible repeat (first | refine blk_drewN ?_ _ | refine blk_drew ?_ | refine blk_alloc ?_ _)); exact BK141.out)); rintro e w' ⟨rfl, ⟨nd, rfl⟩⟩))
                                    go_meet
                                    case rel => exact ⟨_, (decide (((rd_T138 l0 x16_2).f1) ≥ 4)), (by first | rfl | (simp; done) | (simp [*]; done)), H', ⟨by have := HJ1.out; have := HK2.out; have := HJ7.out; first | omega | exact Nat.le_refl _⟩, ⟨by (with_reducible repeat (first | refine blk_drewN ?_ _ | refine blk_drew ?_ | refine blk_alloc ?_ _)); exact BK141.out⟩, ⟨by (with_reducible repeat (first | refine blk_drewN ?_ _ | refine blk_drew ?_ | refine blk_alloc ?_ _)); exact BK142.out⟩, ⟨by repeat (first | (with_reducible first | exact HB.out | apply below_alloc | apply pw_below_drewN | apply below_drew1 | refine below_set ?_ GE141.out | refine below_set ?_ GE142.out) | exact HB.out)⟩⟩
                                · rw [if_neg c33] at H
                                  have c33b0 : (((rd_T138 l0 x16_2).f1) == 0) = false := beq_eq_false_iff_ne.mpr c33
                                  have c33b1 : (((rd_T138 l0 x16_2).f1) != 0) = true := bne_iff_ne.mpr c33
                                  have H' := Aside0.mk H
                                  clear H
                                  have hnb41 := NB142_141.out
                                  have hnc41 := NB141_142.out
                                  have hcz42_0 : wc.cell? ⟨gb142, 0, none⟩ = some (.int .i64 ((rd_T138 l0 x16_2).f0)) := (blk_cell BK142.out 0).trans rfl
                                  have hcz42_1 : wc.cell? ⟨gb142, 1, none⟩ = some (.int .i64 ((rd_T138 l0 x16_2).f1)) := (blk_cell BK142.out 1).trans rfl
                                  have hcz42_2 : wc.cell? ⟨gb142, 2, none⟩ = some (.int .i64 ((rd_T138 l0 x16_2).f2)) := (blk_cell BK142.out 2).trans rfl
                                  have hcz42_3 : wc.cell? ⟨gb142, 3, none⟩ = some (.int .i64 ((rd_T138 l0 x16_2).f3)) := (blk_cell BK142.out 3).trans rfl
                                  have hfz42_0 := blk_frozen BK142.out 0
                                  have hfz42_1 := blk_frozen BK142.out 1
                                  have hfz42_2 := blk_frozen BK142.out 2
                                  have hfz42_3 := blk_frozen BK142.out 3
                                  have hcz43_0 : wc.cell? ⟨gb141, 0, none⟩ = some (.int .i64 x16_2) := (blk_cell BK141.out 0).trans rfl
                                  have hfz43_0 := blk_frozen BK141.out 0
                                  go_wp2_with (first | (go_at_call 83; (with_reducible refine (same_Saying_1.calls ((rd_T138 l0 x16_2).f2) (decide (((rd_T138 l0 x16_2).f0) > 0)) gb141 x16_2 true _ ?side1 A21.out).mono ?_); (case side1 => exact (by (with_reducible repeat (first | refine blk_drewN ?_ _ | refine blk_drew ?_ | refine blk_alloc ?_ _)); exact BK141.out)); rintro e w' ⟨rfl, ⟨nd, rfl⟩⟩) | (go_at_call 83; (with_reducible refine (same_Saying_1.calls ((rd_T138 l0 x16_2).f3) (((rd_T138 l0 x16_2).f0) == 3) gb141 x16_2 true _ ?side1 A23.out).mono ?_); (case side1 => exact (by (with_reducible repeat (first | refine blk_drewN ?_ _ | refine blk_drew ?_ | refine blk_alloc ?_ _)); exact BK141.out)); rintro e w' ⟨rfl, ⟨nd, rfl⟩⟩))
                                  go_meet
                                  case rel => exact ⟨_, (true), (by first | rfl | (simp; done) | (simp [*]; done)), H', ⟨by have := HJ1.out; have := HK2.out; have := HJ7.out; first | omega | exact Nat.le_refl _⟩, ⟨by (with_reducible repeat (first | refine blk_drewN ?_ _ | refine blk_drew ?_ | refine blk_alloc ?_ _)); exact BK141.out⟩, ⟨by (with_reducible repeat (first | refine blk_drewN ?_ _ | refine blk_drew ?_ | refine blk_alloc ?_ _)); exact BK142.out⟩, ⟨by repeat (first | (with_reducible first | exact HB.out | apply below_alloc | apply pw_below_drewN | apply below_drew1 | refine below_set ?_ GE141.out | refine below_set ?_ GE142.out) | exact HB.out)⟩⟩
                            · replace c24 := Bool.eq_false_iff.mpr c24
                              subst c24
                              have H1 : (same_Saying.j3 kj7 l0 (l0.length : Int) x16_2 true) = some r := by rw [if_neg (show ¬ (false = true) by decide)] at H; exact H
                              clear H
                              have H := H1
                              clear H1
                              have H' := Aside0.mk H
                              clear H
                              have hnb44 := NB142_141.out
                              have hnc44 := NB141_142.out
                              have hcz45_0 : wc.cell? ⟨gb142, 0, none⟩ = some (.int .i64 ((rd_T138 l0 x16_2).f0)) := (blk_cell BK142.out 0).trans rfl
                              have hcz45_1 : wc.cell? ⟨gb142, 1, none⟩ = some (.int .i64 ((rd_T138 l0 x16_2).f1)) := (blk_cell BK142.out 1).trans rfl
                              have hcz45_2 : wc.cell? ⟨gb142, 2, none⟩ = some (.int .i64 ((rd_T138 l0 x16_2).f2)) := (blk_cell BK142.out 2).trans rfl
                              have hcz45_3 : wc.cell? ⟨gb142, 3, none⟩ = some (.int .i64 ((rd_T138 l0 x16_2).f3)) := (blk_cell BK142.out 3).trans rfl
                              have hfz45_0 := blk_frozen BK142.out 0
                              have hfz45_1 := blk_frozen BK142.out 1
                              have hfz45_2 := blk_frozen BK142.out 2
                              have hfz45_3 := blk_frozen BK142.out 3
                              have hcz46_0 : wc.cell? ⟨gb141, 0, none⟩ = some (.int .i64 x16_2) := (blk_cell BK141.out 0).trans rfl
                              have hfz46_0 := blk_frozen BK141.out 0
                              go_wp2_with (first | (go_at_call 83; (with_reducible refine (same_Saying_1.calls ((rd_T138 l0 x16_2).f2) (decide (((rd_T138 l0 x16_2).f0) > 0)) gb141 x16_2 true _ ?side1 A21.out).mono ?_); (case side1 => exact (by (with_reducible repeat (first | refine blk_drewN ?_ _ | refine blk_drew ?_ | refine blk_alloc ?_ _)); exact BK141.out)); rintro e w' ⟨rfl, ⟨nd, rfl⟩⟩) | (go_at_call 83; (with_reducible refine (same_Saying_1.calls ((rd_T138 l0 x16_2).f3) (((rd_T138 l0 x16_2).f0) == 3) gb141 x16_2 false _ ?side1 A23.out).mono ?_); (case side1 => exact (by (with_reducible repeat (first | refine blk_drewN ?_ _ | refine blk_drew ?_ | refine blk_alloc ?_ _)); exact BK141.out)); rintro e w' ⟨rfl, ⟨nd, rfl⟩⟩))
                              go_meet
                              case rel => exact ⟨_, (true), (by first | rfl | (simp; done) | (simp [*]; done)), H', ⟨by have := HJ1.out; have := HK2.out; have := HJ7.out; first | omega | exact Nat.le_refl _⟩, ⟨by (with_reducible repeat (first | refine blk_drewN ?_ _ | refine blk_drew ?_ | refine blk_alloc ?_ _)); exact BK141.out⟩, ⟨by (with_reducible repeat (first | refine blk_drewN ?_ _ | refine blk_drew ?_ | refine blk_alloc ?_ _)); exact BK142.out⟩, ⟨by repeat (first | (with_reducible first | exact HB.out | apply below_alloc | apply pw_below_drewN | apply below_drew1 | refine below_set ?_ GE141.out | refine below_set ?_ GE142.out) | exact HB.out)⟩⟩
                          · replace c22 := Bool.eq_false_iff.mpr c22
                            subst c22
                            have H1 : (same_Saying.j3 kj7 l0 (l0.length : Int) x16_2 true) = some r := by rw [if_neg (show ¬ (false = true) by decide)] at H; exact H
                            clear H
                            have H := H1
                            clear H1
                            have H' := Aside0.mk H
                            clear H
                            have hnb47 := NB142_141.out
                            have hnc47 := NB141_142.out
                            have hcz48_0 : wc.cell? ⟨gb142, 0, none⟩ = some (.int .i64 ((rd_T138 l0 x16_2).f0)) := (blk_cell BK142.out 0).trans rfl
                            have hcz48_1 : wc.cell? ⟨gb142, 1, none⟩ = some (.int .i64 ((rd_T138 l0 x16_2).f1)) := (blk_cell BK142.out 1).trans rfl
                            have hcz48_2 : wc.cell? ⟨gb142, 2, none⟩ = some (.int .i64 ((rd_T138 l0 x16_2).f2)) := (blk_cell BK142.out 2).trans rfl
                            have hcz48_3 : wc.cell? ⟨gb142, 3, none⟩ = some (.int .i64 ((rd_T138 l0 x16_2).f3)) := (blk_cell BK142.out 3).trans rfl
                            have hfz48_0 := blk_frozen BK142.out 0
                            have hfz48_1 := blk_frozen BK142.out 1
                            have hfz48_2 := blk_frozen BK142.out 2
                            have hfz48_3 := blk_frozen BK142.out 3
                            have hcz49_0 : wc.cell? ⟨gb141, 0, none⟩ = some (.int .i64 x16_2) := (blk_cell BK141.out 0).trans rfl
                            have hfz49_0 := blk_frozen BK141.out 0
                            go_wp2_with (first | (go_at_call 83; (with_reducible refine (same_Saying_1.calls ((rd_T138 l0 x16_2).f2) (decide (((rd_T138 l0 x16_2).f0) > 0)) gb141 x16_2 false _ ?side1 A21.out).mono ?_); (case side1 => exact (by (with_reducible repeat (first | refine blk_drewN ?_ _ | refine blk_drew ?_ | refine blk_alloc ?_ _)); exact BK141.out)); rintro e w' ⟨rfl, ⟨nd, rfl⟩⟩))
                            go_meet
                            case rel => exact ⟨_, (true), (by first | rfl | (simp; done) | (simp [*]; done)), H', ⟨by have := HJ1.out; have := HK2.out; have := HJ7.out; first | omega | exact Nat.le_refl _⟩, ⟨by (with_reducible repeat (first | refine blk_drewN ?_ _ | refine blk_drew ?_ | refine blk_alloc ?_ _)); exact BK141.out⟩, ⟨by (with_reducible repeat (first | refine blk_drewN ?_ _ | refine blk_drew ?_ | refine blk_alloc ?_ _)); exact BK142.out⟩, ⟨by repeat (first | (with_reducible first | exact HB.out | apply below_alloc | apply pw_below_drewN | apply below_drew1 | refine below_set ?_ GE141.out | refine below_set ?_ GE142.out) | exact HB.out)⟩⟩
                        case rest =>
                          clear HC20
                          try clear c1
                          try clear p1
                          try clear q1
                          try clear hx1
                          try clear c2
                          try clear p2
                          try clear c3
                          try clear c3b0
                          try clear c3b1
                          try clear c4
                          try clear c5
                          try clear c5b0
                          try clear c6
                          try clear c6b0
                          try clear c7
                          try clear c7b0
                          try clear c11
                          try clear c14
                          try clear c14b0
                          try clear p14
                          try clear q14
                          try clear hx14
                          try clear c15
                          try clear c17
                          try clear c19
                          try clear c22
                          try clear c23
                          try clear c24
                          try clear c25
                          try clear c25b0
                          try clear c25b1
                          try clear c26
                          try clear c26b0
                          try clear c27
                          try clear c30
                          try clear c33
                          try clear c33b0
                          try clear c33b1
                          try clear c34
                          try clear c34b0
                          try clear c35
                          try clear c38
                          try clear c41
                          try clear c44
                          try clear c47
                          try clear hcz12_0
                          try clear hcz13_0
                          try clear hcz13_1
                          try clear hcz13_2
                          try clear hcz13_3
                          try clear hcz16_0
                          try clear hcz16_1
                          try clear hcz16_2
                          try clear hcz16_3
                          try clear hcz18_0
                          try clear hcz18_1
                          try clear hcz18_2
                          try clear hcz18_3
                          try clear hcz28_0
                          try clear hcz28_1
                          try clear hcz28_2
                          try clear hcz28_3
                          try clear hcz29_0
                          try clear hcz31_0
                          try clear hcz31_1
                          try clear hcz31_2
                          try clear hcz31_3
                          try clear hcz32_0
                          try clear hcz36_0
                          try clear hcz36_1
                          try clear hcz36_2
                          try clear hcz36_3
                          try clear hcz37_0
                          try clear hcz39_0
                          try clear hcz39_1
                          try clear hcz39_2
                          try clear hcz39_3
                          try clear hcz40_0
                          try clear hcz42_0
                          try clear hcz42_1
                          try clear hcz42_2
                          try clear hcz42_3
                          try clear hcz43_0
                          try clear hcz45_0
                          try clear hcz45_1
                          try clear hcz45_2
                          try clear hcz45_3
                          try clear hcz46_0
                          try clear hcz48_0
                          try clear hcz48_1
                          try clear hcz48_2
                          try clear hcz48_3
                          try clear hcz49_0
                          try clear hfz12_0
                          try clear hfz13_0
                          try clear hfz13_1
                          try clear hfz13_2
                          try clear hfz13_3
                          try clear hfz16_0
                          try clear hfz16_1
                          try clear hfz16_2
                          try clear hfz16_3
                          try clear hfz18_0
                          try clear hfz18_1
                          try clear hfz18_2
                          try clear hfz18_3
                          try clear hfz28_0
                          try clear hfz28_1
                          try clear hfz28_2
                          try clear hfz28_3
                          try clear hfz29_0
                          try clear hfz31_0
                          try clear hfz31_1
                          try clear hfz31_2
                          try clear hfz31_3
                          try clear hfz32_0
                          try clear hfz36_0
                          try clear hfz36_1
                          try clear hfz36_2
                          try clear hfz36_3
                          try clear hfz37_0
                          try clear hfz39_0
                          try clear hfz39_1
                          try clear hfz39_2
                          try clear hfz39_3
                          try clear hfz40_0
                          try clear hfz42_0
                          try clear hfz42_1
                          try clear hfz42_2
                          try clear hfz42_3
                          try clear hfz43_0
                          try clear hfz45_0
                          try clear hfz45_1
                          try clear hfz45_2
                          try clear hfz45_3
                          try clear hfz46_0
                          try clear hfz48_0
                          try clear hfz48_1
                          try clear hfz48_2
                          try clear hfz48_3
                          try clear hfz49_0
                          try clear hx140_0
                          try clear hx140_1
                          try clear hx140_2
                          try clear hx140_3
                          try clear p1
                          try clear p14
                          try clear p140
                          try clear p2
                          try clear q1
                          try clear q14
                          try clear q140
                          obtain ⟨kq, x67_19, rfl, HA, HJ19, BK141, BK142, HB⟩ := hcut
                          cases kq with
                          | zero => exact absurd HA.out (by simp [same_Saying.j3])
                          | succ kj19 =>
                            have H := HA.out
                            clear HA
                            simp only [same_Saying.j3] at H
                            by_cases c50 : x67_19 = true
                            · subst c50
                              have H1 : (some 2) = some r := by rw [if_pos rfl] at H; exact H
                              clear H
                              have H := H1
                              clear H1
                              obtain rfl := Option.some.inj H
                              go_wp2
                              go_ret
                              exact ⟨by first | rfl | (simp [errW_none, errW_some] <;> rfl) | (simp [*, errW_none, errW_some] <;> rfl), by repeat (first | (with_reducible first | exact HB.out | apply below_alloc | apply pw_below_drewN | apply below_drew1 | refine below_set ?_ GE141.out | refine below_set ?_ GE142.out) | exact HB.out)⟩
                            · replace c50 := Bool.eq_false_iff.mpr c50
                              subst c50
                              have H1 : (same_Saying.l0 kj19 l0 (l0.length : Int) (wrap64 (x16_2 + 1))) = some r := by rw [if_neg (show ¬ (false = true) by decide)] at H; exact H
                              clear H
                              have H := H1
                              clear H1
                              have H' := Aside0.mk H
                              clear H
                              go_wp2
                              go_roundg kj19
                              case measure => have := HJ1.out; have := HK2.out; have := HJ7.out; have := HJ19.out; omega
                              case rel => exact ⟨(wrap64 (x16_2 + 1)), (by first | rfl | (simp; done) | (simp [*]; done)), H', ⟨by have := HJ1.out; have := HK2.out; have := HJ7.out; have := HJ19.out; omega⟩, ⟨by repeat (first | (with_reducible first | exact HB.out | apply below_alloc | apply pw_below_drewN | apply below_drew1 | refine below_set ?_ GE141.out | refine below_set ?_ GE142.out) | exact HB.out)⟩⟩
                · rw [if_neg c7] at H
                  exact absurd H (by simp)
              · rw [if_neg c6] at H
                exact absurd H (by simp)
            · rw [if_neg c5] at H
              have c5b0 : decide (x16_2 < (l0.length : Int)) = false := decide_eq_false c5
              clear c5
              obtain rfl := Option.some.inj H
              go_wp2
              go_ret
              exact ⟨by first | rfl | (simp [errW_none, errW_some] <;> rfl) | (simp [*, errW_none, errW_some] <;> rfl), by repeat (first | (with_reducible first | exact HB.out | apply below_alloc | apply pw_below_drewN | apply below_drew1) | exact HB.out)⟩

end Go.Proofs.Ytklkcdphcmimoaa.PSameHolds
