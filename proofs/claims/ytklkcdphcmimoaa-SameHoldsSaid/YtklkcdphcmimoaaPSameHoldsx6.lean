-- Printed over the kit's print by a program of this session (wip/hprint.py), with contracts of its own hand.
import Derived.Test.YtklkcdphcmimoaaPSameHoldsx0
namespace Go.Proofs.Ytklkcdphcmimoaa.PSameHolds
open Go.RowKit Go.Proofs.YtklkcdphcmimoaaW.PrintWords Go.Proofs.YtklkcdphcmimoaaW.PrintLast Go.Proofs.YtklkcdphcmimoaaW.PrintMore
attribute [local go_sem] max2_int min2_int max_two min_two max_three min_three max_four min_four   -- for this text's walks alone
set_option linter.unusedVariables false
set_option linter.unusedSimpArgs false

/-! ### evermoreref20_Saying: function 24 -/
mutual
def evermoreref20_Saying.j0 : Nat → List (S138) → Bool → Option (Int)
  | 0, _, _ => none
  | k + 1, x0, x15 => if x15 = true then (some 1) else (evermoreref20_Saying.l0 k x0 0)
def evermoreref20_Saying.l0 : Nat → List (S138) → Int → Option (Int)
  | 0, _, _ => none
  | k + 1, x0, x3 => if x3 < (x0.length : Int) then (if 0 ≤ x3 then (if ((rd_T138 x0 x3).f0) < 0 then (evermoreref20_Saying.j2 k x0 x3 true ((rd_T138 x0 x3).f0) ((rd_T138 x0 x3).f1) ((rd_T138 x0 x3).f2) ((rd_T138 x0 x3).f3)) else (evermoreref20_Saying.j2 k x0 x3 (decide (((rd_T138 x0 x3).f0) > 3)) ((rd_T138 x0 x3).f0) ((rd_T138 x0 x3).f1) ((rd_T138 x0 x3).f2) ((rd_T138 x0 x3).f3))) else (none)) else (some 0)
def evermoreref20_Saying.j2 : Nat → List (S138) → Int → Bool → Int → Int → Int → Int → Option (Int)
  | 0, _, _, _, _, _, _, _ => none
  | k + 1, x0, x3, x33, x147000, x147001, x147002, x147003 => if x33 = true then (some 3) else (if x147000 > 0 then (evermoreref20_Saying.j3 k x0 x3 x3 x147000 x147001 x147002 x147003) else (evermoreref20_Saying.j3 k x0 x3 1 x147000 x147001 x147002 x147003))
def evermoreref20_Saying.j3 : Nat → List (S138) → Int → Int → Int → Int → Int → Int → Option (Int)
  | 0, _, _, _, _, _, _, _ => none
  | k + 1, x0, x3, x5, x147000, x147001, x147002, x147003 => if x147000 = 3 then (evermoreref20_Saying.j4 k x0 x3 x5 x3 x147000 x147001 x147002 x147003) else (evermoreref20_Saying.j4 k x0 x3 x5 1 x147000 x147001 x147002 x147003)
def evermoreref20_Saying.j4 : Nat → List (S138) → Int → Int → Int → Int → Int → Int → Int → Option (Int)
  | 0, _, _, _, _, _, _, _, _ => none
  | k + 1, x0, x3, x5, x6, x147000, x147001, x147002, x147003 => if x147000 = 2 then (evermoreref20_Saying.j5 k x0 x3 x5 x6 4 x147000 x147001 x147002 x147003) else (evermoreref20_Saying.j5 k x0 x3 x5 x6 1 x147000 x147001 x147002 x147003)
def evermoreref20_Saying.j5 : Nat → List (S138) → Int → Int → Int → Int → Int → Int → Int → Int → Option (Int)
  | 0, _, _, _, _, _, _, _, _, _ => none
  | k + 1, x0, x3, x5, x6, x7, x147000, x147001, x147002, x147003 => if x147002 < 0 then (evermoreref20_Saying.j6 k x0 x3 true) else (if x147002 ≥ x5 then (evermoreref20_Saying.j6 k x0 x3 true) else (if x147003 < 0 then (evermoreref20_Saying.j6 k x0 x3 true) else (if x147003 ≥ x6 then (evermoreref20_Saying.j6 k x0 x3 true) else (if x147001 < 0 then (evermoreref20_Saying.j6 k x0 x3 true) else (evermoreref20_Saying.j6 k x0 x3 (decide (x147001 ≥ x7)))))))
def evermoreref20_Saying.j6 : Nat → List (S138) → Int → Bool → Option (Int)
  | 0, _, _, _ => none
  | k + 1, x0, x3, x75 => if x75 = true then (some 2) else (evermoreref20_Saying.l0 k x0 (wrap64 (x3 + 1)))
end
def evermoreref20_Saying.f (k : Nat) (l0 : List (S138)) : Option (Int) := if (l0.length : Int) < 1 then (evermoreref20_Saying.j0 k l0 true) else (evermoreref20_Saying.j0 k l0 (decide ((l0.length : Int) > 3000)))
theorem evermoreref20_Saying.mono_l : ∀ k, (∀ y0 y1, LeO (evermoreref20_Saying.j0 k y0 y1) (evermoreref20_Saying.j0 (k + 1) y0 y1)) ∧ (∀ y0 y1, LeO (evermoreref20_Saying.l0 k y0 y1) (evermoreref20_Saying.l0 (k + 1) y0 y1)) ∧ (∀ y0 y1 y2 y3 y4 y5 y6, LeO (evermoreref20_Saying.j2 k y0 y1 y2 y3 y4 y5 y6) (evermoreref20_Saying.j2 (k + 1) y0 y1 y2 y3 y4 y5 y6)) ∧ (∀ y0 y1 y2 y3 y4 y5 y6, LeO (evermoreref20_Saying.j3 k y0 y1 y2 y3 y4 y5 y6) (evermoreref20_Saying.j3 (k + 1) y0 y1 y2 y3 y4 y5 y6)) ∧ (∀ y0 y1 y2 y3 y4 y5 y6 y7, LeO (evermoreref20_Saying.j4 k y0 y1 y2 y3 y4 y5 y6 y7) (evermoreref20_Saying.j4 (k + 1) y0 y1 y2 y3 y4 y5 y6 y7)) ∧ (∀ y0 y1 y2 y3 y4 y5 y6 y7 y8, LeO (evermoreref20_Saying.j5 k y0 y1 y2 y3 y4 y5 y6 y7 y8) (evermoreref20_Saying.j5 (k + 1) y0 y1 y2 y3 y4 y5 y6 y7 y8)) ∧ (∀ y0 y1 y2, LeO (evermoreref20_Saying.j6 k y0 y1 y2) (evermoreref20_Saying.j6 (k + 1) y0 y1 y2))
  | 0 => ⟨fun _ _ r h => by simp [evermoreref20_Saying.j0] at h, fun _ _ r h => by simp [evermoreref20_Saying.l0] at h, fun _ _ _ _ _ _ _ r h => by simp [evermoreref20_Saying.j2] at h, fun _ _ _ _ _ _ _ r h => by simp [evermoreref20_Saying.j3] at h, fun _ _ _ _ _ _ _ _ r h => by simp [evermoreref20_Saying.j4] at h, fun _ _ _ _ _ _ _ _ _ r h => by simp [evermoreref20_Saying.j5] at h, fun _ _ _ r h => by simp [evermoreref20_Saying.j6] at h⟩
  | k + 1 => by
    obtain ⟨ih0, ih1, ih2, ih3, ih4, ih5, ih6⟩ := evermoreref20_Saying.mono_l k
    refine ⟨?_, ?_, ?_, ?_, ?_, ?_, ?_⟩
    · intro y0 y1
      unfold evermoreref20_Saying.j0
      repeat' first
      | (with_reducible exact ih0 _ _)
      | (with_reducible exact ih1 _ _)
      | (with_reducible exact ih2 _ _ _ _ _ _ _)
      | (with_reducible exact ih3 _ _ _ _ _ _ _)
      | (with_reducible exact ih4 _ _ _ _ _ _ _ _)
      | (with_reducible exact ih5 _ _ _ _ _ _ _ _ _)
      | (with_reducible exact ih6 _ _ _)
      | (with_reducible exact LeO.refl _)
      | (with_reducible exact LeO.none _)
      | (with_reducible refine LeO.ite ?_ ?_)
      | (with_reducible refine LeO.bind ?_ (fun _ => ?_))
      | exact ih0 _ _
      | exact ih1 _ _
      | exact ih2 _ _ _ _ _ _ _
      | exact ih3 _ _ _ _ _ _ _
      | exact ih4 _ _ _ _ _ _ _ _
      | exact ih5 _ _ _ _ _ _ _ _ _
      | exact ih6 _ _ _
      | exact LeO.none _
      | refine LeO.ite ?_ ?_
      | refine LeO.bind ?_ (fun _ => ?_)
    · intro y0 y1
      unfold evermoreref20_Saying.l0
      repeat' first
      | (with_reducible exact ih0 _ _)
      | (with_reducible exact ih1 _ _)
      | (with_reducible exact ih2 _ _ _ _ _ _ _)
      | (with_reducible exact ih3 _ _ _ _ _ _ _)
      | (with_reducible exact ih4 _ _ _ _ _ _ _ _)
      | (with_reducible exact ih5 _ _ _ _ _ _ _ _ _)
      | (with_reducible exact ih6 _ _ _)
      | (with_reducible exact LeO.refl _)
      | (with_reducible exact LeO.none _)
      | (with_reducible refine LeO.ite ?_ ?_)
      | (with_reducible refine LeO.bind ?_ (fun _ => ?_))
      | exact ih0 _ _
      | exact ih1 _ _
      | exact ih2 _ _ _ _ _ _ _
      | exact ih3 _ _ _ _ _ _ _
      | exact ih4 _ _ _ _ _ _ _ _
      | exact ih5 _ _ _ _ _ _ _ _ _
      | exact ih6 _ _ _
      | exact LeO.none _
      | refine LeO.ite ?_ ?_
      | refine LeO.bind ?_ (fun _ => ?_)
    · intro y0 y1 y2 y3 y4 y5 y6
      unfold evermoreref20_Saying.j2
      repeat' first
      | (with_reducible exact ih0 _ _)
      | (with_reducible exact ih1 _ _)
      | (with_reducible exact ih2 _ _ _ _ _ _ _)
      | (with_reducible exact ih3 _ _ _ _ _ _ _)
      | (with_reducible exact ih4 _ _ _ _ _ _ _ _)
      | (with_reducible exact ih5 _ _ _ _ _ _ _ _ _)
      | (with_reducible exact ih6 _ _ _)
      | (with_reducible exact LeO.refl _)
      | (with_reducible exact LeO.none _)
      | (with_reducible refine LeO.ite ?_ ?_)
      | (with_reducible refine LeO.bind ?_ (fun _ => ?_))
      | exact ih0 _ _
      | exact ih1 _ _
      | exact ih2 _ _ _ _ _ _ _
      | exact ih3 _ _ _ _ _ _ _
      | exact ih4 _ _ _ _ _ _ _ _
      | exact ih5 _ _ _ _ _ _ _ _ _
      | exact ih6 _ _ _
      | exact LeO.none _
      | refine LeO.ite ?_ ?_
      | refine LeO.bind ?_ (fun _ => ?_)
    · intro y0 y1 y2 y3 y4 y5 y6
      unfold evermoreref20_Saying.j3
      repeat' first
      | (with_reducible exact ih0 _ _)
      | (with_reducible exact ih1 _ _)
      | (with_reducible exact ih2 _ _ _ _ _ _ _)
      | (with_reducible exact ih3 _ _ _ _ _ _ _)
      | (with_reducible exact ih4 _ _ _ _ _ _ _ _)
      | (with_reducible exact ih5 _ _ _ _ _ _ _ _ _)
      | (with_reducible exact ih6 _ _ _)
      | (with_reducible exact LeO.refl _)
      | (with_reducible exact LeO.none _)
      | (with_reducible refine LeO.ite ?_ ?_)
      | (with_reducible refine LeO.bind ?_ (fun _ => ?_))
      | exact ih0 _ _
      | exact ih1 _ _
      | exact ih2 _ _ _ _ _ _ _
      | exact ih3 _ _ _ _ _ _ _
      | exact ih4 _ _ _ _ _ _ _ _
      | exact ih5 _ _ _ _ _ _ _ _ _
      | exact ih6 _ _ _
      | exact LeO.none _
      | refine LeO.ite ?_ ?_
      | refine LeO.bind ?_ (fun _ => ?_)
    · intro y0 y1 y2 y3 y4 y5 y6 y7
      unfold evermoreref20_Saying.j4
      repeat' first
      | (with_reducible exact ih0 _ _)
      | (with_reducible exact ih1 _ _)
      | (with_reducible exact ih2 _ _ _ _ _ _ _)
      | (with_reducible exact ih3 _ _ _ _ _ _ _)
      | (with_reducible exact ih4 _ _ _ _ _ _ _ _)
      | (with_reducible exact ih5 _ _ _ _ _ _ _ _ _)
      | (with_reducible exact ih6 _ _ _)
      | (with_reducible exact LeO.refl _)
      | (with_reducible exact LeO.none _)
      | (with_reducible refine LeO.ite ?_ ?_)
      | (with_reducible refine LeO.bind ?_ (fun _ => ?_))
      | exact ih0 _ _
      | exact ih1 _ _
      | exact ih2 _ _ _ _ _ _ _
      | exact ih3 _ _ _ _ _ _ _
      | exact ih4 _ _ _ _ _ _ _ _
      | exact ih5 _ _ _ _ _ _ _ _ _
      | exact ih6 _ _ _
      | exact LeO.none _
      | refine LeO.ite ?_ ?_
      | refine LeO.bind ?_ (fun _ => ?_)
    · intro y0 y1 y2 y3 y4 y5 y6 y7 y8
      unfold evermoreref20_Saying.j5
      repeat' first
      | (with_reducible exact ih0 _ _)
      | (with_reducible exact ih1 _ _)
      | (with_reducible exact ih2 _ _ _ _ _ _ _)
      | (with_reducible exact ih3 _ _ _ _ _ _ _)
      | (with_reducible exact ih4 _ _ _ _ _ _ _ _)
      | (with_reducible exact ih5 _ _ _ _ _ _ _ _ _)
      | (with_reducible exact ih6 _ _ _)
      | (with_reducible exact LeO.refl _)
      | (with_reducible exact LeO.none _)
      | (with_reducible refine LeO.ite ?_ ?_)
      | (with_reducible refine LeO.bind ?_ (fun _ => ?_))
      | exact ih0 _ _
      | exact ih1 _ _
      | exact ih2 _ _ _ _ _ _ _
      | exact ih3 _ _ _ _ _ _ _
      | exact ih4 _ _ _ _ _ _ _ _
      | exact ih5 _ _ _ _ _ _ _ _ _
      | exact ih6 _ _ _
      | exact LeO.none _
      | refine LeO.ite ?_ ?_
      | refine LeO.bind ?_ (fun _ => ?_)
    · intro y0 y1 y2
      unfold evermoreref20_Saying.j6
      repeat' first
      | (with_reducible exact ih0 _ _)
      | (with_reducible exact ih1 _ _)
      | (with_reducible exact ih2 _ _ _ _ _ _ _)
      | (with_reducible exact ih3 _ _ _ _ _ _ _)
      | (with_reducible exact ih4 _ _ _ _ _ _ _ _)
      | (with_reducible exact ih5 _ _ _ _ _ _ _ _ _)
      | (with_reducible exact ih6 _ _ _)
      | (with_reducible exact LeO.refl _)
      | (with_reducible exact LeO.none _)
      | (with_reducible refine LeO.ite ?_ ?_)
      | (with_reducible refine LeO.bind ?_ (fun _ => ?_))
      | exact ih0 _ _
      | exact ih1 _ _
      | exact ih2 _ _ _ _ _ _ _
      | exact ih3 _ _ _ _ _ _ _
      | exact ih4 _ _ _ _ _ _ _ _
      | exact ih5 _ _ _ _ _ _ _ _ _
      | exact ih6 _ _ _
      | exact LeO.none _
      | refine LeO.ite ?_ ?_
      | refine LeO.bind ?_ (fun _ => ?_)
theorem evermoreref20_Saying.mono : ∀ a0 k, LeO (evermoreref20_Saying.f k a0) (evermoreref20_Saying.f (k + 1) a0) := by
  intro a0 k
  obtain ⟨ih0, ih1, ih2, ih3, ih4, ih5, ih6⟩ := evermoreref20_Saying.mono_l k
  unfold evermoreref20_Saying.f
  repeat' first
      | (with_reducible exact ih0 _ _)
      | (with_reducible exact ih1 _ _)
      | (with_reducible exact ih2 _ _ _ _ _ _ _)
      | (with_reducible exact ih3 _ _ _ _ _ _ _)
      | (with_reducible exact ih4 _ _ _ _ _ _ _ _)
      | (with_reducible exact ih5 _ _ _ _ _ _ _ _ _)
      | (with_reducible exact ih6 _ _ _)
      | (with_reducible exact LeO.refl _)
      | (with_reducible exact LeO.none _)
      | (with_reducible refine LeO.ite ?_ ?_)
      | (with_reducible refine LeO.bind ?_ (fun _ => ?_))
      | exact ih0 _ _
      | exact ih1 _ _
      | exact ih2 _ _ _ _ _ _ _
      | exact ih3 _ _ _ _ _ _ _
      | exact ih4 _ _ _ _ _ _ _ _
      | exact ih5 _ _ _ _ _ _ _ _ _
      | exact ih6 _ _ _
      | exact LeO.none _
      | refine LeO.ite ?_ ?_
      | refine LeO.bind ?_ (fun _ => ?_)
set_option maxHeartbeats 8000000 in
set_option maxRecDepth 100000 in
theorem evermoreref20_Saying.calls (k : Nat) (A0 : Option Addr) (c0 : Nat) (l0 : List (S138)) (r : Int) (w : World) (hr0 : Kd.C k138 w A0 l0.length l0) (hc0 : l0.length ≤ c0) (h : evermoreref20_Saying.f k l0 = some r) :
    Calls Try.prog 24 #[.slice A0 l0.length c0] w fun e w' => e = .returned (.int .i64 r) ∧ Below w.heap.size w w' := by
  have hu138 := Try.underlying138
  have HR0 := Aside0.mk hr0
  have HC0 := Aside0.mk hc0
  clear hr0 hc0
  have HB := Aside0.mk (Below.refl w.heap.size w)
  have H : (if (l0.length : Int) < 1 then (evermoreref20_Saying.j0 k l0 true) else (evermoreref20_Saying.j0 k l0 (decide ((l0.length : Int) > 3000)))) = some r := h
  clear h
  have HC2 := Aside0.mk H
  clear H
  go_enter Try.func24, Try.ntmps24
  go_upto_region 1 with (fail)
  go_cut [15] (fun v15 wc => ∃ (kq : Nat) (x15_1 : Bool), v15 = .bool x15_1 ∧ Aside0 (evermoreref20_Saying.j0 kq l0 x15_1 = some r) ∧ Aside0 (kq ≤ k) ∧ Aside0 (Below w.heap.size w wc))
  case first =>
    have H := HC2.out
    clear HC2
    by_cases c3 : (l0.length : Int) < 1
    · rw [if_pos c3] at H
      have c3b0 : decide ((l0.length : Int) < 1) = true := decide_eq_true c3
      have c3b1 : decide (l0.length < 1) = true := decide_eq_true (by omega)
      clear c3
      (first | rw [c3b0] | (simp only [i64_w, i32_w]; rw [c3b0]) | skip)
      have H' := Aside0.mk H
      clear H
      go_wp2
      go_meet
      case rel => exact ⟨_, (true), (by first | rfl | (simp; done) | (simp [*]; done)), H', ⟨by first | omega | exact Nat.le_refl _⟩, ⟨by repeat (first | (with_reducible first | exact HB.out | apply below_alloc | apply pw_below_drewN | apply below_drew1) | exact HB.out)⟩⟩
    · rw [if_neg c3] at H
      have c3b0 : decide ((l0.length : Int) < 1) = false := decide_eq_false c3
      have c3b1 : decide (l0.length < 1) = false := decide_eq_false (by omega)
      clear c3
      (first | rw [c3b0] | (simp only [i64_w, i32_w]; rw [c3b0]) | skip)
      have H' := Aside0.mk H
      clear H
      go_wp2
      go_meet
      case rel => exact ⟨_, (decide ((l0.length : Int) > 3000)), (by first | rfl | (simp; done) | (simp [*]; done)), H', ⟨by first | omega | exact Nat.le_refl _⟩, ⟨by repeat (first | (with_reducible first | exact HB.out | apply below_alloc | apply pw_below_drewN | apply below_drew1) | exact HB.out)⟩⟩
  case rest =>
    clear HC2
    try clear c2
    try clear p2
    try clear c3
    try clear c3b0
    try clear c3b1
    obtain ⟨kq, x15_1, rfl, HA, HJ1, HB⟩ := hcut
    cases kq with
    | zero => exact absurd HA.out (by simp [evermoreref20_Saying.j0])
    | succ kj1 =>
      have H := HA.out
      clear HA
      simp only [evermoreref20_Saying.j0] at H
      by_cases c4 : x15_1 = true
      · subst c4
        have H1 : (some 1) = some r := by rw [if_pos rfl] at H; exact H
        clear H
        have H := H1
        clear H1
        obtain rfl := Option.some.inj H
        go_wp2
        go_ret
        exact ⟨by first | rfl | (simp [errW_none, errW_some] <;> rfl) | (simp [*, errW_none, errW_some] <;> rfl), by repeat (first | (with_reducible first | exact HB.out | apply below_alloc | apply pw_below_drewN | apply below_drew1) | exact HB.out)⟩
      · replace c4 := Bool.eq_false_iff.mpr c4
        subst c4
        have H1 : (evermoreref20_Saying.l0 kj1 l0 0) = some r := by rw [if_neg (show ¬ (false = true) by decide)] at H; exact H
        clear H
        have H := H1
        clear H1
        have H' := Aside0.mk H
        clear H
        go_wp2
        go_loopg [3] kj1 (fun kq v3 w' => ∃ (x3_2 : Int), v3 = .int .i64 x3_2 ∧ Aside0 (evermoreref20_Saying.l0 kq l0 x3_2 = some r) ∧ Aside0 (kq ≤ kj1) ∧ Aside0 (Below w.heap.size w w'))
        case atStart => exact ⟨(0), (by first | rfl | (simp; done) | (simp [*]; done)), H', ⟨Nat.le_refl _⟩, ⟨by repeat (first | (with_reducible first | exact HB.out | apply below_alloc | apply pw_below_drewN | apply below_drew1) | exact HB.out)⟩⟩
        case round =>
          clear H'
          try clear c2
          try clear p2
          try clear c3
          try clear c3b0
          try clear c3b1
          try clear c4
          try clear p2
          obtain ⟨x3_2, rfl, HA, HK2, HB⟩ := hrel
          cases gk with
          | zero => exact absurd HA.out (by simp [evermoreref20_Saying.l0])
          | succ k2 =>
            have H := HA.out
            clear HA
            simp only [evermoreref20_Saying.l0] at H
            by_cases c5 : x3_2 < (l0.length : Int)
            · rw [if_pos c5] at H
              have c5b0 : decide (x3_2 < (l0.length : Int)) = true := decide_eq_true c5
              clear c5
              by_cases c6 : 0 ≤ x3_2
              · rw [if_pos c6] at H
                have c6b0 : decide (0 ≤ x3_2) = true := decide_eq_true c6
                clear c6
                have HC7 := Aside0.mk H
                clear H
                have p145 : 0 ≤ (x3_2 : Int) := of_decide_eq_true (by first | (with_reducible assumption) | assumption)
                have q145 : x3_2 < (l0.length : Int) := of_decide_eq_true (by first | (with_reducible assumption) | assumption)
                obtain ⟨ad145, e145, hx145_0, hx145_1, hx145_2, hx145_3⟩ := at_T138 HR0.out x3_2 p145 q145
                cases e145
                replace hx145_0 := (HB.out.cell (World.block_lt_of_cell? w _ hx145_0)).trans hx145_0
                replace hx145_1 := (HB.out.cell (World.block_lt_of_cell? w _ hx145_1)).trans hx145_1
                replace hx145_2 := (HB.out.cell (World.block_lt_of_cell? w _ hx145_2)).trans hx145_2
                replace hx145_3 := (HB.out.cell (World.block_lt_of_cell? w _ hx145_3)).trans hx145_3
                replace p145 := eq_true p145
                replace q145 := eq_true q145
                go_upto_region 7 with (first | ((with_reducible refine gate_dst (N := 4) rfl ?_); (try (refine gate_guard (by rfl) ?_; dsimp only)); refine box_event ?hg (N := 4) ?hd (cs := #[.int .i64 0, .int .i64 0, .int .i64 0, .int .i64 0]) (t := 138) ?hr ?_; (case hd => rfl); (case hg => rfl); (case hr => first | (go_simp; done) | (go_simp; rfl)); intro gb146 hg w8 hbox hb; have n0_ := Aside0.mk (below_step (by repeat (first | (with_reducible first | exact HB.out | apply below_alloc | apply pw_below_drewN | apply below_drew1) | exact HB.out)) hb); have n1_ := Aside0.mk (hbox); have n2_ := Aside0.mk ((by rw [hg]; exact (below_size (by repeat (first | (with_reducible first | exact HB.out | apply below_alloc | apply pw_below_drewN | apply below_drew1) | exact HB.out))) : w.heap.size ≤ gb146)); have n3_ := Aside0.mk ((by rw [hg]; exact (below_size (by repeat (first | (with_reducible first | exact HB.out | apply below_alloc | apply pw_below_drewN | apply below_drew1) | exact HB.out))) : w.heap.size ≤ gb146)); clear HB; have HB := n0_; have BK146 := n1_; have GW146 := n2_; have GE146 := n3_; clear n0_ n1_ n2_ n3_; clear hb hbox hg; have hcz9_0 : w8.cell? ⟨gb146, 0, none⟩ = some (.int .i64 0) := (blk_cell BK146.out 0).trans rfl; have hcz9_1 : w8.cell? ⟨gb146, 1, none⟩ = some (.int .i64 0) := (blk_cell BK146.out 1).trans rfl; have hcz9_2 : w8.cell? ⟨gb146, 2, none⟩ = some (.int .i64 0) := (blk_cell BK146.out 2).trans rfl; have hcz9_3 : w8.cell? ⟨gb146, 3, none⟩ = some (.int .i64 0) := (blk_cell BK146.out 3).trans rfl; have hfz9_0 := blk_frozen BK146.out 0; have hfz9_1 := blk_frozen BK146.out 1; have hfz9_2 := blk_frozen BK146.out 2; have hfz9_3 := blk_frozen BK146.out 3))
                (try simp only [Act.put, List.setIfInBounds_toArray, List.set_cons_zero, List.set_cons_succ])
                go_cut [33] (fun v33 wc => ∃ (kq : Nat) (x33_6 : Bool), v33 = .bool x33_6 ∧ Aside0 (evermoreref20_Saying.j2 kq l0 x3_2 x33_6 ((rd_T138 l0 x3_2).f0) ((rd_T138 l0 x3_2).f1) ((rd_T138 l0 x3_2).f2) ((rd_T138 l0 x3_2).f3) = some r) ∧ Aside0 (kq ≤ k2) ∧ Aside0 (wc.heap[gb146]? = some (.cells #[.int .i64 ((rd_T138 l0 x3_2).f0), .int .i64 ((rd_T138 l0 x3_2).f1), .int .i64 ((rd_T138 l0 x3_2).f2), .int .i64 ((rd_T138 l0 x3_2).f3)] 138 (0, 0))) ∧ Aside0 (Below w.heap.size w wc))
                case first =>
                  have H := HC7.out
                  clear HC7
                  by_cases c10 : ((rd_T138 l0 x3_2).f0) < 0
                  · rw [if_pos c10] at H
                    have c10b0 : decide (((rd_T138 l0 x3_2).f0) < 0) = true := decide_eq_true c10
                    clear c10
                    (first | rw [c10b0] | (simp only [i64_w, i32_w]; rw [c10b0]) | skip)
                    have H' := Aside0.mk H
                    clear H
                    have hcz11_0 : w8.cell? ⟨gb146, 0, none⟩ = some (.int .i64 0) := (blk_cell BK146.out 0).trans rfl
                    have hcz11_1 : w8.cell? ⟨gb146, 1, none⟩ = some (.int .i64 0) := (blk_cell BK146.out 1).trans rfl
                    have hcz11_2 : w8.cell? ⟨gb146, 2, none⟩ = some (.int .i64 0) := (blk_cell BK146.out 2).trans rfl
                    have hcz11_3 : w8.cell? ⟨gb146, 3, none⟩ = some (.int .i64 0) := (blk_cell BK146.out 3).trans rfl
                    have hfz11_0 := blk_frozen BK146.out 0
                    have hfz11_1 := blk_frozen BK146.out 1
                    have hfz11_2 := blk_frozen BK146.out 2
                    have hfz11_3 := blk_frozen BK146.out 3
                    go_wp2
                    go_meet
                    case rel => exact ⟨_, (true), (by first | rfl | (simp; done) | (simp [*]; done)), H', ⟨by have := HJ1.out; have := HK2.out; first | omega | exact Nat.le_refl _⟩, ⟨by (with_reducible repeat (first | refine blk_drewN ?_ _ | refine blk_drew ?_ | refine blk_alloc ?_ _)); refine blk_put (cs := #[.int .i64 ((rd_T138 l0 x3_2).f0), .int .i64 ((rd_T138 l0 x3_2).f1), .int .i64 ((rd_T138 l0 x3_2).f2), .int .i64 0]) ?_ 3 _ rfl; (with_reducible repeat (first | refine blk_drewN ?_ _ | refine blk_drew ?_ | refine blk_alloc ?_ _)); refine blk_put (cs := #[.int .i64 ((rd_T138 l0 x3_2).f0), .int .i64 ((rd_T138 l0 x3_2).f1), .int .i64 0, .int .i64 0]) ?_ 2 _ rfl; (with_reducible repeat (first | refine blk_drewN ?_ _ | refine blk_drew ?_ | refine blk_alloc ?_ _)); refine blk_put (cs := #[.int .i64 ((rd_T138 l0 x3_2).f0), .int .i64 0, .int .i64 0, .int .i64 0]) ?_ 1 _ rfl; (with_reducible repeat (first | refine blk_drewN ?_ _ | refine blk_drew ?_ | refine blk_alloc ?_ _)); refine blk_put (cs := #[.int .i64 0, .int .i64 0, .int .i64 0, .int .i64 0]) ?_ 0 _ rfl; (with_reducible repeat (first | refine blk_drewN ?_ _ | refine blk_drew ?_ | refine blk_alloc ?_ _)); exact BK146.out⟩, ⟨by repeat (first | (with_reducible first | exact HB.out | apply below_alloc | apply pw_below_drewN | apply below_drew1 | refine below_set ?_ GE146.out) | exact HB.out)⟩⟩
                  · rw [if_neg c10] at H
                    have c10b0 : decide (((rd_T138 l0 x3_2).f0) < 0) = false := decide_eq_false c10
                    clear c10
                    (first | rw [c10b0] | (simp only [i64_w, i32_w]; rw [c10b0]) | skip)
                    have H' := Aside0.mk H
                    clear H
                    have hcz12_0 : w8.cell? ⟨gb146, 0, none⟩ = some (.int .i64 0) := (blk_cell BK146.out 0).trans rfl
                    have hcz12_1 : w8.cell? ⟨gb146, 1, none⟩ = some (.int .i64 0) := (blk_cell BK146.out 1).trans rfl
                    have hcz12_2 : w8.cell? ⟨gb146, 2, none⟩ = some (.int .i64 0) := (blk_cell BK146.out 2).trans rfl
                    have hcz12_3 : w8.cell? ⟨gb146, 3, none⟩ = some (.int .i64 0) := (blk_cell BK146.out 3).trans rfl
                    have hfz12_0 := blk_frozen BK146.out 0
                    have hfz12_1 := blk_frozen BK146.out 1
                    have hfz12_2 := blk_frozen BK146.out 2
                    have hfz12_3 := blk_frozen BK146.out 3
                    go_wp2
                    go_meet
                    case rel => exact ⟨_, (decide (((rd_T138 l0 x3_2).f0) > 3)), (by first | rfl | (simp; done) | (simp [*]; done)), H', ⟨by have := HJ1.out; have := HK2.out; first | omega | exact Nat.le_refl _⟩, ⟨by (with_reducible repeat (first | refine blk_drewN ?_ _ | refine blk_drew ?_ | refine blk_alloc ?_ _)); refine blk_put (cs := #[.int .i64 ((rd_T138 l0 x3_2).f0), .int .i64 ((rd_T138 l0 x3_2).f1), .int .i64 ((rd_T138 l0 x3_2).f2), .int .i64 0]) ?_ 3 _ rfl; (with_reducible repeat (first | refine blk_drewN ?_ _ | refine blk_drew ?_ | refine blk_alloc ?_ _)); refine blk_put (cs := #[.int .i64 ((rd_T138 l0 x3_2).f0), .int .i64 ((rd_T138 l0 x3_2).f1), .int .i64 0, .int .i64 0]) ?_ 2 _ rfl; (with_reducible repeat (first | refine blk_drewN ?_ _ | refine blk_drew ?_ | refine blk_alloc ?_ _)); refine blk_put (cs := #[.int .i64 ((rd_T138 l0 x3_2).f0), .int .i64 0, .int .i64 0, .int .i64 0]) ?_ 1 _ rfl; (with_reducible repeat (first | refine blk_drewN ?_ _ | refine blk_drew ?_ | refine blk_alloc ?_ _)); refine blk_put (cs := #[.int .i64 0, .int .i64 0, .int .i64 0, .int .i64 0]) ?_ 0 _ rfl; (with_reducible repeat (first | refine blk_drewN ?_ _ | refine blk_drew ?_ | refine blk_alloc ?_ _)); exact BK146.out⟩, ⟨by repeat (first | (with_reducible first | exact HB.out | apply below_alloc | apply pw_below_drewN | apply below_drew1 | refine below_set ?_ GE146.out) | exact HB.out)⟩⟩
                case rest =>
                  clear HC7
                  try clear c1
                  try clear p1
                  try clear q1
                  try clear hx1
                  try clear c2
                  try clear p2
                  try clear c3
                  try clear c3b0
                  try clear c3b1
                  try clear c4
                  try clear c5
                  try clear c5b0
                  try clear c6
                  try clear c6b0
                  try clear c10
                  try clear c10b0
                  try clear hcz11_0
                  try clear hcz11_1
                  try clear hcz11_2
                  try clear hcz11_3
                  try clear hcz12_0
                  try clear hcz12_1
                  try clear hcz12_2
                  try clear hcz12_3
                  try clear hcz9_0
                  try clear hcz9_1
                  try clear hcz9_2
                  try clear hcz9_3
                  try clear hfz11_0
                  try clear hfz11_1
                  try clear hfz11_2
                  try clear hfz11_3
                  try clear hfz12_0
                  try clear hfz12_1
                  try clear hfz12_2
                  try clear hfz12_3
                  try clear hfz9_0
                  try clear hfz9_1
                  try clear hfz9_2
                  try clear hfz9_3
                  try clear hx145_0
                  try clear hx145_1
                  try clear hx145_2
                  try clear hx145_3
                  try clear p145
                  try clear p2
                  try clear q145
                  obtain ⟨kq, x33_6, rfl, HA, HJ6, BK146, HB⟩ := hcut
                  cases kq with
                  | zero => exact absurd HA.out (by simp [evermoreref20_Saying.j2])
                  | succ kj6 =>
                    have H := HA.out
                    clear HA
                    simp only [evermoreref20_Saying.j2] at H
                    by_cases c13 : x33_6 = true
                    · subst c13
                      have H1 : (some 3) = some r := by rw [if_pos rfl] at H; exact H
                      clear H
                      have H := H1
                      clear H1
                      obtain rfl := Option.some.inj H
                      go_wp2
                      go_ret
                      exact ⟨by first | rfl | (simp [errW_none, errW_some] <;> rfl) | (simp [*, errW_none, errW_some] <;> rfl), by repeat (first | (with_reducible first | exact HB.out | apply below_alloc | apply pw_below_drewN | apply below_drew1 | refine below_set ?_ GE146.out) | exact HB.out)⟩
                    · replace c13 := Bool.eq_false_iff.mpr c13
                      subst c13
                      have H1 : (if ((rd_T138 l0 x3_2).f0) > 0 then (evermoreref20_Saying.j3 kj6 l0 x3_2 x3_2 ((rd_T138 l0 x3_2).f0) ((rd_T138 l0 x3_2).f1) ((rd_T138 l0 x3_2).f2) ((rd_T138 l0 x3_2).f3)) else (evermoreref20_Saying.j3 kj6 l0 x3_2 1 ((rd_T138 l0 x3_2).f0) ((rd_T138 l0 x3_2).f1) ((rd_T138 l0 x3_2).f2) ((rd_T138 l0 x3_2).f3))) = some r := by rw [if_neg (show ¬ (false = true) by decide)] at H; exact H
                      clear H
                      have H := H1
                      clear H1
                      have HC14 := Aside0.mk H
                      clear H
                      have hcz15_0 : wc.cell? ⟨gb146, 0, none⟩ = some (.int .i64 ((rd_T138 l0 x3_2).f0)) := (blk_cell BK146.out 0).trans rfl
                      have hcz15_1 : wc.cell? ⟨gb146, 1, none⟩ = some (.int .i64 ((rd_T138 l0 x3_2).f1)) := (blk_cell BK146.out 1).trans rfl
                      have hcz15_2 : wc.cell? ⟨gb146, 2, none⟩ = some (.int .i64 ((rd_T138 l0 x3_2).f2)) := (blk_cell BK146.out 2).trans rfl
                      have hcz15_3 : wc.cell? ⟨gb146, 3, none⟩ = some (.int .i64 ((rd_T138 l0 x3_2).f3)) := (blk_cell BK146.out 3).trans rfl
                      have hfz15_0 := blk_frozen BK146.out 0
                      have hfz15_1 := blk_frozen BK146.out 1
                      have hfz15_2 := blk_frozen BK146.out 2
                      have hfz15_3 := blk_frozen BK146.out 3
                      go_upto_if 36 with (fail)
                      go_cut [5] (fun v5 wc => ∃ (kq : Nat) (x5_13 : Int), v5 = .int .i64 x5_13 ∧ Aside0 (evermoreref20_Saying.j3 kq l0 x3_2 x5_13 ((rd_T138 l0 x3_2).f0) ((rd_T138 l0 x3_2).f1) ((rd_T138 l0 x3_2).f2) ((rd_T138 l0 x3_2).f3) = some r) ∧ Aside0 (kq ≤ kj6) ∧ Aside0 (wc.heap[gb146]? = some (.cells #[.int .i64 ((rd_T138 l0 x3_2).f0), .int .i64 ((rd_T138 l0 x3_2).f1), .int .i64 ((rd_T138 l0 x3_2).f2), .int .i64 ((rd_T138 l0 x3_2).f3)] 138 (0, 0))) ∧ Aside0 (Below w.heap.size w wc))
                      case first =>
                        have H := HC14.out
                        clear HC14
                        by_cases c16 : ((rd_T138 l0 x3_2).f0) > 0
                        · rw [if_pos c16] at H
                          have c16b0 : decide (0 < ((rd_T138 l0 x3_2).f0)) = true := decide_eq_true c16
                          clear c16
                          (first | rw [c16b0] | (simp only [i64_w, i32_w]; rw [c16b0]) | skip)
                          have H' := Aside0.mk H
                          clear H
                          go_wp2
                          go_meet
                          case rel => exact ⟨_, (x3_2), (by first | rfl | (simp; done) | (simp [*]; done)), H', ⟨by have := HJ1.out; have := HK2.out; have := HJ6.out; first | omega | exact Nat.le_refl _⟩, ⟨by (with_reducible repeat (first | refine blk_drewN ?_ _ | refine blk_drew ?_ | refine blk_alloc ?_ _)); exact BK146.out⟩, ⟨by repeat (first | (with_reducible first | exact HB.out | apply below_alloc | apply pw_below_drewN | apply below_drew1 | refine below_set ?_ GE146.out) | exact HB.out)⟩⟩
                        · rw [if_neg c16] at H
                          have c16b0 : decide (0 < ((rd_T138 l0 x3_2).f0)) = false := decide_eq_false c16
                          clear c16
                          (first | rw [c16b0] | (simp only [i64_w, i32_w]; rw [c16b0]) | skip)
                          have H' := Aside0.mk H
                          clear H
                          go_wp2
                          go_meet
                          case rel => exact ⟨_, (1), (by first | rfl | (simp; done) | (simp [*]; done)), H', ⟨by have := HJ1.out; have := HK2.out; have := HJ6.out; first | omega | exact Nat.le_refl _⟩, ⟨by (with_reducible repeat (first | refine blk_drewN ?_ _ | refine blk_drew ?_ | refine blk_alloc ?_ _)); exact BK146.out⟩, ⟨by repeat (first | (with_reducible first | exact HB.out | apply below_alloc | apply pw_below_drewN | apply below_drew1 | refine below_set ?_ GE146.out) | exact HB.out)⟩⟩
                      case rest =>
                        clear HC14
                        try clear c1
                        try clear p1
                        try clear q1
                        try clear hx1
                        try clear c2
                        try clear p2
                        try clear c3
                        try clear c3b0
                        try clear c3b1
                        try clear c4
                        try clear c5
                        try clear c5b0
                        try clear c6
                        try clear c6b0
                        try clear c10
                        try clear c10b0
                        try clear c13
                        try clear p14
                        try clear q14
                        try clear hx14
                        try clear c16
                        try clear c16b0
                        try clear hcz11_0
                        try clear hcz11_1
                        try clear hcz11_2
                        try clear hcz11_3
                        try clear hcz12_0
                        try clear hcz12_1
                        try clear hcz12_2
                        try clear hcz12_3
                        try clear hcz15_0
                        try clear hcz15_1
                        try clear hcz15_2
                        try clear hcz15_3
                        try clear hcz9_0
                        try clear hcz9_1
                        try clear hcz9_2
                        try clear hcz9_3
                        try clear hfz11_0
                        try clear hfz11_1
                        try clear hfz11_2
                        try clear hfz11_3
                        try clear hfz12_0
                        try clear hfz12_1
                        try clear hfz12_2
                        try clear hfz12_3
                        try clear hfz15_0
                        try clear hfz15_1
                        try clear hfz15_2
                        try clear hfz15_3
                        try clear hfz9_0
                        try clear hfz9_1
                        try clear hfz9_2
                        try clear hfz9_3
                        try clear hx145_0
                        try clear hx145_1
                        try clear hx145_2
                        try clear hx145_3
                        try clear p1
                        try clear p145
                        try clear p2
                        try clear q1
                        try clear q145
                        obtain ⟨kq, x5_13, rfl, HA, HJ13, BK146, HB⟩ := hcut
                        cases kq with
                        | zero => exact absurd HA.out (by simp [evermoreref20_Saying.j3])
                        | succ kj13 =>
                          have H := HA.out
                          clear HA
                          simp only [evermoreref20_Saying.j3] at H
                          have HC17 := Aside0.mk H
                          clear H
                          have hcz18_0 : wc.cell? ⟨gb146, 0, none⟩ = some (.int .i64 ((rd_T138 l0 x3_2).f0)) := (blk_cell BK146.out 0).trans rfl
                          have hcz18_1 : wc.cell? ⟨gb146, 1, none⟩ = some (.int .i64 ((rd_T138 l0 x3_2).f1)) := (blk_cell BK146.out 1).trans rfl
                          have hcz18_2 : wc.cell? ⟨gb146, 2, none⟩ = some (.int .i64 ((rd_T138 l0 x3_2).f2)) := (blk_cell BK146.out 2).trans rfl
                          have hcz18_3 : wc.cell? ⟨gb146, 3, none⟩ = some (.int .i64 ((rd_T138 l0 x3_2).f3)) := (blk_cell BK146.out 3).trans rfl
                          have hfz18_0 := blk_frozen BK146.out 0
                          have hfz18_1 := blk_frozen BK146.out 1
                          have hfz18_2 := blk_frozen BK146.out 2
                          have hfz18_3 := blk_frozen BK146.out 3
                          go_upto_if 40 with (fail)
                          go_cut [6] (fun v6 wc => ∃ (kq : Nat) (x6_16 : Int), v6 = .int .i64 x6_16 ∧ Aside0 (evermoreref20_Saying.j4 kq l0 x3_2 x5_13 x6_16 ((rd_T138 l0 x3_2).f0) ((rd_T138 l0 x3_2).f1) ((rd_T138 l0 x3_2).f2) ((rd_T138 l0 x3_2).f3) = some r) ∧ Aside0 (kq ≤ kj13) ∧ Aside0 (wc.heap[gb146]? = some (.cells #[.int .i64 ((rd_T138 l0 x3_2).f0), .int .i64 ((rd_T138 l0 x3_2).f1), .int .i64 ((rd_T138 l0 x3_2).f2), .int .i64 ((rd_T138 l0 x3_2).f3)] 138 (0, 0))) ∧ Aside0 (Below w.heap.size w wc))
                          case first =>
                            have H := HC17.out
                            clear HC17
                            by_cases c19 : ((rd_T138 l0 x3_2).f0) = 3
                            · rw [if_pos c19] at H
                              have c19b0 : (((rd_T138 l0 x3_2).f0) == 3) = true := beq_iff_eq.mpr c19
                              have c19b1 : (((rd_T138 l0 x3_2).f0) != 3) = false := bne_eq_false_iff_eq.mpr c19
                              clear c19
                              (first | rw [c19b0] | (simp only [i64_w, i32_w]; rw [c19b0]) | skip)
                              have H' := Aside0.mk H
                              clear H
                              go_wp2
                              go_meet
                              case rel => exact ⟨_, (x3_2), (by first | rfl | (simp; done) | (simp [*]; done)), H', ⟨by have := HJ1.out; have := HK2.out; have := HJ6.out; have := HJ13.out; first | omega | exact Nat.le_refl _⟩, ⟨by (with_reducible repeat (first | refine blk_drewN ?_ _ | refine blk_drew ?_ | refine blk_alloc ?_ _)); exact BK146.out⟩, ⟨by repeat (first | (with_reducible first | exact HB.out | apply below_alloc | apply pw_below_drewN | apply below_drew1 | refine below_set ?_ GE146.out) | exact HB.out)⟩⟩
                            · rw [if_neg c19] at H
                              have c19b0 : (((rd_T138 l0 x3_2).f0) == 3) = false := beq_eq_false_iff_ne.mpr c19
                              have c19b1 : (((rd_T138 l0 x3_2).f0) != 3) = true := bne_iff_ne.mpr c19
                              (first | rw [c19b0] | (simp only [i64_w, i32_w]; rw [c19b0]) | skip)
                              have H' := Aside0.mk H
                              clear H
                              go_wp2
                              go_meet
                              case rel => exact ⟨_, (1), (by first | rfl | (simp; done) | (simp [*]; done)), H', ⟨by have := HJ1.out; have := HK2.out; have := HJ6.out; have := HJ13.out; first | omega | exact Nat.le_refl _⟩, ⟨by (with_reducible repeat (first | refine blk_drewN ?_ _ | refine blk_drew ?_ | refine blk_alloc ?_ _)); exact BK146.out⟩, ⟨by repeat (first | (with_reducible first | exact HB.out | apply below_alloc | apply pw_below_drewN | apply below_drew1 | refine below_set ?_ GE146.out) | exact HB.out)⟩⟩
                          case rest =>
                            clear HC17
                            try clear c1
                            try clear p1
                            try clear q1
                            try clear hx1
                            try clear c2
                            try clear p2
                            try clear c3
                            try clear c3b0
                            try clear c3b1
                            try clear c4
                            try clear c5
                            try clear c5b0
                            try clear c6
                            try clear c6b0
                            try clear c10
                            try clear c10b0
                            try clear c13
                            try clear p14
                            try clear q14
                            try clear hx14
                            try clear c16
                            try clear c16b0
                            try clear c19
                            try clear c19b0
                            try clear c19b1
                            try clear hcz11_0
                            try clear hcz11_1
                            try clear hcz11_2
                            try clear hcz11_3
                            try clear hcz12_0
                            try clear hcz12_1
                            try clear hcz12_2
                            try clear hcz12_3
                            try clear hcz15_0
                            try clear hcz15_1
                            try clear hcz15_2
                            try clear hcz15_3
                            try clear hcz18_0
                            try clear hcz18_1
                            try clear hcz18_2
                            try clear hcz18_3
                            try clear hcz9_0
                            try clear hcz9_1
                            try clear hcz9_2
                            try clear hcz9_3
                            try clear hfz11_0
                            try clear hfz11_1
                            try clear hfz11_2
                            try clear hfz11_3
                            try clear hfz12_0
                            try clear hfz12_1
                            try clear hfz12_2
                            try clear hfz12_3
                            try clear hfz15_0
                            try clear hfz15_1
                            try clear hfz15_2
                            try clear hfz15_3
                            try clear hfz18_0
                            try clear hfz18_1
                            try clear hfz18_2
                            try clear hfz18_3
                            try clear hfz9_0
                            try clear hfz9_1
                            try clear hfz9_2
                            try clear hfz9_3
                            try clear hx145_0
                            try clear hx145_1
                            try clear hx145_2
                            try clear hx145_3
                            try clear p1
                            try clear p14
                            try clear p145
                            try clear p2
                            try clear q1
                            try clear q14
                            try clear q145
                            obtain ⟨kq, x6_16, rfl, HA, HJ16, BK146, HB⟩ := hcut
                            cases kq with
                            | zero => exact absurd HA.out (by simp [evermoreref20_Saying.j4])
                            | succ kj16 =>
                              have H := HA.out
                              clear HA
                              simp only [evermoreref20_Saying.j4] at H
                              have HC20 := Aside0.mk H
                              clear H
                              have hcz21_0 : wc.cell? ⟨gb146, 0, none⟩ = some (.int .i64 ((rd_T138 l0 x3_2).f0)) := (blk_cell BK146.out 0).trans rfl
                              have hcz21_1 : wc.cell? ⟨gb146, 1, none⟩ = some (.int .i64 ((rd_T138 l0 x3_2).f1)) := (blk_cell BK146.out 1).trans rfl
                              have hcz21_2 : wc.cell? ⟨gb146, 2, none⟩ = some (.int .i64 ((rd_T138 l0 x3_2).f2)) := (blk_cell BK146.out 2).trans rfl
                              have hcz21_3 : wc.cell? ⟨gb146, 3, none⟩ = some (.int .i64 ((rd_T138 l0 x3_2).f3)) := (blk_cell BK146.out 3).trans rfl
                              have hfz21_0 := blk_frozen BK146.out 0
                              have hfz21_1 := blk_frozen BK146.out 1
                              have hfz21_2 := blk_frozen BK146.out 2
                              have hfz21_3 := blk_frozen BK146.out 3
                              go_upto_if 44 with (fail)
                              go_cut [7] (fun v7 wc => ∃ (kq : Nat) (x7_19 : Int), v7 = .int .i64 x7_19 ∧ Aside0 (evermoreref20_Saying.j5 kq l0 x3_2 x5_13 x6_16 x7_19 ((rd_T138 l0 x3_2).f0) ((rd_T138 l0 x3_2).f1) ((rd_T138 l0 x3_2).f2) ((rd_T138 l0 x3_2).f3) = some r) ∧ Aside0 (kq ≤ kj16) ∧ Aside0 (wc.heap[gb146]? = some (.cells #[.int .i64 ((rd_T138 l0 x3_2).f0), .int .i64 ((rd_T138 l0 x3_2).f1), .int .i64 ((rd_T138 l0 x3_2).f2), .int .i64 ((rd_T138 l0 x3_2).f3)] 138 (0, 0))) ∧ Aside0 (Below w.heap.size w wc))
                              case first =>
                                have H := HC20.out
                                clear HC20
                                by_cases c22 : ((rd_T138 l0 x3_2).f0) = 2
                                · rw [if_pos c22] at H
                                  have c22b0 : (((rd_T138 l0 x3_2).f0) == 2) = true := beq_iff_eq.mpr c22
                                  have c22b1 : (((rd_T138 l0 x3_2).f0) != 2) = false := bne_eq_false_iff_eq.mpr c22
                                  clear c22
                                  (first | rw [c22b0] | (simp only [i64_w, i32_w]; rw [c22b0]) | skip)
                                  have H' := Aside0.mk H
                                  clear H
                                  go_wp2
                                  go_meet
                                  case rel => exact ⟨_, (4), (by first | rfl | (simp; done) | (simp [*]; done)), H', ⟨by have := HJ1.out; have := HK2.out; have := HJ6.out; have := HJ13.out; have := HJ16.out; first | omega | exact Nat.le_refl _⟩, ⟨by (with_reducible repeat (first | refine blk_drewN ?_ _ | refine blk_drew ?_ | refine blk_alloc ?_ _)); exact BK146.out⟩, ⟨by repeat (first | (with_reducible first | exact HB.out | apply below_alloc | apply pw_below_drewN | apply below_drew1 | refine below_set ?_ GE146.out) | exact HB.out)⟩⟩
                                · rw [if_neg c22] at H
                                  have c22b0 : (((rd_T138 l0 x3_2).f0) == 2) = false := beq_eq_false_iff_ne.mpr c22
                                  have c22b1 : (((rd_T138 l0 x3_2).f0) != 2) = true := bne_iff_ne.mpr c22
                                  (first | rw [c22b0] | (simp only [i64_w, i32_w]; rw [c22b0]) | skip)
                                  have H' := Aside0.mk H
                                  clear H
                                  go_wp2
                                  go_meet
                                  case rel => exact ⟨_, (1), (by first | rfl | (simp; done) | (simp [*]; done)), H', ⟨by have := HJ1.out; have := HK2.out; have := HJ6.out; have := HJ13.out; have := HJ16.out; first | omega | exact Nat.le_refl _⟩, ⟨by (with_reducible repeat (first | refine blk_drewN ?_ _ | refine blk_drew ?_ | refine blk_alloc ?_ _)); exact BK146.out⟩, ⟨by repeat (first | (with_reducible first | exact HB.out | apply below_alloc | apply pw_below_drewN | apply below_drew1 | refine below_set ?_ GE146.out) | exact HB.out)⟩⟩
                              case rest =>
                                clear HC20
                                try clear c1
                                try clear p1
                                try clear q1
                                try clear hx1
                                try clear c2
                                try clear p2
                                try clear c3
                                try clear c3b0
                                try clear c3b1
                                try clear c4
                                try clear c5
                                try clear c5b0
                                try clear c6
                                try clear c6b0
                                try clear c10
                                try clear c10b0
                                try clear c13
                                try clear p14
                                try clear q14
                                try clear hx14
                                try clear c16
                                try clear c16b0
                                try clear c19
                                try clear c19b0
                                try clear c19b1
                                try clear c22
                                try clear c22b0
                                try clear c22b1
                                try clear hcz11_0
                                try clear hcz11_1
                                try clear hcz11_2
                                try clear hcz11_3
                                try clear hcz12_0
                                try clear hcz12_1
                                try clear hcz12_2
                                try clear hcz12_3
                                try clear hcz15_0
                                try clear hcz15_1
                                try clear hcz15_2
                                try clear hcz15_3
                                try clear hcz18_0
                                try clear hcz18_1
                                try clear hcz18_2
                                try clear hcz18_3
                                try clear hcz21_0
                                try clear hcz21_1
                                try clear hcz21_2
                                try clear hcz21_3
                                try clear hcz9_0
                                try clear hcz9_1
                                try clear hcz9_2
                                try clear hcz9_3
                                try clear hfz11_0
                                try clear hfz11_1
                                try clear hfz11_2
                                try clear hfz11_3
                                try clear hfz12_0
                                try clear hfz12_1
                                try clear hfz12_2
                                try clear hfz12_3
                                try clear hfz15_0
                                try clear hfz15_1
                                try clear hfz15_2
                                try clear hfz15_3
                                try clear hfz18_0
                                try clear hfz18_1
                                try clear hfz18_2
                                try clear hfz18_3
                                try clear hfz21_0
                                try clear hfz21_1
                                try clear hfz21_2
                                try clear hfz21_3
                                try clear hfz9_0
                                try clear hfz9_1
                                try clear hfz9_2
                                try clear hfz9_3
                                try clear hx145_0
                                try clear hx145_1
                                try clear hx145_2
                                try clear hx145_3
                                try clear p1
                                try clear p14
                                try clear p145
                                try clear p2
                                try clear q1
                                try clear q14
                                try clear q145
                                obtain ⟨kq, x7_19, rfl, HA, HJ19, BK146, HB⟩ := hcut
                                cases kq with
                                | zero => exact absurd HA.out (by simp [evermoreref20_Saying.j5])
                                | succ kj19 =>
                                  have H := HA.out
                                  clear HA
                                  simp only [evermoreref20_Saying.j5] at H
                                  have HC23 := Aside0.mk H
                                  clear H
                                  go_upto_region 18 with (fail)
                                  go_cut [75] (fun v75 wc => ∃ (kq : Nat) (x75_22 : Bool), v75 = .bool x75_22 ∧ Aside0 (evermoreref20_Saying.j6 kq l0 x3_2 x75_22 = some r) ∧ Aside0 (kq ≤ kj19) ∧ Aside0 (wc.heap[gb146]? = some (.cells #[.int .i64 ((rd_T138 l0 x3_2).f0), .int .i64 ((rd_T138 l0 x3_2).f1), .int .i64 ((rd_T138 l0 x3_2).f2), .int .i64 ((rd_T138 l0 x3_2).f3)] 138 (0, 0))) ∧ Aside0 (Below w.heap.size w wc))
                                  case first =>
                                    have H := HC23.out
                                    clear HC23
                                    by_cases c24 : ((rd_T138 l0 x3_2).f2) < 0
                                    · rw [if_pos c24] at H
                                      have c24b0 : decide (((rd_T138 l0 x3_2).f2) < 0) = true := decide_eq_true c24
                                      clear c24
                                      (first | rw [c24b0] | (simp only [i64_w, i32_w]; rw [c24b0]) | skip)
                                      have H' := Aside0.mk H
                                      clear H
                                      have hcz25_0 : wc.cell? ⟨gb146, 0, none⟩ = some (.int .i64 ((rd_T138 l0 x3_2).f0)) := (blk_cell BK146.out 0).trans rfl
                                      have hcz25_1 : wc.cell? ⟨gb146, 1, none⟩ = some (.int .i64 ((rd_T138 l0 x3_2).f1)) := (blk_cell BK146.out 1).trans rfl
                                      have hcz25_2 : wc.cell? ⟨gb146, 2, none⟩ = some (.int .i64 ((rd_T138 l0 x3_2).f2)) := (blk_cell BK146.out 2).trans rfl
                                      have hcz25_3 : wc.cell? ⟨gb146, 3, none⟩ = some (.int .i64 ((rd_T138 l0 x3_2).f3)) := (blk_cell BK146.out 3).trans rfl
                                      have hfz25_0 := blk_frozen BK146.out 0
                                      have hfz25_1 := blk_frozen BK146.out 1
                                      have hfz25_2 := blk_frozen BK146.out 2
                                      have hfz25_3 := blk_frozen BK146.out 3
                                      go_wp2
                                      go_meet
                                      case rel => exact ⟨_, (true), (by first | rfl | (simp; done) | (simp [*]; done)), H', ⟨by have := HJ1.out; have := HK2.out; have := HJ6.out; have := HJ13.out; have := HJ16.out; have := HJ19.out; first | omega | exact Nat.le_refl _⟩, ⟨by (with_reducible repeat (first | refine blk_drewN ?_ _ | refine blk_drew ?_ | refine blk_alloc ?_ _)); exact BK146.out⟩, ⟨by repeat (first | (with_reducible first | exact HB.out | apply below_alloc | apply pw_below_drewN | apply below_drew1 | refine below_set ?_ GE146.out) | exact HB.out)⟩⟩
                                    · rw [if_neg c24] at H
                                      have c24b0 : decide (((rd_T138 l0 x3_2).f2) < 0) = false := decide_eq_false c24
                                      clear c24
                                      (first | rw [c24b0] | (simp only [i64_w, i32_w]; rw [c24b0]) | skip)
                                      by_cases c26 : ((rd_T138 l0 x3_2).f2) ≥ x5_13
                                      · rw [if_pos c26] at H
                                        have c26b0 : decide (x5_13 ≤ ((rd_T138 l0 x3_2).f2)) = true := decide_eq_true c26
                                        clear c26
                                        have H' := Aside0.mk H
                                        clear H
                                        have hcz27_0 : wc.cell? ⟨gb146, 0, none⟩ = some (.int .i64 ((rd_T138 l0 x3_2).f0)) := (blk_cell BK146.out 0).trans rfl
                                        have hcz27_1 : wc.cell? ⟨gb146, 1, none⟩ = some (.int .i64 ((rd_T138 l0 x3_2).f1)) := (blk_cell BK146.out 1).trans rfl
                                        have hcz27_2 : wc.cell? ⟨gb146, 2, none⟩ = some (.int .i64 ((rd_T138 l0 x3_2).f2)) := (blk_cell BK146.out 2).trans rfl
                                        have hcz27_3 : wc.cell? ⟨gb146, 3, none⟩ = some (.int .i64 ((rd_T138 l0 x3_2).f3)) := (blk_cell BK146.out 3).trans rfl
                                        have hfz27_0 := blk_frozen BK146.out 0
                                        have hfz27_1 := blk_frozen BK146.out 1
                                        have hfz27_2 := blk_frozen BK146.out 2
                                        have hfz27_3 := blk_frozen BK146.out 3
                                        go_wp2
                                        go_meet
                                        case rel => exact ⟨_, (true), (by first | rfl | (simp; done) | (simp [*]; done)), H', ⟨by have := HJ1.out; have := HK2.out; have := HJ6.out; have := HJ13.out; have := HJ16.out; have := HJ19.out; first | omega | exact Nat.le_refl _⟩, ⟨by (with_reducible repeat (first | refine blk_drewN ?_ _ | refine blk_drew ?_ | refine blk_alloc ?_ _)); exact BK146.out⟩, ⟨by repeat (first | (with_reducible first | exact HB.out | apply below_alloc | apply pw_below_drewN | apply below_drew1 | refine below_set ?_ GE146.out) | exact HB.out)⟩⟩
                                      · rw [if_neg c26] at H
                                        have c26b0 : decide (x5_13 ≤ ((rd_T138 l0 x3_2).f2)) = false := decide_eq_false c26
                                        clear c26
                                        by_cases c28 : ((rd_T138 l0 x3_2).f3) < 0
                                        · rw [if_pos c28] at H
                                          have c28b0 : decide (((rd_T138 l0 x3_2).f3) < 0) = true := decide_eq_true c28
                                          clear c28
                                          have H' := Aside0.mk H
                                          clear H
                                          have hcz29_0 : wc.cell? ⟨gb146, 0, none⟩ = some (.int .i64 ((rd_T138 l0 x3_2).f0)) := (blk_cell BK146.out 0).trans rfl
                                          have hcz29_1 : wc.cell? ⟨gb146, 1, none⟩ = some (.int .i64 ((rd_T138 l0 x3_2).f1)) := (blk_cell BK146.out 1).trans rfl
                                          have hcz29_2 : wc.cell? ⟨gb146, 2, none⟩ = some (.int .i64 ((rd_T138 l0 x3_2).f2)) := (blk_cell BK146.out 2).trans rfl
                                          have hcz29_3 : wc.cell? ⟨gb146, 3, none⟩ = some (.int .i64 ((rd_T138 l0 x3_2).f3)) := (blk_cell BK146.out 3).trans rfl
                                          have hfz29_0 := blk_frozen BK146.out 0
                                          have hfz29_1 := blk_frozen BK146.out 1
                                          have hfz29_2 := blk_frozen BK146.out 2
                                          have hfz29_3 := blk_frozen BK146.out 3
                                          go_wp2
                                          go_meet
                                          case rel => exact ⟨_, (true), (by first | rfl | (simp; done) | (simp [*]; done)), H', ⟨by have := HJ1.out; have := HK2.out; have := HJ6.out; have := HJ13.out; have := HJ16.out; have := HJ19.out; first | omega | exact Nat.le_refl _⟩, ⟨by (with_reducible repeat (first | refine blk_drewN ?_ _ | refine blk_drew ?_ | refine blk_alloc ?_ _)); exact BK146.out⟩, ⟨by repeat (first | (with_reducible first | exact HB.out | apply below_alloc | apply pw_below_drewN | apply below_drew1 | refine below_set ?_ GE146.out) | exact HB.out)⟩⟩
                                        · rw [if_neg c28] at H
                                          have c28b0 : decide (((rd_T138 l0 x3_2).f3) < 0) = false := decide_eq_false c28
                                          clear c28
                                          by_cases c30 : ((rd_T138 l0 x3_2).f3) ≥ x6_16
                                          · rw [if_pos c30] at H
                                            have c30b0 : decide (x6_16 ≤ ((rd_T138 l0 x3_2).f3)) = true := decide_eq_true c30
                                            clear c30
                                            have H' := Aside0.mk H
                                            clear H
                                            have hcz31_0 : wc.cell? ⟨gb146, 0, none⟩ = some (.int .i64 ((rd_T138 l0 x3_2).f0)) := (blk_cell BK146.out 0).trans rfl
                                            have hcz31_1 : wc.cell? ⟨gb146, 1, none⟩ = some (.int .i64 ((rd_T138 l0 x3_2).f1)) := (blk_cell BK146.out 1).trans rfl
                                            have hcz31_2 : wc.cell? ⟨gb146, 2, none⟩ = some (.int .i64 ((rd_T138 l0 x3_2).f2)) := (blk_cell BK146.out 2).trans rfl
                                            have hcz31_3 : wc.cell? ⟨gb146, 3, none⟩ = some (.int .i64 ((rd_T138 l0 x3_2).f3)) := (blk_cell BK146.out 3).trans rfl
                                            have hfz31_0 := blk_frozen BK146.out 0
                                            have hfz31_1 := blk_frozen BK146.out 1
                                            have hfz31_2 := blk_frozen BK146.out 2
                                            have hfz31_3 := blk_frozen BK146.out 3
                                            go_wp2
                                            go_meet
                                            case rel => exact ⟨_, (true), (by first | rfl | (simp; done) | (simp [*]; done)), H', ⟨by have := HJ1.out; have := HK2.out; have := HJ6.out; have := HJ13.out; have := HJ16.out; have := HJ19.out; first | omega | exact Nat.le_refl _⟩, ⟨by (with_reducible repeat (first | refine blk_drewN ?_ _ | refine blk_drew ?_ | refine blk_alloc ?_ _)); exact BK146.out⟩, ⟨by repeat (first | (with_reducible first | exact HB.out | apply below_alloc | apply pw_below_drewN | apply below_drew1 | refine below_set ?_ GE146.out) | exact HB.out)⟩⟩
                                          · rw [if_neg c30] at H
                                            have c30b0 : decide (x6_16 ≤ ((rd_T138 l0 x3_2).f3)) = false := decide_eq_false c30
                                            clear c30
                                            by_cases c32 : ((rd_T138 l0 x3_2).f1) < 0
                                            · rw [if_pos c32] at H
                                              have c32b0 : decide (((rd_T138 l0 x3_2).f1) < 0) = true := decide_eq_true c32
                                              clear c32
                                              have H' := Aside0.mk H
                                              clear H
                                              have hcz33_0 : wc.cell? ⟨gb146, 0, none⟩ = some (.int .i64 ((rd_T138 l0 x3_2).f0)) := (blk_cell BK146.out 0).trans rfl
                                              have hcz33_1 : wc.cell? ⟨gb146, 1, none⟩ = some (.int .i64 ((rd_T138 l0 x3_2).f1)) := (blk_cell BK146.out 1).trans rfl
                                              have hcz33_2 : wc.cell? ⟨gb146, 2, none⟩ = some (.int .i64 ((rd_T138 l0 x3_2).f2)) := (blk_cell BK146.out 2).trans rfl
                                              have hcz33_3 : wc.cell? ⟨gb146, 3, none⟩ = some (.int .i64 ((rd_T138 l0 x3_2).f3)) := (blk_cell BK146.out 3).trans rfl
                                              have hfz33_0 := blk_frozen BK146.out 0
                                              have hfz33_1 := blk_frozen BK146.out 1
                                              have hfz33_2 := blk_frozen BK146.out 2
                                              have hfz33_3 := blk_frozen BK146.out 3
                                              go_wp2
                                              go_meet
                                              case rel => exact ⟨_, (true), (by first | rfl | (simp; done) | (simp [*]; done)), H', ⟨by have := HJ1.out; have := HK2.out; have := HJ6.out; have := HJ13.out; have := HJ16.out; have := HJ19.out; first | omega | exact Nat.le_refl _⟩, ⟨by (with_reducible repeat (first | refine blk_drewN ?_ _ | refine blk_drew ?_ | refine blk_alloc ?_ _)); exact BK146.out⟩, ⟨by repeat (first | (with_reducible first | exact HB.out | apply below_alloc | apply pw_below_drewN | apply below_drew1 | refine below_set ?_ GE146.out) | exact HB.out)⟩⟩
                                            · rw [if_neg c32] at H
                                              have c32b0 : decide (((rd_T138 l0 x3_2).f1) < 0) = false := decide_eq_false c32
                                              clear c32
                                              have H' := Aside0.mk H
                                              clear H
                                              have hcz34_0 : wc.cell? ⟨gb146, 0, none⟩ = some (.int .i64 ((rd_T138 l0 x3_2).f0)) := (blk_cell BK146.out 0).trans rfl
                                              have hcz34_1 : wc.cell? ⟨gb146, 1, none⟩ = some (.int .i64 ((rd_T138 l0 x3_2).f1)) := (blk_cell BK146.out 1).trans rfl
                                              have hcz34_2 : wc.cell? ⟨gb146, 2, none⟩ = some (.int .i64 ((rd_T138 l0 x3_2).f2)) := (blk_cell BK146.out 2).trans rfl
                                              have hcz34_3 : wc.cell? ⟨gb146, 3, none⟩ = some (.int .i64 ((rd_T138 l0 x3_2).f3)) := (blk_cell BK146.out 3).trans rfl
                                              have hfz34_0 := blk_frozen BK146.out 0
                                              have hfz34_1 := blk_frozen BK146.out 1
                                              have hfz34_2 := blk_frozen BK146.out 2
                                              have hfz34_3 := blk_frozen BK146.out 3
                                              go_wp2
                                              go_meet
                                              case rel => exact ⟨_, (decide (((rd_T138 l0 x3_2).f1) ≥ x7_19)), (by first | rfl | (simp; done) | (simp [*]; done)), H', ⟨by have := HJ1.out; have := HK2.out; have := HJ6.out; have := HJ13.out; have := HJ16.out; have := HJ19.out; first | omega | exact Nat.le_refl _⟩, ⟨by (with_reducible repeat (first | refine blk_drewN ?_ _ | refine blk_drew ?_ | refine blk_alloc ?_ _)); exact BK146.out⟩, ⟨by repeat (first | (with_reducible first | exact HB.out | apply below_alloc | apply pw_below_drewN | apply below_drew1 | refine below_set ?_ GE146.out) | exact HB.out)⟩⟩
                                  case rest =>
                                    clear HC23
                                    try clear c1
                                    try clear p1
                                    try clear q1
                                    try clear hx1
                                    try clear c2
                                    try clear p2
                                    try clear c3
                                    try clear c3b0
                                    try clear c3b1
                                    try clear c4
                                    try clear c5
                                    try clear c5b0
                                    try clear c6
                                    try clear c6b0
                                    try clear c10
                                    try clear c10b0
                                    try clear c13
                                    try clear p14
                                    try clear q14
                                    try clear hx14
                                    try clear c16
                                    try clear c16b0
                                    try clear c19
                                    try clear c19b0
                                    try clear c19b1
                                    try clear c22
                                    try clear c22b0
                                    try clear c22b1
                                    try clear c24
                                    try clear c24b0
                                    try clear c26
                                    try clear c26b0
                                    try clear c28
                                    try clear c28b0
                                    try clear c30
                                    try clear c30b0
                                    try clear c32
                                    try clear c32b0
                                    try clear hcz11_0
                                    try clear hcz11_1
                                    try clear hcz11_2
                                    try clear hcz11_3
                                    try clear hcz12_0
                                    try clear hcz12_1
                                    try clear hcz12_2
                                    try clear hcz12_3
                                    try clear hcz15_0
                                    try clear hcz15_1
                                    try clear hcz15_2
                                    try clear hcz15_3
                                    try clear hcz18_0
                                    try clear hcz18_1
                                    try clear hcz18_2
                                    try clear hcz18_3
                                    try clear hcz21_0
                                    try clear hcz21_1
                                    try clear hcz21_2
                                    try clear hcz21_3
                                    try clear hcz25_0
                                    try clear hcz25_1
                                    try clear hcz25_2
                                    try clear hcz25_3
                                    try clear hcz27_0
                                    try clear hcz27_1
                                    try clear hcz27_2
                                    try clear hcz27_3
                                    try clear hcz29_0
                                    try clear hcz29_1
                                    try clear hcz29_2
                                    try clear hcz29_3
                                    try clear hcz31_0
                                    try clear hcz31_1
                                    try clear hcz31_2
                                    try clear hcz31_3
                                    try clear hcz33_0
                                    try clear hcz33_1
                                    try clear hcz33_2
                                    try clear hcz33_3
                                    try clear hcz34_0
                                    try clear hcz34_1
                                    try clear hcz34_2
                                    try clear hcz34_3
                                    try clear hcz9_0
                                    try clear hcz9_1
                                    try clear hcz9_2
                                    try clear hcz9_3
                                    try clear hfz11_0
                                    try clear hfz11_1
                                    try clear hfz11_2
                                    try clear hfz11_3
                                    try clear hfz12_0
                                    try clear hfz12_1
                                    try clear hfz12_2
                                    try clear hfz12_3
                                    try clear hfz15_0
                                    try clear hfz15_1
                                    try clear hfz15_2
                                    try clear hfz15_3
                                    try clear hfz18_0
                                    try clear hfz18_1
                                    try clear hfz18_2
                                    try clear hfz18_3
                                    try clear hfz21_0
                                    try clear hfz21_1
                                    try clear hfz21_2
                                    try clear hfz21_3
                                    try clear hfz25_0
                                    try clear hfz25_1
                                    try clear hfz25_2
                                    try clear hfz25_3
                                    try clear hfz27_0
                                    try clear hfz27_1
                                    try clear hfz27_2
                                    try clear hfz27_3
                                    try clear hfz29_0
                                    try clear hfz29_1
                                    try clear hfz29_2
                                    try clear hfz29_3
                                    try clear hfz31_0
                                    try clear hfz31_1
                                    try clear hfz31_2
                                    try clear hfz31_3
                                    try clear hfz33_0
                                    try clear hfz33_1
                                    try clear hfz33_2
                                    try clear hfz33_3
                                    try clear hfz34_0
                                    try clear hfz34_1
                                    try clear hfz34_2
                                    try clear hfz34_3
                                    try clear hfz9_0
                                    try clear hfz9_1
                                    try clear hfz9_2
                                    try clear hfz9_3
                                    try clear hx145_0
                                    try clear hx145_1
                                    try clear hx145_2
                                    try clear hx145_3
                                    try clear p1
                                    try clear p14
                                    try clear p145
                                    try clear p2
                                    try clear q1
                                    try clear q14
                                    try clear q145
                                    obtain ⟨kq, x75_22, rfl, HA, HJ22, BK146, HB⟩ := hcut
                                    cases kq with
                                    | zero => exact absurd HA.out (by simp [evermoreref20_Saying.j6])
                                    | succ kj22 =>
                                      have H := HA.out
                                      clear HA
                                      simp only [evermoreref20_Saying.j6] at H
                                      by_cases c35 : x75_22 = true
                                      · subst c35
                                        have H1 : (some 2) = some r := by rw [if_pos rfl] at H; exact H
                                        clear H
                                        have H := H1
                                        clear H1
                                        obtain rfl := Option.some.inj H
                                        go_wp2
                                        go_ret
                                        exact ⟨by first | rfl | (simp [errW_none, errW_some] <;> rfl) | (simp [*, errW_none, errW_some] <;> rfl), by repeat (first | (with_reducible first | exact HB.out | apply below_alloc | apply pw_below_drewN | apply below_drew1 | refine below_set ?_ GE146.out) | exact HB.out)⟩
                                      · replace c35 := Bool.eq_false_iff.mpr c35
                                        subst c35
                                        have H1 : (evermoreref20_Saying.l0 kj22 l0 (wrap64 (x3_2 + 1))) = some r := by rw [if_neg (show ¬ (false = true) by decide)] at H; exact H
                                        clear H
                                        have H := H1
                                        clear H1
                                        have H' := Aside0.mk H
                                        clear H
                                        go_wp2
                                        go_roundg kj22
                                        case measure => have := HJ1.out; have := HK2.out; have := HJ6.out; have := HJ13.out; have := HJ16.out; have := HJ19.out; have := HJ22.out; omega
                                        case rel => exact ⟨(wrap64 (x3_2 + 1)), (by first | rfl | (simp; done) | (simp [*]; done)), H', ⟨by have := HJ1.out; have := HK2.out; have := HJ6.out; have := HJ13.out; have := HJ16.out; have := HJ19.out; have := HJ22.out; omega⟩, ⟨by repeat (first | (with_reducible first | exact HB.out | apply below_alloc | apply pw_below_drewN | apply below_drew1 | refine below_set ?_ GE146.out) | exact HB.out)⟩⟩
              · rw [if_neg c6] at H
                exact absurd H (by simp)
            · rw [if_neg c5] at H
              have c5b0 : decide (x3_2 < (l0.length : Int)) = false := decide_eq_false c5
              clear c5
              obtain rfl := Option.some.inj H
              go_wp2
              go_ret
              exact ⟨by first | rfl | (simp [errW_none, errW_some] <;> rfl) | (simp [*, errW_none, errW_some] <;> rfl), by repeat (first | (with_reducible first | exact HB.out | apply below_alloc | apply pw_below_drewN | apply below_drew1) | exact HB.out)⟩

end Go.Proofs.Ytklkcdphcmimoaa.PSameHolds
