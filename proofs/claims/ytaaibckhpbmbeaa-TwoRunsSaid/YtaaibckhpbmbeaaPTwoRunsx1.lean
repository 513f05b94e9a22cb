-- Printed over the kit's print by a program of this session (wip/hprint.py), with contracts of its own hand.
import Derived.Test.YtaaibckhpbmbeaaPTwoRunsx0
namespace Go.Proofs.Ytaaibckhpbmbeaa.PTwoRuns
open Go.RowKit Go.Proofs.YtaaibckhpbmbeaaW.PrintWords Go.Proofs.YtaaibckhpbmbeaaW.PrintLast Go.Proofs.YtaaibckhpbmbeaaW.PrintMore
attribute [local go_sem] max2_int min2_int max_two min_two max_three min_three max_four min_four   -- for this text's walks alone
set_option linter.unusedVariables false
set_option linter.unusedSimpArgs false

/-! ### evermoreref1_May: function 21 -/
mutual
def evermoreref1_May.j0 : Nat → Int → List Int → Bool → Option (Int)
  | 0, _, _, _ => none
  | k + 1, x0, x1, x11 => if x11 = true then (some 2) else (if (x1.length : Int) > 60 then (some 1) else (evermoreref1_May.l0 k x0 x1 0))
def evermoreref1_May.l0 : Nat → Int → List Int → Int → Option (Int)
  | 0, _, _, _ => none
  | k + 1, x0, x1, x5 => if x5 < (x1.length : Int) then (if 0 ≤ x5 then (if (rd x1 x5) < 0 then (some 2) else (if (rd x1 x5) ≥ x0 then (some 2) else (evermoreref1_May.l0 k x0 x1 (wrap64 (x5 + 1))))) else (none)) else (some 0)
end
def evermoreref1_May.f (k : Nat) (a0 : Int) (l1 : List Int) : Option (Int) := if a0 < 1 then (evermoreref1_May.j0 k a0 l1 true) else (evermoreref1_May.j0 k a0 l1 (decide (a0 > 4)))
theorem evermoreref1_May.mono_l : ∀ k, (∀ y0 y1 y2, LeO (evermoreref1_May.j0 k y0 y1 y2) (evermoreref1_May.j0 (k + 1) y0 y1 y2)) ∧ (∀ y0 y1 y2, LeO (evermoreref1_May.l0 k y0 y1 y2) (evermoreref1_May.l0 (k + 1) y0 y1 y2))
  | 0 => ⟨fun _ _ _ r h => by simp [evermoreref1_May.j0] at h, fun _ _ _ r h => by simp [evermoreref1_May.l0] at h⟩
  | k + 1 => by
    obtain ⟨ih0, ih1⟩ := evermoreref1_May.mono_l k
    refine ⟨?_, ?_⟩
    · intro y0 y1 y2
      unfold evermoreref1_May.j0
      repeat' first
      | (with_reducible exact ih0 _ _ _)
      | (with_reducible exact ih1 _ _ _)
      | (with_reducible exact LeO.refl _)
      | (with_reducible exact LeO.none _)
      | (with_reducible refine LeO.ite ?_ ?_)
      | (with_reducible refine LeO.bind ?_ (fun _ => ?_))
      | exact ih0 _ _ _
      | exact ih1 _ _ _
      | exact LeO.none _
      | refine LeO.ite ?_ ?_
      | refine LeO.bind ?_ (fun _ => ?_)
    · intro y0 y1 y2
      unfold evermoreref1_May.l0
      repeat' first
      | (with_reducible exact ih0 _ _ _)
      | (with_reducible exact ih1 _ _ _)
      | (with_reducible exact LeO.refl _)
      | (with_reducible exact LeO.none _)
      | (with_reducible refine LeO.ite ?_ ?_)
      | (with_reducible refine LeO.bind ?_ (fun _ => ?_))
      | exact ih0 _ _ _
      | exact ih1 _ _ _
      | exact LeO.none _
      | refine LeO.ite ?_ ?_
      | refine LeO.bind ?_ (fun _ => ?_)
theorem evermoreref1_May.mono : ∀ a0 a1 k, LeO (evermoreref1_May.f k a0 a1) (evermoreref1_May.f (k + 1) a0 a1) := by
  intro a0 a1 k
  obtain ⟨ih0, ih1⟩ := evermoreref1_May.mono_l k
  unfold evermoreref1_May.f
  repeat' first
      | (with_reducible exact ih0 _ _ _)
      | (with_reducible exact ih1 _ _ _)
      | (with_reducible exact LeO.refl _)
      | (with_reducible exact LeO.none _)
      | (with_reducible refine LeO.ite ?_ ?_)
      | (with_reducible refine LeO.bind ?_ (fun _ => ?_))
      | exact ih0 _ _ _
      | exact ih1 _ _ _
      | exact LeO.none _
      | refine LeO.ite ?_ ?_
      | refine LeO.bind ?_ (fun _ => ?_)
set_option maxHeartbeats 8000000 in
set_option maxRecDepth 100000 in
theorem evermoreref1_May.calls (k : Nat) (a0 : Int) (A1 : Option Addr) (c1 : Nat) (l1 : List Int) (r : Int) (w : World) (hr1 : Kd.C (Kd.int .i64) w A1 l1.length l1) (hc1 : l1.length ≤ c1) (h : evermoreref1_May.f k a0 l1 = some r) :
    Calls Try.prog 21 #[.int .i64 a0, .slice A1 l1.length c1] w fun e w' => e = .returned (.int .i64 r) ∧ Drawn0 w w' := by
  have HR1 := Aside0.mk hr1
  have HC1 := Aside0.mk hc1
  clear hr1 hc1
  have H : (if a0 < 1 then (evermoreref1_May.j0 k a0 l1 true) else (evermoreref1_May.j0 k a0 l1 (decide (a0 > 4)))) = some r := h
  clear h
  have HC3 := Aside0.mk H
  clear H
  go_enter Try.func21, Try.ntmps21
  go_upto_region 1 with (fail)
  go_cut [11] (fun v11 wc => ∃ (kq : Nat) (x11_2 : Bool), v11 = .bool x11_2 ∧ Aside0 (evermoreref1_May.j0 kq a0 l1 x11_2 = some r) ∧ Aside0 (kq ≤ k) ∧ Drawn0 w wc)
  case first =>
    have H := HC3.out
    clear HC3
    by_cases c4 : a0 < 1
    · rw [if_pos c4] at H
      have c4b0 : decide (a0 < 1) = true := decide_eq_true c4
      clear c4
      (first | rw [c4b0] | (simp only [i64_w, i32_w]; rw [c4b0]) | skip)
      have H' := Aside0.mk H
      clear H
      go_wp2
      go_meet
      case rel => exact ⟨_, (true), (by first | rfl | (simp; done) | (simp [*]; done)), H', ⟨by first | omega | exact Nat.le_refl _⟩, by repeat (first | exact Drawn0.refl _ | apply Drawn0.step)⟩
    · rw [if_neg c4] at H
      have c4b0 : decide (a0 < 1) = false := decide_eq_false c4
      clear c4
      (first | rw [c4b0] | (simp only [i64_w, i32_w]; rw [c4b0]) | skip)
      have H' := Aside0.mk H
      clear H
      go_wp2
      go_meet
      case rel => exact ⟨_, (decide (a0 > 4)), (by first | rfl | (simp; done) | (simp [*]; done)), H', ⟨by first | omega | exact Nat.le_refl _⟩, by repeat (first | exact Drawn0.refl _ | apply Drawn0.step)⟩
  case rest =>
    clear HC3
    try clear c1
    try clear c2
    try clear p2
    try clear c4
    try clear c4b0
    obtain ⟨kq, x11_2, rfl, HA, HJ2, ⟨mc2, rfl⟩⟩ := hcut
    cases kq with
    | zero => exact absurd HA.out (by simp [evermoreref1_May.j0])
    | succ kj2 =>
      have H := HA.out
      clear HA
      simp only [evermoreref1_May.j0] at H
      by_cases c5 : x11_2 = true
      · subst c5
        have H1 : (some 2) = some r := by rw [if_pos rfl] at H; exact H
        clear H
        have H := H1
        clear H1
        obtain rfl := Option.some.inj H
        go_wp2
        go_ret
        exact ⟨by first | rfl | (simp; done) | (simp [*]; done), by repeat (first | exact Drawn0.refl _ | apply Drawn0.step)⟩
      · replace c5 := Bool.eq_false_iff.mpr c5
        subst c5
        have H1 : (if (l1.length : Int) > 60 then (some 1) else (evermoreref1_May.l0 kj2 a0 l1 0)) = some r := by rw [if_neg (show ¬ (false = true) by decide)] at H; exact H
        clear H
        have H := H1
        clear H1
        by_cases c6 : (l1.length : Int) > 60
        · rw [if_pos c6] at H
          have c6b0 : decide (60 < (l1.length : Int)) = true := decide_eq_true c6
          have c6b1 : decide (60 < l1.length) = true := decide_eq_true (by omega)
          clear c6
          obtain rfl := Option.some.inj H
          go_wp2
          go_ret
          exact ⟨by first | rfl | (simp; done) | (simp [*]; done), by repeat (first | exact Drawn0.refl _ | apply Drawn0.step)⟩
        · rw [if_neg c6] at H
          have c6b0 : decide (60 < (l1.length : Int)) = false := decide_eq_false c6
          have c6b1 : decide (60 < l1.length) = false := decide_eq_false (by omega)
          clear c6
          have H' := Aside0.mk H
          clear H
          go_wp2
          go_loopg [5] kj2 (fun kq v5 w' => ∃ (x5_2 : Int), v5 = .int .i64 x5_2 ∧ Aside0 (evermoreref1_May.l0 kq a0 l1 x5_2 = some r) ∧ Aside0 (kq ≤ kj2) ∧ Drawn0 w w')
          case atStart => exact ⟨(0), (by first | rfl | (simp; done) | (simp [*]; done)), H', ⟨Nat.le_refl _⟩, by repeat (first | exact Drawn0.refl _ | apply Drawn0.step)⟩
          case round =>
            clear H'
            try clear c1
            try clear c2
            try clear p2
            try clear c4
            try clear c4b0
            try clear c5
            try clear c6
            try clear c6b0
            try clear c6b1
            try clear p2
            obtain ⟨x5_2, rfl, HA, HK2, ⟨m2, rfl⟩⟩ := hrel
            cases gk with
            | zero => exact absurd HA.out (by simp [evermoreref1_May.l0])
            | succ k2 =>
              have H := HA.out
              clear HA
              simp only [evermoreref1_May.l0] at H
              by_cases c7 : x5_2 < (l1.length : Int)
              · rw [if_pos c7] at H
                have c7b0 : decide (x5_2 < (l1.length : Int)) = true := decide_eq_true c7
                clear c7
                by_cases c8 : 0 ≤ x5_2
                · rw [if_pos c8] at H
                  have c8b0 : decide (0 ≤ x5_2) = true := decide_eq_true c8
                  clear c8
                  by_cases c9 : (rd l1 x5_2) < 0
                  · rw [if_pos c9] at H
                    have c9b0 : decide ((rd l1 x5_2) < 0) = true := decide_eq_true c9
                    clear c9
                    obtain rfl := Option.some.inj H
                    have p101 : 0 ≤ (x5_2 : Int) := of_decide_eq_true (by first | (with_reducible assumption) | assumption)
                    have q101 : x5_2 < (l1.length : Int) := of_decide_eq_true (by first | (with_reducible assumption) | assumption)
                    obtain ⟨ad101, e101, hx101_0⟩ := Kd.at_int HR1.out x5_2 p101 q101
                    cases e101
                    replace p101 := eq_true p101
                    replace q101 := eq_true q101
                    go_wp2
                    go_ret
                    exact ⟨by first | rfl | (simp; done) | (simp [*]; done), by repeat (first | exact Drawn0.refl _ | apply Drawn0.step)⟩
                  · rw [if_neg c9] at H
                    have c9b0 : decide ((rd l1 x5_2) < 0) = false := decide_eq_false c9
                    clear c9
                    by_cases c10 : (rd l1 x5_2) ≥ a0
                    · rw [if_pos c10] at H
                      have c10b0 : decide (a0 ≤ (rd l1 x5_2)) = true := decide_eq_true c10
                      clear c10
                      obtain rfl := Option.some.inj H
                      have p101 : 0 ≤ (x5_2 : Int) := of_decide_eq_true (by first | (with_reducible assumption) | assumption)
                      have q101 : x5_2 < (l1.length : Int) := of_decide_eq_true (by first | (with_reducible assumption) | assumption)
                      obtain ⟨ad101, e101, hx101_0⟩ := Kd.at_int HR1.out x5_2 p101 q101
                      cases e101
                      replace p101 := eq_true p101
                      replace q101 := eq_true q101
                      have p102 : 0 ≤ (x5_2 : Int) := of_decide_eq_true (by first | (with_reducible assumption) | assumption)
                      have q102 : x5_2 < (l1.length : Int) := of_decide_eq_true (by first | (with_reducible assumption) | assumption)
                      obtain ⟨ad102, e102, hx102_0⟩ := Kd.at_int HR1.out x5_2 p102 q102
                      obtain rfl : ad101 = ad102 := (by injection e102)
                      replace p102 := eq_true p102
                      replace q102 := eq_true q102
                      go_wp2
                      go_ret
                      exact ⟨by first | rfl | (simp; done) | (simp [*]; done), by repeat (first | exact Drawn0.refl _ | apply Drawn0.step)⟩
                    · rw [if_neg c10] at H
                      have c10b0 : decide (a0 ≤ (rd l1 x5_2)) = false := decide_eq_false c10
                      clear c10
                      have H' := Aside0.mk H
                      clear H
                      have p101 : 0 ≤ (x5_2 : Int) := of_decide_eq_true (by first | (with_reducible assumption) | assumption)
                      have q101 : x5_2 < (l1.length : Int) := of_decide_eq_true (by first | (with_reducible assumption) | assumption)
                      obtain ⟨ad101, e101, hx101_0⟩ := Kd.at_int HR1.out x5_2 p101 q101
                      cases e101
                      replace p101 := eq_true p101
                      replace q101 := eq_true q101
                      have p102 : 0 ≤ (x5_2 : Int) := of_decide_eq_true (by first | (with_reducible assumption) | assumption)
                      have q102 : x5_2 < (l1.length : Int) := of_decide_eq_true (by first | (with_reducible assumption) | assumption)
                      obtain ⟨ad102, e102, hx102_0⟩ := Kd.at_int HR1.out x5_2 p102 q102
                      obtain rfl : ad101 = ad102 := (by injection e102)
                      replace p102 := eq_true p102
                      replace q102 := eq_true q102
                      go_wp2
                      go_roundg k2
                      case measure => have := HJ2.out; have := HK2.out; omega
                      case rel => exact ⟨(wrap64 (x5_2 + 1)), (by first | rfl | (simp; done) | (simp [*]; done)), H', ⟨by have := HJ2.out; have := HK2.out; omega⟩, by repeat (first | exact Drawn0.refl _ | apply Drawn0.step)⟩
                · rw [if_neg c8] at H
                  exact absurd H (by simp)
              · rw [if_neg c7] at H
                have c7b0 : decide (x5_2 < (l1.length : Int)) = false := decide_eq_false c7
                clear c7
                obtain rfl := Option.some.inj H
                go_wp2
                go_ret
                exact ⟨by first | rfl | (simp; done) | (simp [*]; done), by repeat (first | exact Drawn0.refl _ | apply Drawn0.step)⟩

-- NOT PRINTED: function 132 (slices_IndexFunc_int_int)

-- NOT PRINTED: function 71 (slices_ContainsFunc_int_int)

-- NOT PRINTED: function 143 (slices_IndexFunc_2_int_2_int_143)

-- NOT PRINTED: function 96 (slices_ContainsFunc_2_int_2_int_96)

-- NOT PRINTED: function 97 (two_Check_1)

-- NOT PRINTED: function 98 (two_Check_2)

-- NOT PRINTED: function 144 (slices_IndexFunc_2_int_2_int_144)

-- NOT PRINTED: function 100 (slices_ContainsFunc_2_int_2_int_100)

-- NOT PRINTED: function 101 (two_Check_3_1)

-- NOT PRINTED: function 99 (two_Check_3)

-- NOT PRINTED: function 102 (two_Check_4)

/-! ### two_Check_1: function 181 -/
def two_Check_1.f (l0 : List (S144)) (a1_0 : Int) (a1_1 : Int) (l1_2 : List (List (S144))) (l1_3 : List Int) : Option (Bool) := some ((l0.length : Int) != (wrap64 (a1_0 + 2)))
set_option maxHeartbeats 8000000 in
set_option maxRecDepth 100000 in
theorem two_Check_1.calls (A0 : Option Addr) (c0 : Nat) (l0 : List (S144)) (g1 : Nat) (a1_0 : Int) (a1_1 : Int) (A1_2 : Option Addr) (c1_2 : Nat) (l1_2 : List (List (S144))) (A1_3 : Option Addr) (c1_3 : Nat) (l1_3 : List Int) (r : Bool) (w : World) (hr0 : Kd.C k144 w A0 l0.length l0) (hc0 : l0.length ≤ c0) (hb1 : w.heap[g1]? = some (.cells #[.int .i64 a1_0, .int .i64 a1_1, .slice A1_2 l1_2.length c1_2, .slice A1_3 l1_3.length c1_3] 80 (0, 0))) (hr1_2 : Kd.C (Kd.slice 144 k144) w A1_2 l1_2.length l1_2) (hc1_2 : l1_2.length ≤ c1_2) (hr1_3 : Kd.C (Kd.int .i64) w A1_3 l1_3.length l1_3) (hc1_3 : l1_3.length ≤ c1_3) (h : two_Check_1.f l0 a1_0 a1_1 l1_2 l1_3 = some r) :
    Calls Try.prog 97 #[.slice A0 l0.length c0, .pointer (some ⟨g1, 0, none⟩)] w fun e w' => e = .returned (.bool r) ∧ Drawn0 w w' := by
  have HR0 := Aside0.mk hr0
  have HC0 := Aside0.mk hc0
  clear hr0 hc0
  have HR1_2 := Aside0.mk hr1_2
  have HC1_2 := Aside0.mk hc1_2
  clear hr1_2 hc1_2
  have HR1_3 := Aside0.mk hr1_3
  have HC1_3 := Aside0.mk hc1_3
  clear hr1_3 hc1_3
  have BK900001 := Aside0.mk hb1
  clear hb1
  have H : (some ((l0.length : Int) != (wrap64 (a1_0 + 2)))) = some r := h
  clear h
  obtain rfl := Option.some.inj H
  have hcz3_0 : w.cell? ⟨g1, 0, none⟩ = some (.int .i64 a1_0) := (blk_cell BK900001.out 0).trans rfl
  have hcz3_1 : w.cell? ⟨g1, 1, none⟩ = some (.int .i64 a1_1) := (blk_cell BK900001.out 1).trans rfl
  have hcz3_2 : w.cell? ⟨g1, 2, none⟩ = some (.slice A1_2 l1_2.length c1_2) := (blk_cell BK900001.out 2).trans rfl
  have hcz3_3 : w.cell? ⟨g1, 3, none⟩ = some (.slice A1_3 l1_3.length c1_3) := (blk_cell BK900001.out 3).trans rfl
  have hfz3_0 := blk_frozen BK900001.out 0
  have hfz3_1 := blk_frozen BK900001.out 1
  have hfz3_2 := blk_frozen BK900001.out 2
  have hfz3_3 := blk_frozen BK900001.out 3
  go_enter Try.func97, Try.ntmps97
  go_wp2
  go_ret
  exact ⟨by first | rfl | (simp; done) | (simp [*]; done), by repeat (first | exact Drawn0.refl _ | apply Drawn0.step)⟩

/-! ### slices_IndexFunc__two_Check_1: function 180 -/
def slices_IndexFunc__two_Check_1.l0 : Nat → List (List (S144)) → Int → Int → Int → Int → List (List (S144)) → List Int → Option (Int)
  | 0, _, _, _, _, _, _, _ => none
  | k + 1, x0, x7, x8, x900003000, x900003001, x900003002, x900003003 => if x8 < x7 then (if 0 ≤ x8 then (if x8 < (x0.length : Int) then ((two_Check_1.f (rd_L2 x0 x8) x900003000 x900003001 x900003002 x900003003).bind fun t107 => (if t107 = true then (some x8) else (slices_IndexFunc__two_Check_1.l0 k x0 x7 (wrap64 (x8 + 1)) x900003000 x900003001 x900003002 x900003003))) else (none)) else (none)) else (some (-1))
def slices_IndexFunc__two_Check_1.f (k : Nat) (l0 : List (List (S144)))  (a2_0 : Int) (a2_1 : Int) (l2_2 : List (List (S144))) (l2_3 : List Int) : Option (Int) := slices_IndexFunc__two_Check_1.l0 k l0 (l0.length : Int) 0 a2_0 a2_1 l2_2 l2_3
theorem slices_IndexFunc__two_Check_1.mono_l : ∀ k, (∀ y0 y1 y2 y3 y4 y5 y6, LeO (slices_IndexFunc__two_Check_1.l0 k y0 y1 y2 y3 y4 y5 y6) (slices_IndexFunc__two_Check_1.l0 (k + 1) y0 y1 y2 y3 y4 y5 y6))
  | 0 => fun _ _ _ _ _ _ _ r h => by simp [slices_IndexFunc__two_Check_1.l0] at h
  | k + 1 => by
    have ih0 := slices_IndexFunc__two_Check_1.mono_l k
    · intro y0 y1 y2 y3 y4 y5 y6
      unfold slices_IndexFunc__two_Check_1.l0
      repeat' first
      | (with_reducible exact ih0 _ _ _ _ _ _ _)
      | (with_reducible exact LeO.refl _)
      | (with_reducible exact LeO.none _)
      | (with_reducible refine LeO.ite ?_ ?_)
      | (with_reducible refine LeO.bind ?_ (fun _ => ?_))
      | exact ih0 _ _ _ _ _ _ _
      | exact LeO.none _
      | refine LeO.ite ?_ ?_
      | refine LeO.bind ?_ (fun _ => ?_)
theorem slices_IndexFunc__two_Check_1.mono : ∀ a0 a1 a2 a3 a4 k, LeO (slices_IndexFunc__two_Check_1.f k a0 a1 a2 a3 a4) (slices_IndexFunc__two_Check_1.f (k + 1) a0 a1 a2 a3 a4) := by
  intro a0 a1 a2 a3 a4 k
  have ih0 := slices_IndexFunc__two_Check_1.mono_l k
  unfold slices_IndexFunc__two_Check_1.f
  repeat' first
      | (with_reducible exact ih0 _ _ _ _ _ _ _)
      | (with_reducible exact LeO.refl _)
      | (with_reducible exact LeO.none _)
      | (with_reducible refine LeO.ite ?_ ?_)
      | (with_reducible refine LeO.bind ?_ (fun _ => ?_))
      | exact ih0 _ _ _ _ _ _ _
      | exact LeO.none _
      | refine LeO.ite ?_ ?_
      | refine LeO.bind ?_ (fun _ => ?_)
set_option maxHeartbeats 8000000 in
set_option maxRecDepth 100000 in
theorem slices_IndexFunc__two_Check_1.calls (k : Nat) (A0 : Option Addr) (c0 : Nat) (l0 : List (List (S144)))  (g2 : Nat) (a2_0 : Int) (a2_1 : Int) (A2_2 : Option Addr) (c2_2 : Nat) (l2_2 : List (List (S144))) (A2_3 : Option Addr) (c2_3 : Nat) (l2_3 : List Int) (r : Int) (w : World) (hr0 : Kd.C (Kd.slice 144 k144) w A0 l0.length l0) (hc0 : l0.length ≤ c0) (hb2 : w.heap[g2]? = some (.cells #[.int .i64 a2_0, .int .i64 a2_1, .slice A2_2 l2_2.length c2_2, .slice A2_3 l2_3.length c2_3] 80 (0, 0))) (hr2_2 : Kd.C (Kd.slice 144 k144) w A2_2 l2_2.length l2_2) (hc2_2 : l2_2.length ≤ c2_2) (hr2_3 : Kd.C (Kd.int .i64) w A2_3 l2_3.length l2_3) (hc2_3 : l2_3.length ≤ c2_3) (h : slices_IndexFunc__two_Check_1.f k l0 a2_0 a2_1 l2_2 l2_3 = some r) :
    Calls Try.prog 143 #[.slice A0 l0.length c0, .func (.func 97) #[] #[.pointer (some ⟨g2, 0, none⟩)]] w fun e w' => e = .returned (.int .i64 r) ∧ Below w.heap.size w w' := by
  have HR0 := Aside0.mk hr0
  have HC0 := Aside0.mk hc0
  clear hr0 hc0
  have HR2_2 := Aside0.mk hr2_2
  have HC2_2 := Aside0.mk hc2_2
  clear hr2_2 hc2_2
  have HR2_3 := Aside0.mk hr2_3
  have HC2_3 := Aside0.mk hc2_3
  clear hr2_3 hc2_3
  have BK900002 := Aside0.mk hb2
  clear hb2
  have HB := Aside0.mk (Below.refl w.heap.size w)
  have H : (slices_IndexFunc__two_Check_1.l0 k l0 (l0.length : Int) 0 a2_0 a2_1 l2_2 l2_3) = some r := h
  clear h
  have H' := Aside0.mk H
  clear H
  go_enter Try.func143, Try.ntmps143
  go_wp2
  go_loopg [8] k (fun kq v8 w' => ∃ (x8_1 : Int), v8 = .int .i64 x8_1 ∧ Aside0 (slices_IndexFunc__two_Check_1.l0 kq l0 (l0.length : Int) x8_1 a2_0 a2_1 l2_2 l2_3 = some r) ∧ Aside0 (kq ≤ k) ∧ Aside0 (w'.heap[g2]? = some (.cells #[.int .i64 a2_0, .int .i64 a2_1, (.slice A2_2 l2_2.length c2_2), (.slice A2_3 l2_3.length c2_3)] 80 (0, 0))) ∧ Aside0 (Below w.heap.size w w'))
  case atStart => exact ⟨(0), (by first | rfl | (simp; done) | (simp [*]; done)), H', ⟨Nat.le_refl _⟩, ⟨by (with_reducible repeat (first | refine blk_drewN ?_ _ | refine blk_drew ?_ | refine blk_alloc ?_ _)); exact BK900002.out⟩, ⟨by repeat (first | (with_reducible first | exact HB.out | apply below_alloc | apply pw_below_drewN | apply below_drew1 | refine below_set ?_ GE900002.out) | exact HB.out)⟩⟩
  case round =>
    clear H'
    try clear c1
    try clear c2
    try clear p2
    obtain ⟨x8_1, rfl, HA, HK1, BK900002, HB⟩ := hrel
    cases gk with
    | zero => exact absurd HA.out (by simp [slices_IndexFunc__two_Check_1.l0])
    | succ k1 =>
      have H := HA.out
      clear HA
      simp only [slices_IndexFunc__two_Check_1.l0] at H
      by_cases c4 : x8_1 < (l0.length : Int)
      · rw [if_pos c4] at H
        have c4b0 : decide (x8_1 < (l0.length : Int)) = true := decide_eq_true c4
        clear c4
        by_cases c5 : 0 ≤ x8_1
        · rw [if_pos c5] at H
          have c5b0 : decide (0 ≤ x8_1) = true := decide_eq_true c5
          clear c5
          by_cases c6 : x8_1 < (l0.length : Int)
          · rw [if_pos c6] at H
            have c6b0 : decide (x8_1 < (l0.length : Int)) = true := decide_eq_true c6
            clear c6
            replace H := Option.bind_eq_some_iff.mp H
            obtain ⟨t107, A70, H⟩ := H
            replace H : (if t107 = true then (some x8_1) else (slices_IndexFunc__two_Check_1.l0 k1 l0 (l0.length : Int) (wrap64 (x8_1 + 1)) a2_0 a2_1 l2_2 l2_3)) = some r := H
            have A7 := Aside0.mk A70
            clear A70
            by_cases c8 : t107 = true
            · subst c8
              have H1 : (some x8_1) = some r := by rw [if_pos rfl] at H; exact H
              clear H
              have H := H1
              clear H1
              obtain rfl := Option.some.inj H
              have p106 : 0 ≤ (x8_1 : Int) := of_decide_eq_true (by first | (with_reducible assumption) | assumption)
              have q106 : x8_1 < (l0.length : Int) := of_decide_eq_true (by first | (with_reducible assumption) | assumption)
              obtain ⟨ad106, A106_0, c106_0, e106, hx106_0, hl106_0, hi106_0⟩ := at_L2 HR0.out x8_1 p106 q106
              cases e106
              replace hx106_0 := (HB.out.cell (World.block_lt_of_cell? w _ hx106_0)).trans hx106_0
              have HR106_0 := Aside0.mk hi106_0
              have HC106_0 := Aside0.mk hl106_0
              clear hi106_0 hl106_0
              replace p106 := eq_true p106
              replace q106 := eq_true q106
              have hcz9_0 : wr.cell? ⟨g2, 0, none⟩ = some (.int .i64 a2_0) := (blk_cell BK900002.out 0).trans rfl
              have hcz9_1 : wr.cell? ⟨g2, 1, none⟩ = some (.int .i64 a2_1) := (blk_cell BK900002.out 1).trans rfl
              have hcz9_2 : wr.cell? ⟨g2, 2, none⟩ = some (.slice A2_2 l2_2.length c2_2) := (blk_cell BK900002.out 2).trans rfl
              have hcz9_3 : wr.cell? ⟨g2, 3, none⟩ = some (.slice A2_3 l2_3.length c2_3) := (blk_cell BK900002.out 3).trans rfl
              have hfz9_0 := blk_frozen BK900002.out 0
              have hfz9_1 := blk_frozen BK900002.out 1
              have hfz9_2 := blk_frozen BK900002.out 2
              have hfz9_3 := blk_frozen BK900002.out 3
              go_wp2_with (first | (go_at_call 97; (with_reducible refine (two_Check_1.calls _ _ (rd_L2 l0 x8_1) g2 a2_0 a2_1 A2_2 c2_2 l2_2 A2_3 c2_3 l2_3 true _ ?side1 ?side2 ?side3 ?side4 ?side5 ?side6 ?side7 A7.out).mono ?_); (case side1 => repeat (first | exact (Kd.C_below HR106_0.out HB.out) | (with_reducible refine Kd.C_alloc ?_ _) | (with_reducible refine Kd.C_drewN ?_ _) | (with_reducible refine Kd.C_drew ?_))); (case side2 => exact HC106_0.out); (case side3 => exact (by (with_reducible repeat (first | refine blk_drewN ?_ _ | refine blk_drew ?_ | refine blk_alloc ?_ _)); exact BK900002.out)); (case side4 => repeat (first | exact (Kd.C_below HR2_2.out HB.out) | (with_reducible refine Kd.C_alloc ?_ _) | (with_reducible refine Kd.C_drewN ?_ _) | (with_reducible refine Kd.C_drew ?_))); (case side5 => exact HC2_2.out); (case side6 => repeat (first | exact (Kd.C_below HR2_3.out HB.out) | (with_reducible refine Kd.C_alloc ?_ _) | (with_reducible refine Kd.C_drewN ?_ _) | (with_reducible refine Kd.C_drew ?_))); (case side7 => exact HC2_3.out); rintro e w' ⟨rfl, ⟨nd, rfl⟩⟩))
              go_ret
              exact ⟨by first | rfl | (simp [errW_none, errW_some] <;> rfl) | (simp [*, errW_none, errW_some] <;> rfl), by repeat (first | (with_reducible first | exact HB.out | apply below_alloc | apply pw_below_drewN | apply below_drew1 | refine below_set ?_ GE900002.out) | exact HB.out)⟩
            · replace c8 := Bool.eq_false_iff.mpr c8
              subst c8
              have H1 : (slices_IndexFunc__two_Check_1.l0 k1 l0 (l0.length : Int) (wrap64 (x8_1 + 1)) a2_0 a2_1 l2_2 l2_3) = some r := by rw [if_neg (show ¬ (false = true) by decide)] at H; exact H
              clear H
              have H := H1
              clear H1
              have H' := Aside0.mk H
              clear H
              have p106 : 0 ≤ (x8_1 : Int) := of_decide_eq_true (by first | (with_reducible assumption) | assumption)
              have q106 : x8_1 < (l0.length : Int) := of_decide_eq_true (by first | (with_reducible assumption) | assumption)
              obtain ⟨ad106, A106_0, c106_0, e106, hx106_0, hl106_0, hi106_0⟩ := at_L2 HR0.out x8_1 p106 q106
              cases e106
              replace hx106_0 := (HB.out.cell (World.block_lt_of_cell? w _ hx106_0)).trans hx106_0
              have HR106_0 := Aside0.mk hi106_0
              have HC106_0 := Aside0.mk hl106_0
              clear hi106_0 hl106_0
              replace p106 := eq_true p106
              replace q106 := eq_true q106
              have hcz10_0 : wr.cell? ⟨g2, 0, none⟩ = some (.int .i64 a2_0) := (blk_cell BK900002.out 0).trans rfl
              have hcz10_1 : wr.cell? ⟨g2, 1, none⟩ = some (.int .i64 a2_1) := (blk_cell BK900002.out 1).trans rfl
              have hcz10_2 : wr.cell? ⟨g2, 2, none⟩ = some (.slice A2_2 l2_2.length c2_2) := (blk_cell BK900002.out 2).trans rfl
              have hcz10_3 : wr.cell? ⟨g2, 3, none⟩ = some (.slice A2_3 l2_3.length c2_3) := (blk_cell BK900002.out 3).trans rfl
              have hfz10_0 := blk_frozen BK900002.out 0
              have hfz10_1 := blk_frozen BK900002.out 1
              have hfz10_2 := blk_frozen BK900002.out 2
              have hfz10_3 := blk_frozen BK900002.out 3
              go_wp2_with (first | (go_at_call 97; (with_reducible refine (two_Check_1.calls _ _ (rd_L2 l0 x8_1) g2 a2_0 a2_1 A2_2 c2_2 l2_2 A2_3 c2_3 l2_3 false _ ?side1 ?side2 ?side3 ?side4 ?side5 ?side6 ?side7 A7.out).mono ?_); (case side1 => repeat (first | exact (Kd.C_below HR106_0.out HB.out) | (with_reducible refine Kd.C_alloc ?_ _) | (with_reducible refine Kd.C_drewN ?_ _) | (with_reducible refine Kd.C_drew ?_))); (case side2 => exact HC106_0.out); (case side3 => exact (by (with_reducible repeat (first | refine blk_drewN ?_ _ | refine blk_drew ?_ | refine blk_alloc ?_ _)); exact BK900002.out)); (case side4 => repeat (first | exact (Kd.C_below HR2_2.out HB.out) | (with_reducible refine Kd.C_alloc ?_ _) | (with_reducible refine Kd.C_drewN ?_ _) | (with_reducible refine Kd.C_drew ?_))); (case side5 => exact HC2_2.out); (case side6 => repeat (first | exact (Kd.C_below HR2_3.out HB.out) | (with_reducible refine Kd.C_alloc ?_ _) | (with_reducible refine Kd.C_drewN ?_ _) | (with_reducible refine Kd.C_drew ?_))); (case side7 => exact HC2_3.out); rintro e w' ⟨rfl, ⟨nd, rfl⟩⟩))
              go_roundg k1
              case measure => have := HK1.out; omega
              case rel => exact ⟨(wrap64 (x8_1 + 1)), (by first | rfl | (simp; done) | (simp [*]; done)), H', ⟨by have := HK1.out; omega⟩, ⟨by (with_reducible repeat (first | refine blk_drewN ?_ _ | refine blk_drew ?_ | refine blk_alloc ?_ _)); exact BK900002.out⟩, ⟨by repeat (first | (with_reducible first | exact HB.out | apply below_alloc | apply pw_below_drewN | apply below_drew1 | refine below_set ?_ GE900002.out) | exact HB.out)⟩⟩
          · rw [if_neg c6] at H
            exact absurd H (by simp)
        · rw [if_neg c5] at H
          exact absurd H (by simp)
      · rw [if_neg c4] at H
        have c4b0 : decide (x8_1 < (l0.length : Int)) = false := decide_eq_false c4
        clear c4
        obtain rfl := Option.some.inj H
        go_wp2
        go_ret
        exact ⟨by first | rfl | (simp [errW_none, errW_some] <;> rfl) | (simp [*, errW_none, errW_some] <;> rfl), by repeat (first | (with_reducible first | exact HB.out | apply below_alloc | apply pw_below_drewN | apply below_drew1 | refine below_set ?_ GE900002.out) | exact HB.out)⟩

/-! ### slices_ContainsFunc__two_Check_1: function 179 -/
def slices_ContainsFunc__two_Check_1.f (k : Nat) (l0 : List (List (S144)))  (a2_0 : Int) (a2_1 : Int) (l2_2 : List (List (S144))) (l2_3 : List Int) : Option (Bool) := (slices_IndexFunc__two_Check_1.f k l0 a2_0 a2_1 l2_2 l2_3).bind fun t108 => (some (decide (t108 ≥ 0)))
theorem slices_ContainsFunc__two_Check_1.mono : ∀ a0 a1 a2 a3 a4 k, LeO (slices_ContainsFunc__two_Check_1.f k a0 a1 a2 a3 a4) (slices_ContainsFunc__two_Check_1.f (k + 1) a0 a1 a2 a3 a4) := by
  intro a0 a1 a2 a3 a4 k
  unfold slices_ContainsFunc__two_Check_1.f
  repeat' first
      | (with_reducible exact slices_IndexFunc__two_Check_1.mono _ _ _ _ _ _)
      | (with_reducible exact LeO.refl _)
      | (with_reducible exact LeO.none _)
      | (with_reducible refine LeO.ite ?_ ?_)
      | (with_reducible refine LeO.bind ?_ (fun _ => ?_))
      | exact slices_IndexFunc__two_Check_1.mono _ _ _ _ _ _
      | exact LeO.none _
      | refine LeO.ite ?_ ?_
      | refine LeO.bind ?_ (fun _ => ?_)
set_option maxHeartbeats 8000000 in
set_option maxRecDepth 100000 in
theorem slices_ContainsFunc__two_Check_1.calls (k : Nat) (A0 : Option Addr) (c0 : Nat) (l0 : List (List (S144)))  (g2 : Nat) (a2_0 : Int) (a2_1 : Int) (A2_2 : Option Addr) (c2_2 : Nat) (l2_2 : List (List (S144))) (A2_3 : Option Addr) (c2_3 : Nat) (l2_3 : List Int) (r : Bool) (w : World) (hr0 : Kd.C (Kd.slice 144 k144) w A0 l0.length l0) (hc0 : l0.length ≤ c0) (hb2 : w.heap[g2]? = some (.cells #[.int .i64 a2_0, .int .i64 a2_1, .slice A2_2 l2_2.length c2_2, .slice A2_3 l2_3.length c2_3] 80 (0, 0))) (hr2_2 : Kd.C (Kd.slice 144 k144) w A2_2 l2_2.length l2_2) (hc2_2 : l2_2.length ≤ c2_2) (hr2_3 : Kd.C (Kd.int .i64) w A2_3 l2_3.length l2_3) (hc2_3 : l2_3.length ≤ c2_3) (h : slices_ContainsFunc__two_Check_1.f k l0 a2_0 a2_1 l2_2 l2_3 = some r) :
    Calls Try.prog 96 #[.slice A0 l0.length c0, .func (.func 97) #[] #[.pointer (some ⟨g2, 0, none⟩)]] w fun e w' => e = .returned (.bool r) ∧ Below w.heap.size w w' := by
  have HR0 := Aside0.mk hr0
  have HC0 := Aside0.mk hc0
  clear hr0 hc0
  have HR2_2 := Aside0.mk hr2_2
  have HC2_2 := Aside0.mk hc2_2
  clear hr2_2 hc2_2
  have HR2_3 := Aside0.mk hr2_3
  have HC2_3 := Aside0.mk hc2_3
  clear hr2_3 hc2_3
  have BK900002 := Aside0.mk hb2
  clear hb2
  have HB := Aside0.mk (Below.refl w.heap.size w)
  have H : ((slices_IndexFunc__two_Check_1.f k l0 a2_0 a2_1 l2_2 l2_3).bind fun t108 => (some (decide (t108 ≥ 0)))) = some r := h
  clear h
  replace H := Option.bind_eq_some_iff.mp H
  obtain ⟨t108, A40, H⟩ := H
  replace H : (some (decide (t108 ≥ 0))) = some r := H
  have A4 := Aside0.mk A40
  clear A40
  obtain rfl := Option.some.inj H
  have hcz5_0 : w.cell? ⟨g2, 0, none⟩ = some (.int .i64 a2_0) := (blk_cell BK900002.out 0).trans rfl
  have hcz5_1 : w.cell? ⟨g2, 1, none⟩ = some (.int .i64 a2_1) := (blk_cell BK900002.out 1).trans rfl
  have hcz5_2 : w.cell? ⟨g2, 2, none⟩ = some (.slice A2_2 l2_2.length c2_2) := (blk_cell BK900002.out 2).trans rfl
  have hcz5_3 : w.cell? ⟨g2, 3, none⟩ = some (.slice A2_3 l2_3.length c2_3) := (blk_cell BK900002.out 3).trans rfl
  have hfz5_0 := blk_frozen BK900002.out 0
  have hfz5_1 := blk_frozen BK900002.out 1
  have hfz5_2 := blk_frozen BK900002.out 2
  have hfz5_3 := blk_frozen BK900002.out 3
  go_enter Try.func96, Try.ntmps96
  go_wp2_with (first | ((with_reducible refine gate_callee (f := 143) rfl ?_); refine goesL_ (some 7) rfl rfl Try.func143 (by kernel_rfl) rfl #[.slice A0 l0.length c0, .func (.func 97) #[] #[.pointer (some ⟨g2, 0, none⟩)]] rfl (by (try simp only [List.map_toArray, List.map_cons, List.map_nil]); first | done | rfl | (simp only [List.length_drop, List.length_take]; rfl)) ?_; (with_reducible refine (slices_IndexFunc__two_Check_1.calls k _ _ l0 g2 a2_0 a2_1 A2_2 c2_2 l2_2 A2_3 c2_3 l2_3 t108 _ ?side1 ?side2 ?side3 ?side4 ?side5 ?side6 ?side7 A4.out).mono ?_); (case side1 => repeat (first | exact HR0.out | (with_reducible refine Kd.C_alloc ?_ _) | (with_reducible refine Kd.C_drewN ?_ _) | (with_reducible refine Kd.C_drew ?_))); (case side2 => exact HC0.out); (case side3 => exact (by (with_reducible repeat (first | refine blk_drewN ?_ _ | refine blk_drew ?_ | refine blk_alloc ?_ _)); exact BK900002.out)); (case side4 => repeat (first | exact HR2_2.out | (with_reducible refine Kd.C_alloc ?_ _) | (with_reducible refine Kd.C_drewN ?_ _) | (with_reducible refine Kd.C_drew ?_))); (case side5 => exact HC2_2.out); (case side6 => repeat (first | exact HR2_3.out | (with_reducible refine Kd.C_alloc ?_ _) | (with_reducible refine Kd.C_drewN ?_ _) | (with_reducible refine Kd.C_drew ?_))); (case side7 => exact HC2_3.out); rintro e w6 ⟨rfl, hb⟩; refine ⟨_, rfl, ?_⟩; have n0_ := Aside0.mk (blk_below (g := g2) (o := .cells #[.int .i64 a2_0, .int .i64 a2_1, .slice A2_2 l2_2.length c2_2, .slice A2_3 l2_3.length c2_3] 80 (0, 0)) (by (with_reducible repeat (first | refine blk_drewN ?_ _ | refine blk_drew ?_ | refine blk_alloc ?_ _)); exact BK900002.out) hb); have n1_ := Aside0.mk (below_step (by repeat (first | (with_reducible first | exact HB.out | apply below_alloc | apply pw_below_drewN | apply below_drew1 | refine below_set ?_ GE900002.out) | exact HB.out)) hb); clear BK900002; clear HB; have BK900002 := n0_; have HB := n1_; clear n0_ n1_; (try clear hb); (try clear hb2); (try clear hk); (try clear hi)))
  go_ret
  exact ⟨by first | rfl | (simp [errW_none, errW_some] <;> rfl) | (simp [*, errW_none, errW_some] <;> rfl), by repeat (first | (with_reducible first | exact HB.out | apply below_alloc | apply pw_below_drewN | apply below_drew1 | refine below_set ?_ GE900002.out) | exact HB.out)⟩

/-! ### two_Check_2: function 182 -/
def two_Check_2.f (a0 : Int) (a1_0 : Int) : Option (Bool) := if a0 < 0 then (some true) else (some (decide (a0 ≥ a1_0)))
set_option maxHeartbeats 8000000 in
set_option maxRecDepth 100000 in
theorem two_Check_2.calls (a0 : Int) (g1 : Nat) (a1_0 : Int) (r : Bool) (w : World) (hb1 : w.heap[g1]? = some (.cells #[.int .i64 a1_0] 3 (0, 0))) (h : two_Check_2.f a0 a1_0 = some r) :
    Calls Try.prog 98 #[.int .i64 a0, .pointer (some ⟨g1, 0, none⟩)] w fun e w' => e = .returned (.bool r) ∧ Drawn0 w w' := by
  have BK900001 := Aside0.mk hb1
  clear hb1
  have H : (if a0 < 0 then (some true) else (some (decide (a0 ≥ a1_0)))) = some r := h
  clear h
  by_cases c3 : a0 < 0
  · rw [if_pos c3] at H
    have c3b0 : decide (a0 < 0) = true := decide_eq_true c3
    clear c3
    obtain rfl := Option.some.inj H
    go_enter Try.func98, Try.ntmps98
    go_wp2
    go_ret
    exact ⟨by first | rfl | (simp; done) | (simp [*]; done), by repeat (first | exact Drawn0.refl _ | apply Drawn0.step)⟩
  · rw [if_neg c3] at H
    have c3b0 : decide (a0 < 0) = false := decide_eq_false c3
    clear c3
    obtain rfl := Option.some.inj H
    have hcz4_0 : w.cell? ⟨g1, 0, none⟩ = some (.int .i64 a1_0) := (blk_cell BK900001.out 0).trans rfl
    have hfz4_0 := blk_frozen BK900001.out 0
    go_enter Try.func98, Try.ntmps98
    go_wp2
    go_ret
    exact ⟨by first | rfl | (simp; done) | (simp [*]; done), by repeat (first | exact Drawn0.refl _ | apply Drawn0.step)⟩

/-! ### two_Check_3_1: function 188 -/
def two_Check_3_1.f (a0_0 : Int) (a0_1 : Int)  (a2_0 : Int) : Option (Bool) := (two_Check_2.f a0_0 a2_0).bind fun t121 => (if t121 = true then (some true) else (if a0_1 = 1 then (some false) else (some (a0_1 != (-1)))))
set_option maxHeartbeats 8000000 in
set_option maxRecDepth 100000 in
theorem two_Check_3_1.calls (a0_0 : Int) (a0_1 : Int) (g1 : Nat)  (g2 : Nat) (a2_0 : Int) (r : Bool) (w : World) (hb1 : w.heap[g1]? = some (.cells #[.func (.func 98) #[] #[.pointer (some ⟨g2, 0, none⟩)]] 112 (0, 0))) (hb2 : w.heap[g2]? = some (.cells #[.int .i64 a2_0] 3 (0, 0))) (h : two_Check_3_1.f a0_0 a0_1 a2_0 = some r) :
    Calls Try.prog 101 #[.agg #[.int .i64 a0_0, .int .i64 a0_1], .pointer (some ⟨g1, 0, none⟩)] w fun e w' => e = .returned (.bool r) ∧ Below w.heap.size w w' := by
  have hu144 := Try.underlying144
  have BK900001 := Aside0.mk hb1
  clear hb1
  have BK900002 := Aside0.mk hb2
  clear hb2
  have HB := Aside0.mk (Below.refl w.heap.size w)
  have H : ((two_Check_2.f a0_0 a2_0).bind fun t121 => (if t121 = true then (some true) else (if a0_1 = 1 then (some false) else (some (a0_1 != (-1)))))) = some r := h
  clear h
  replace H := Option.bind_eq_some_iff.mp H
  obtain ⟨t121, A40, H⟩ := H
  replace H : (if t121 = true then (some true) else (if a0_1 = 1 then (some false) else (some (a0_1 != (-1))))) = some r := H
  have A4 := Aside0.mk A40
  clear A40
  by_cases c5 : t121 = true
  · subst c5
    have H1 : (some true) = some r := by rw [if_pos rfl] at H; exact H
    clear H
    have H := H1
    clear H1
    obtain rfl := Option.some.inj H
    go_enter Try.func101, Try.ntmps101
    go_wp2_with (first | ((with_reducible refine gate_dst (N := 2) rfl ?_); refine box_event ?hg (N := 2) ?hd (cs := #[.int .i64 a0_0, .int .i64 a0_1]) (t := 144) ?hr ?_; (case hd => rfl); (case hg => rfl); (case hr => first | (go_simp; done) | (go_simp; rfl)); intro gb120 hg w6 hbox hb; have n0_ := Aside0.mk (blk_below (g := g1) (o := .cells #[.func (.func 98) #[] #[.pointer (some ⟨g2, 0, none⟩)]] 112 (0, 0)) (by (with_reducible repeat (first | refine blk_drewN ?_ _ | refine blk_drew ?_ | refine blk_alloc ?_ _)); exact BK900001.out) hb); have n1_ := Aside0.mk (blk_below (g := g2) (o := .cells #[.int .i64 a2_0] 3 (0, 0)) (by (with_reducible repeat (first | refine blk_drewN ?_ _ | refine blk_drew ?_ | refine blk_alloc ?_ _)); exact BK900002.out) hb); have n2_ := Aside0.mk (below_step (by repeat (first | (with_reducible first | exact HB.out | apply below_alloc | apply pw_below_drewN | apply below_drew1 | refine below_set ?_ GE900001.out | refine below_set ?_ GE900002.out) | exact HB.out)) hb); have n3_ := Aside0.mk (hbox); have n4_ := Aside0.mk ((by rw [hg]; exact (below_size (by repeat (first | (with_reducible first | exact HB.out | apply below_alloc | apply pw_below_drewN | apply below_drew1 | refine below_set ?_ GE900001.out | refine below_set ?_ GE900002.out) | exact HB.out))) : w.heap.size ≤ gb120)); have n5_ := Aside0.mk ((by rw [hg]; exact (below_size (by repeat (first | (with_reducible first | exact HB.out | apply below_alloc | apply pw_below_drewN | apply below_drew1 | refine below_set ?_ GE900001.out | refine below_set ?_ GE900002.out) | exact HB.out))) : w.heap.size ≤ gb120)); have n6_ := Aside0.mk ((by rw [hg]; exact Nat.ne_of_lt (blk_lt (g := g1) (o := .cells #[.func (.func 98) #[] #[.pointer (some ⟨g2, 0, none⟩)]] 112 (0, 0)) (by (with_reducible repeat (first | refine blk_drewN ?_ _ | refine blk_drew ?_ | refine blk_alloc ?_ _)); exact BK900001.out)) : g1 ≠ gb120)); have n7_ := Aside0.mk ((by rw [hg]; exact Nat.ne_of_gt (blk_lt (g := g1) (o := .cells #[.func (.func 98) #[] #[.pointer (some ⟨g2, 0, none⟩)]] 112 (0, 0)) (by (with_reducible repeat (first | refine blk_drewN ?_ _ | refine blk_drew ?_ | refine blk_alloc ?_ _)); exact BK900001.out)) : gb120 ≠ g1)); have n8_ := Aside0.mk ((by rw [hg]; exact Nat.ne_of_lt (blk_lt (g := g2) (o := .cells #[.int .i64 a2_0] 3 (0, 0)) (by (with_reducible repeat (first | refine blk_drewN ?_ _ | refine blk_drew ?_ | refine blk_alloc ?_ _)); exact BK900002.out)) : g2 ≠ gb120)); have n9_ := Aside0.mk ((by rw [hg]; exact Nat.ne_of_gt (blk_lt (g := g2) (o := .cells #[.int .i64 a2_0] 3 (0, 0)) (by (with_reducible repeat (first | refine blk_drewN ?_ _ | refine blk_drew ?_ | refine blk_alloc ?_ _)); exact BK900002.out)) : gb120 ≠ g2)); clear BK900001; clear BK900002; clear HB; have BK900001 := n0_; have BK900002 := n1_; have HB := n2_; have BK120 := n3_; have GW120 := n4_; have GE120 := n5_; have NB900001_120 := n6_; have NB120_900001 := n7_; have NB900002_120 := n8_; have NB120_900002 := n9_; clear n0_ n1_ n2_ n3_ n4_ n5_ n6_ n7_ n8_ n9_; clear hb hbox hg; have hcz7_0 : w6.cell? ⟨g1, 0, none⟩ = some (.func (.func 98) #[] #[.pointer (some ⟨g2, 0, none⟩)]) := (blk_cell BK900001.out 0).trans rfl; have hfz7_0 := blk_frozen BK900001.out 0; have hcz8_0 : w6.cell? ⟨gb120, 0, none⟩ = some (.int .i64 a0_0) := (blk_cell BK120.out 0).trans rfl; have hcz8_1 : w6.cell? ⟨gb120, 1, none⟩ = some (.int .i64 a0_1) := (blk_cell BK120.out 1).trans rfl; have hfz8_0 := blk_frozen BK120.out 0; have hfz8_1 := blk_frozen BK120.out 1; have hcz9_0 : w6.cell? ⟨g2, 0, none⟩ = some (.int .i64 a2_0) := (blk_cell BK900002.out 0).trans rfl; have hfz9_0 := blk_frozen BK900002.out 0) | (go_at_call 98; (with_reducible refine (two_Check_2.calls a0_0 g2 a2_0 true _ ?side1 A4.out).mono ?_); (case side1 => exact (by (with_reducible repeat (first | refine blk_drewN ?_ _ | refine blk_drew ?_ | refine blk_alloc ?_ _)); exact BK900002.out)); rintro e w' ⟨rfl, ⟨nd, rfl⟩⟩))
    go_ret
    exact ⟨by first | rfl | (simp [errW_none, errW_some] <;> rfl) | (simp [*, errW_none, errW_some] <;> rfl), by repeat (first | (with_reducible first | exact HB.out | apply below_alloc | apply pw_below_drewN | apply below_drew1 | refine below_set ?_ GE900001.out | refine below_set ?_ GE900002.out | refine below_set ?_ GE120.out) | exact HB.out)⟩
  · replace c5 := Bool.eq_false_iff.mpr c5
    subst c5
    have H1 : (if a0_1 = 1 then (some false) else (some (a0_1 != (-1)))) = some r := by rw [if_neg (show ¬ (false = true) by decide)] at H; exact H
    clear H
    have H := H1
    clear H1
    by_cases c10 : a0_1 = 1
    · rw [if_pos c10] at H
      have c10b0 : (a0_1 == 1) = true := beq_iff_eq.mpr c10
      have c10b1 : (a0_1 != 1) = false := bne_eq_false_iff_eq.mpr c10
      clear c10
      obtain rfl := Option.some.inj H
      go_enter Try.func101, Try.ntmps101
      go_wp2_with (first | ((with_reducible refine gate_dst (N := 2) rfl ?_); refine box_event ?hg (N := 2) ?hd (cs := #[.int .i64 a0_0, .int .i64 a0_1]) (t := 144) ?hr ?_; (case hd => rfl); (case hg => rfl); (case hr => first | (go_simp; done) | (go_simp; rfl)); intro gb120 hg w11 hbox hb; have n0_ := Aside0.mk (blk_below (g := g1) (o := .cells #[.func (.func 98) #[] #[.pointer (some ⟨g2, 0, none⟩)]] 112 (0, 0)) (by (with_reducible repeat (first | refine blk_drewN ?_ _ | refine blk_drew ?_ | refine blk_alloc ?_ _)); exact BK900001.out) hb); have n1_ := Aside0.mk (blk_below (g := g2) (o := .cells #[.int .i64 a2_0] 3 (0, 0)) (by (with_reducible repeat (first | refine blk_drewN ?_ _ | refine blk_drew ?_ | refine blk_alloc ?_ _)); exact BK900002.out) hb); have n2_ := Aside0.mk (below_step (by repeat (first | (with_reducible first | exact HB.out | apply below_alloc | apply pw_below_drewN | apply below_drew1 | refine below_set ?_ GE900001.out | refine below_set ?_ GE900002.out) | exact HB.out)) hb); have n3_ := Aside0.mk (hbox); have n4_ := Aside0.mk ((by rw [hg]; exact (below_size (by repeat (first | (with_reducible first | exact HB.out | apply below_alloc | apply pw_below_drewN | apply below_drew1 | refine below_set ?_ GE900001.out | refine below_set ?_ GE900002.out) | exact HB.out))) : w.heap.size ≤ gb120)); have n5_ := Aside0.mk ((by rw [hg]; exact (below_size (by repeat (first | (with_reducible first | exact HB.out | apply below_alloc | apply pw_below_drewN | apply below_drew1 | refine below_set ?_ GE900001.out | refine below_set ?_ GE900002.out) | exact HB.out))) : w.heap.size ≤ gb120)); have n6_ := Aside0.mk ((by rw [hg]; exact Nat.ne_of_lt (blk_lt (g := g1) (o := .cells #[.func (.func 98) #[] #[.pointer (some ⟨g2, 0, none⟩)]] 112 (0, 0)) (by (with_reducible repeat (first | refine blk_drewN ?_ _ | refine blk_drew ?_ | refine blk_alloc ?_ _)); exact BK900001.out)) : g1 ≠ gb120)); have n7_ := Aside0.mk ((by rw [hg]; exact Nat.ne_of_gt (blk_lt (g := g1) (o := .cells #[.func (.func 98) #[] #[.pointer (some ⟨g2, 0, none⟩)]] 112 (0, 0)) (by (with_reducible repeat (first | refine blk_drewN ?_ _ | refine blk_drew ?_ | refine blk_alloc ?_ _)); exact BK900001.out)) : gb120 ≠ g1)); have n8_ := Aside0.mk ((by rw [hg]; exact Nat.ne_of_lt (blk_lt (g := g2) (o := .cells #[.int .i64 a2_0] 3 (0, 0)) (by (with_reducible repeat (first | refine blk_drewN ?_ _ | refine blk_drew ?_ | refine blk_alloc ?_ _)); exact BK900002.out)) : g2 ≠ gb120)); have n9_ := Aside0.mk ((by rw [hg]; exact Nat.ne_of_gt (blk_lt (g := g2) (o := .cells #[.int .i64 a2_0] 3 (0, 0)) (by (with_reducible repeat (first | refine blk_drewN ?_ _ | refine blk_drew ?_ | refine blk_alloc ?_ _)); exact BK900002.out)) : gb120 ≠ g2)); clear BK900001; clear BK900002; clear HB; have BK900001 := n0_; have BK900002 := n1_; have HB := n2_; have BK120 := n3_; have GW120 := n4_; have GE120 := n5_; have NB900001_120 := n6_; have NB120_900001 := n7_; have NB900002_120 := n8_; have NB120_900002 := n9_; clear n0_ n1_ n2_ n3_ n4_ n5_ n6_ n7_ n8_ n9_; clear hb hbox hg; have hcz12_0 : w11.cell? ⟨g1, 0, none⟩ = some (.func (.func 98) #[] #[.pointer (some ⟨g2, 0, none⟩)]) := (blk_cell BK900001.out 0).trans rfl; have hfz12_0 := blk_frozen BK900001.out 0; have hcz13_0 : w11.cell? ⟨gb120, 0, none⟩ = some (.int .i64 a0_0) := (blk_cell BK120.out 0).trans rfl; have hcz13_1 : w11.cell? ⟨gb120, 1, none⟩ = some (.int .i64 a0_1) := (blk_cell BK120.out 1).trans rfl; have hfz13_0 := blk_frozen BK120.out 0; have hfz13_1 := blk_frozen BK120.out 1; have hcz14_0 : w11.cell? ⟨g2, 0, none⟩ = some (.int .i64 a2_0) := (blk_cell BK900002.out 0).trans rfl; have hfz14_0 := blk_frozen BK900002.out 0) | (go_at_call 98; (with_reducible refine (two_Check_2.calls a0_0 g2 a2_0 false _ ?side1 A4.out).mono ?_); (case side1 => exact (by (with_reducible repeat (first | refine blk_drewN ?_ _ | refine blk_drew ?_ | refine blk_alloc ?_ _)); exact BK900002.out)); rintro e w' ⟨rfl, ⟨nd, rfl⟩⟩))
      go_ret
      exact ⟨by first | rfl | (simp [errW_none, errW_some] <;> rfl) | (simp [*, errW_none, errW_some] <;> rfl), by repeat (first | (with_reducible first | exact HB.out | apply below_alloc | apply pw_below_drewN | apply below_drew1 | refine below_set ?_ GE900001.out | refine below_set ?_ GE900002.out | refine below_set ?_ GE120.out) | exact HB.out)⟩
    · rw [if_neg c10] at H
      have c10b0 : (a0_1 == 1) = false := beq_eq_false_iff_ne.mpr c10
      have c10b1 : (a0_1 != 1) = true := bne_iff_ne.mpr c10
      obtain rfl := Option.some.inj H
      go_enter Try.func101, Try.ntmps101
      go_wp2_with (first | ((with_reducible refine gate_dst (N := 2) rfl ?_); refine box_event ?hg (N := 2) ?hd (cs := #[.int .i64 a0_0, .int .i64 a0_1]) (t := 144) ?hr ?_; (case hd => rfl); (case hg => rfl); (case hr => first | (go_simp; done) | (go_simp; rfl)); intro gb120 hg w15 hbox hb; have n0_ := Aside0.mk (blk_below (g := g1) (o := .cells #[.func (.func 98) #[] #[.pointer (some ⟨g2, 0, none⟩)]] 112 (0, 0)) (by (with_reducible repeat (first | refine blk_drewN ?_ _ | refine blk_drew ?_ | refine blk_alloc ?_ _)); exact BK900001.out) hb); have n1_ := Aside0.mk (blk_below (g := g2) (o := .cells #[.int .i64 a2_0] 3 (0, 0)) (by (with_reducible repeat (first | refine blk_drewN ?_ _ | refine blk_drew ?_ | refine blk_alloc ?_ _)); exact BK900002.out) hb); have n2_ := Aside0.mk (below_step (by repeat (first | (with_reducible first | exact HB.out | apply below_alloc | apply pw_below_drewN | apply below_drew1 | refine below_set ?_ GE900001.out | refine below_set ?_ GE900002.out) | exact HB.out)) hb); have n3_ := Aside0.mk (hbox); have n4_ := Aside0.mk ((by rw [hg]; exact (below_size (by repeat (first | (with_reducible first | exact HB.out | apply below_alloc | apply pw_below_drewN | apply below_drew1 | refine below_set ?_ GE900001.out | refine below_set ?_ GE900002.out) | exact HB.out))) : w.heap.size ≤ gb120)); have n5_ := Aside0.mk ((by rw [hg]; exact (below_size (by repeat (first | (with_reducible first | exact HB.out | apply below_alloc | apply pw_below_drewN | apply below_drew1 | refine below_set ?_ GE900001.out | refine below_set ?_ GE900002.out) | exact HB.out))) : w.heap.size ≤ gb120)); have n6_ := Aside0.mk ((by rw [hg]; exact Nat.ne_of_lt (blk_lt (g := g1) (o := .cells #[.func (.func 98) #[] #[.pointer (some ⟨g2, 0, none⟩)]] 112 (0, 0)) (by (with_reducible repeat (first | refine blk_drewN ?_ _ | refine blk_drew ?_ | refine blk_alloc ?_ _)); exact BK900001.out)) : g1 ≠ gb120)); have n7_ := Aside0.mk ((by rw [hg]; exact Nat.ne_of_gt (blk_lt (g := g1) (o := .cells #[.func (.func 98) #[] #[.pointer (some ⟨g2, 0, none⟩)]] 112 (0, 0)) (by (with_reducible repeat (first | refine blk_drewN ?_ _ | refine blk_drew ?_ | refine blk_alloc ?_ _)); exact BK900001.out)) : gb120 ≠ g1)); have n8_ := Aside0.mk ((by rw [hg]; exact Nat.ne_of_lt (blk_lt (g := g2) (o := .cells #[.int .i64 a2_0] 3 (0, 0)) (by (with_reducible repeat (first | refine blk_drewN ?_ _ | refine blk_drew ?_ | refine blk_alloc ?_ _)); exact BK900002.out)) : g2 ≠ gb120)); have n9_ := Aside0.mk ((by rw [hg]; exact Nat.ne_of_gt (blk_lt (g := g2) (o := .cells #[.int .i64 a2_0] 3 (0, 0)) (by (with_reducible repeat (first | refine blk_drewN ?_ _ | refine blk_drew ?_ | refine blk_alloc ?_ _)); exact BK900002.out)) : gb120 ≠ g2)); clear BK900001; clear BK900002; clear HB; have BK900001 := n0_; have BK900002 := n1_; have HB := n2_; have BK120 := n3_; have GW120 := n4_; have GE120 := n5_; have NB900001_120 := n6_; have NB120_900001 := n7_; have NB900002_120 := n8_; have NB120_900002 := n9_; clear n0_ n1_ n2_ n3_ n4_ n5_ n6_ n7_ n8_ n9_; clear hb hbox hg; have hcz16_0 : w15.cell? ⟨g1, 0, none⟩ = some (.func (.func 98) #[] #[.pointer (some ⟨g2, 0, none⟩)]) := (blk_cell BK900001.out 0).trans rfl; have hfz16_0 := blk_frozen BK900001.out 0; have hcz17_0 : w15.cell? ⟨gb120, 0, none⟩ = some (.int .i64 a0_0) := (blk_cell BK120.out 0).trans rfl; have hcz17_1 : w15.cell? ⟨gb120, 1, none⟩ = some (.int .i64 a0_1) := (blk_cell BK120.out 1).trans rfl; have hfz17_0 := blk_frozen BK120.out 0; have hfz17_1 := blk_frozen BK120.out 1; have hcz18_0 : w15.cell? ⟨g2, 0, none⟩ = some (.int .i64 a2_0) := (blk_cell BK900002.out 0).trans rfl; have hfz18_0 := blk_frozen BK900002.out 0) | (go_at_call 98; (with_reducible refine (two_Check_2.calls a0_0 g2 a2_0 false _ ?side1 A4.out).mono ?_); (case side1 => exact (by (with_reducible repeat (first | refine blk_drewN ?_ _ | refine blk_drew ?_ | refine blk_alloc ?_ _)); exact BK900002.out)); rintro e w' ⟨rfl, ⟨nd, rfl⟩⟩))
      go_ret
      exact ⟨by first | rfl | (simp [errW_none, errW_some] <;> rfl) | (simp [*, errW_none, errW_some] <;> rfl), by repeat (first | (with_reducible first | exact HB.out | apply below_alloc | apply pw_below_drewN | apply below_drew1 | refine below_set ?_ GE900001.out | refine below_set ?_ GE900002.out | refine below_set ?_ GE120.out) | exact HB.out)⟩

/-! ### slices_IndexFunc__two_Check_3_1: function 187 -/
def slices_IndexFunc__two_Check_3_1.l0 : Nat → List (S144) → Int → Int → Int → Option (Int)
  | 0, _, _, _, _ => none
  | k + 1, x0, x7, x8, x900004000 => if x8 < x7 then (if 0 ≤ x8 then (if x8 < (x0.length : Int) then ((two_Check_3_1.f ((rd_T144 x0 x8).f0) ((rd_T144 x0 x8).f1) x900004000).bind fun t123 => (if t123 = true then (some x8) else (slices_IndexFunc__two_Check_3_1.l0 k x0 x7 (wrap64 (x8 + 1)) x900004000))) else (none)) else (none)) else (some (-1))
def slices_IndexFunc__two_Check_3_1.f (k : Nat) (l0 : List (S144))   (a3_0 : Int) : Option (Int) := slices_IndexFunc__two_Check_3_1.l0 k l0 (l0.length : Int) 0 a3_0
theorem slices_IndexFunc__two_Check_3_1.mono_l : ∀ k, (∀ y0 y1 y2 y3, LeO (slices_IndexFunc__two_Check_3_1.l0 k y0 y1 y2 y3) (slices_IndexFunc__two_Check_3_1.l0 (k + 1) y0 y1 y2 y3))
  | 0 => fun _ _ _ _ r h => by simp [slices_IndexFunc__two_Check_3_1.l0] at h
  | k + 1 => by
    have ih0 := slices_IndexFunc__two_Check_3_1.mono_l k
    · intro y0 y1 y2 y3
      unfold slices_IndexFunc__two_Check_3_1.l0
      repeat' first
      | (with_reducible exact ih0 _ _ _ _)
      | (with_reducible exact LeO.refl _)
      | (with_reducible exact LeO.none _)
      | (with_reducible refine LeO.ite ?_ ?_)
      | (with_reducible refine LeO.bind ?_ (fun _ => ?_))
      | exact ih0 _ _ _ _
      | exact LeO.none _
      | refine LeO.ite ?_ ?_
      | refine LeO.bind ?_ (fun _ => ?_)
theorem slices_IndexFunc__two_Check_3_1.mono : ∀ a0 a1 k, LeO (slices_IndexFunc__two_Check_3_1.f k a0 a1) (slices_IndexFunc__two_Check_3_1.f (k + 1) a0 a1) := by
  intro a0 a1 k
  have ih0 := slices_IndexFunc__two_Check_3_1.mono_l k
  unfold slices_IndexFunc__two_Check_3_1.f
  repeat' first
      | (with_reducible exact ih0 _ _ _ _)
      | (with_reducible exact LeO.refl _)
      | (with_reducible exact LeO.none _)
      | (with_reducible refine LeO.ite ?_ ?_)
      | (with_reducible refine LeO.bind ?_ (fun _ => ?_))
      | exact ih0 _ _ _ _
      | exact LeO.none _
      | refine LeO.ite ?_ ?_
      | refine LeO.bind ?_ (fun _ => ?_)
set_option maxHeartbeats 8000000 in
set_option maxRecDepth 100000 in
theorem slices_IndexFunc__two_Check_3_1.calls (k : Nat) (A0 : Option Addr) (c0 : Nat) (l0 : List (S144))  (g2 : Nat)  (g3 : Nat) (a3_0 : Int) (r : Int) (w : World) (hr0 : Kd.C k144 w A0 l0.length l0) (hc0 : l0.length ≤ c0) (hb2 : w.heap[g2]? = some (.cells #[.func (.func 98) #[] #[.pointer (some ⟨g3, 0, none⟩)]] 112 (0, 0))) (hb3 : w.heap[g3]? = some (.cells #[.int .i64 a3_0] 3 (0, 0))) (h : slices_IndexFunc__two_Check_3_1.f k l0 a3_0 = some r) :
    Calls Try.prog 144 #[.slice A0 l0.length c0, .func (.func 101) #[] #[.pointer (some ⟨g2, 0, none⟩)]] w fun e w' => e = .returned (.int .i64 r) ∧ Below w.heap.size w w' := by
  have hu144 := Try.underlying144
  have HR0 := Aside0.mk hr0
  have HC0 := Aside0.mk hc0
  clear hr0 hc0
  have BK900002 := Aside0.mk hb2
  clear hb2
  have BK900003 := Aside0.mk hb3
  clear hb3
  have HB := Aside0.mk (Below.refl w.heap.size w)
  have H : (slices_IndexFunc__two_Check_3_1.l0 k l0 (l0.length : Int) 0 a3_0) = some r := h
  clear h
  have H' := Aside0.mk H
  clear H
  go_enter Try.func144, Try.ntmps144
  go_wp2
  go_loopg [8] k (fun kq v8 w' => ∃ (x8_1 : Int), v8 = .int .i64 x8_1 ∧ Aside0 (slices_IndexFunc__two_Check_3_1.l0 kq l0 (l0.length : Int) x8_1 a3_0 = some r) ∧ Aside0 (kq ≤ k) ∧ Aside0 (w'.heap[g2]? = some (.cells #[(.func (.func 98) #[] #[.pointer (some ⟨g3, 0, none⟩)])] 112 (0, 0))) ∧ Aside0 (w'.heap[g3]? = some (.cells #[.int .i64 a3_0] 3 (0, 0))) ∧ Aside0 (Below w.heap.size w w'))
  case atStart => exact ⟨(0), (by first | rfl | (simp; done) | (simp [*]; done)), H', ⟨Nat.le_refl _⟩, ⟨by (with_reducible repeat (first | refine blk_drewN ?_ _ | refine blk_drew ?_ | refine blk_alloc ?_ _)); exact BK900002.out⟩, ⟨by (with_reducible repeat (first | refine blk_drewN ?_ _ | refine blk_drew ?_ | refine blk_alloc ?_ _)); exact BK900003.out⟩, ⟨by repeat (first | (with_reducible first | exact HB.out | apply below_alloc | apply pw_below_drewN | apply below_drew1 | refine below_set ?_ GE900002.out | refine below_set ?_ GE900003.out) | exact HB.out)⟩⟩
  case round =>
    clear H'
    try clear c1
    try clear p2
    obtain ⟨x8_1, rfl, HA, HK1, BK900002, BK900003, HB⟩ := hrel
    cases gk with
    | zero => exact absurd HA.out (by simp [slices_IndexFunc__two_Check_3_1.l0])
    | succ k1 =>
      have H := HA.out
      clear HA
      simp only [slices_IndexFunc__two_Check_3_1.l0] at H
      by_cases c5 : x8_1 < (l0.length : Int)
      · rw [if_pos c5] at H
        have c5b0 : decide (x8_1 < (l0.length : Int)) = true := decide_eq_true c5
        clear c5
        by_cases c6 : 0 ≤ x8_1
        · rw [if_pos c6] at H
          have c6b0 : decide (0 ≤ x8_1) = true := decide_eq_true c6
          clear c6
          by_cases c7 : x8_1 < (l0.length : Int)
          · rw [if_pos c7] at H
            have c7b0 : decide (x8_1 < (l0.length : Int)) = true := decide_eq_true c7
            clear c7
            replace H := Option.bind_eq_some_iff.mp H
            obtain ⟨t123, A80, H⟩ := H
            replace H : (if t123 = true then (some x8_1) else (slices_IndexFunc__two_Check_3_1.l0 k1 l0 (l0.length : Int) (wrap64 (x8_1 + 1)) a3_0)) = some r := H
            have A8 := Aside0.mk A80
            clear A80
            by_cases c9 : t123 = true
            · subst c9
              have H1 : (some x8_1) = some r := by rw [if_pos rfl] at H; exact H
              clear H
              have H := H1
              clear H1
              obtain rfl := Option.some.inj H
              have p122 : 0 ≤ (x8_1 : Int) := of_decide_eq_true (by first | (with_reducible assumption) | assumption)
              have q122 : x8_1 < (l0.length : Int) := of_decide_eq_true (by first | (with_reducible assumption) | assumption)
              obtain ⟨ad122, e122, hx122_0, hx122_1⟩ := at_T144 HR0.out x8_1 p122 q122
              cases e122
              replace hx122_0 := (HB.out.cell (World.block_lt_of_cell? w _ hx122_0)).trans hx122_0
              replace hx122_1 := (HB.out.cell (World.block_lt_of_cell? w _ hx122_1)).trans hx122_1
              replace p122 := eq_true p122
              replace q122 := eq_true q122
              have hcz10_0 : wr.cell? ⟨g2, 0, none⟩ = some (.func (.func 98) #[] #[.pointer (some ⟨g3, 0, none⟩)]) := (blk_cell BK900002.out 0).trans rfl
              have hfz10_0 := blk_frozen BK900002.out 0
              have hcz11_0 : wr.cell? ⟨g3, 0, none⟩ = some (.int .i64 a3_0) := (blk_cell BK900003.out 0).trans rfl
              have hfz11_0 := blk_frozen BK900003.out 0
              go_wp2_with (first | (go_at_call 101; (with_reducible refine (two_Check_3_1.calls ((rd_T144 l0 x8_1).f0) ((rd_T144 l0 x8_1).f1) g2  g3 a3_0 true _ ?side1 ?side2 A8.out).mono ?_); (case side1 => exact (by (with_reducible repeat (first | refine blk_drewN ?_ _ | refine blk_drew ?_ | refine blk_alloc ?_ _)); exact BK900002.out)); (case side2 => exact (by (with_reducible repeat (first | refine blk_drewN ?_ _ | refine blk_drew ?_ | refine blk_alloc ?_ _)); exact BK900003.out)); rintro e w12 ⟨rfl, hb⟩; have n0_ := Aside0.mk (blk_below (g := g2) (o := .cells #[.func (.func 98) #[] #[.pointer (some ⟨g3, 0, none⟩)]] 112 (0, 0)) (by (with_reducible repeat (first | refine blk_drewN ?_ _ | refine blk_drew ?_ | refine blk_alloc ?_ _)); exact BK900002.out) hb); have n1_ := Aside0.mk (blk_below (g := g3) (o := .cells #[.int .i64 a3_0] 3 (0, 0)) (by (with_reducible repeat (first | refine blk_drewN ?_ _ | refine blk_drew ?_ | refine blk_alloc ?_ _)); exact BK900003.out) hb); have n2_ := Aside0.mk (below_step (by repeat (first | (with_reducible first | exact HB.out | apply below_alloc | apply pw_below_drewN | apply below_drew1 | refine below_set ?_ GE900002.out | refine below_set ?_ GE900003.out) | exact HB.out)) hb); clear BK900002; clear BK900003; clear HB; have BK900002 := n0_; have BK900003 := n1_; have HB := n2_; clear n0_ n1_ n2_; (try clear hb); (try clear hb2); (try clear hk); (try clear hi)))
              go_ret
              exact ⟨by first | rfl | (simp [errW_none, errW_some] <;> rfl) | (simp [*, errW_none, errW_some] <;> rfl), by repeat (first | (with_reducible first | exact HB.out | apply below_alloc | apply pw_below_drewN | apply below_drew1 | refine below_set ?_ GE900002.out | refine below_set ?_ GE900003.out) | exact HB.out)⟩
            · replace c9 := Bool.eq_false_iff.mpr c9
              subst c9
              have H1 : (slices_IndexFunc__two_Check_3_1.l0 k1 l0 (l0.length : Int) (wrap64 (x8_1 + 1)) a3_0) = some r := by rw [if_neg (show ¬ (false = true) by decide)] at H; exact H
              clear H
              have H := H1
              clear H1
              have H' := Aside0.mk H
              clear H
              have p122 : 0 ≤ (x8_1 : Int) := of_decide_eq_true (by first | (with_reducible assumption) | assumption)
              have q122 : x8_1 < (l0.length : Int) := of_decide_eq_true (by first | (with_reducible assumption) | assumption)
              obtain ⟨ad122, e122, hx122_0, hx122_1⟩ := at_T144 HR0.out x8_1 p122 q122
              cases e122
              replace hx122_0 := (HB.out.cell (World.block_lt_of_cell? w _ hx122_0)).trans hx122_0
              replace hx122_1 := (HB.out.cell (World.block_lt_of_cell? w _ hx122_1)).trans hx122_1
              replace p122 := eq_true p122
              replace q122 := eq_true q122
              have hcz13_0 : wr.cell? ⟨g2, 0, none⟩ = some (.func (.func 98) #[] #[.pointer (some ⟨g3, 0, none⟩)]) := (blk_cell BK900002.out 0).trans rfl
              have hfz13_0 := blk_frozen BK900002.out 0
              have hcz14_0 : wr.cell? ⟨g3, 0, none⟩ = some (.int .i64 a3_0) := (blk_cell BK900003.out 0).trans rfl
              have hfz14_0 := blk_frozen BK900003.out 0
              go_wp2_with (first | (go_at_call 101; (with_reducible refine (two_Check_3_1.calls ((rd_T144 l0 x8_1).f0) ((rd_T144 l0 x8_1).f1) g2  g3 a3_0 false _ ?side1 ?side2 A8.out).mono ?_); (case side1 => exact (by (with_reducible repeat (first | refine blk_drewN ?_ _ | refine blk_drew ?_ | refine blk_alloc ?_ _)); exact BK900002.out)); (case side2 => exact (by (with_reducible repeat (first | refine blk_drewN ?_ _ | refine blk_drew ?_ | refine blk_alloc ?_ _)); exact BK900003.out)); rintro e w15 ⟨rfl, hb⟩; have n0_ := Aside0.mk (blk_below (g := g2) (o := .cells #[.func (.func 98) #[] #[.pointer (some ⟨g3, 0, none⟩)]] 112 (0, 0)) (by (with_reducible repeat (first | refine blk_drewN ?_ _ | refine blk_drew ?_ | refine blk_alloc ?_ _)); exact BK900002.out) hb); have n1_ := Aside0.mk (blk_below (g := g3) (o := .cells #[.int .i64 a3_0] 3 (0, 0)) (by (with_reducible repeat (first | refine blk_drewN ?_ _ | refine blk_drew ?_ | refine blk_alloc ?_ _)); exact BK900003.out) hb); have n2_ := Aside0.mk (below_step (by repeat (first | (with_reducible first | exact HB.out | apply below_alloc | apply pw_below_drewN | apply below_drew1 | refine below_set ?_ GE900002.out | refine below_set ?_ GE900003.out) | exact HB.out)) hb); clear BK900002; clear BK900003; clear HB; have BK900002 := n0_; have BK900003 := n1_; have HB := n2_; clear n0_ n1_ n2_; (try clear hb); (try clear hb2); (try clear hk); (try clear hi)))
              go_roundg k1
              case measure => have := HK1.out; omega
              case rel => exact ⟨(wrap64 (x8_1 + 1)), (by first | rfl | (simp; done) | (simp [*]; done)), H', ⟨by have := HK1.out; omega⟩, ⟨by (with_reducible repeat (first | refine blk_drewN ?_ _ | refine blk_drew ?_ | refine blk_alloc ?_ _)); exact BK900002.out⟩, ⟨by (with_reducible repeat (first | refine blk_drewN ?_ _ | refine blk_drew ?_ | refine blk_alloc ?_ _)); exact BK900003.out⟩, ⟨by repeat (first | (with_reducible first | exact HB.out | apply below_alloc | apply pw_below_drewN | apply below_drew1 | refine below_set ?_ GE900002.out | refine below_set ?_ GE900003.out) | exact HB.out)⟩⟩
          · rw [if_neg c7] at H
            exact absurd H (by simp)
        · rw [if_neg c6] at H
          exact absurd H (by simp)
      · rw [if_neg c5] at H
        have c5b0 : decide (x8_1 < (l0.length : Int)) = false := decide_eq_false c5
        clear c5
        obtain rfl := Option.some.inj H
        go_wp2
        go_ret
        exact ⟨by first | rfl | (simp [errW_none, errW_some] <;> rfl) | (simp [*, errW_none, errW_some] <;> rfl), by repeat (first | (with_reducible first | exact HB.out | apply below_alloc | apply pw_below_drewN | apply below_drew1 | refine below_set ?_ GE900002.out | refine below_set ?_ GE900003.out) | exact HB.out)⟩

/-! ### slices_ContainsFunc__two_Check_3_1: function 186 -/
def slices_ContainsFunc__two_Check_3_1.f (k : Nat) (l0 : List (S144))   (a3_0 : Int) : Option (Bool) := (slices_IndexFunc__two_Check_3_1.f k l0 a3_0).bind fun t124 => (some (decide (t124 ≥ 0)))
theorem slices_ContainsFunc__two_Check_3_1.mono : ∀ a0 a1 k, LeO (slices_ContainsFunc__two_Check_3_1.f k a0 a1) (slices_ContainsFunc__two_Check_3_1.f (k + 1) a0 a1) := by
  intro a0 a1 k
  unfold slices_ContainsFunc__two_Check_3_1.f
  repeat' first
      | (with_reducible exact slices_IndexFunc__two_Check_3_1.mono _ _ _)
      | (with_reducible exact LeO.refl _)
      | (with_reducible exact LeO.none _)
      | (with_reducible refine LeO.ite ?_ ?_)
      | (with_reducible refine LeO.bind ?_ (fun _ => ?_))
      | exact slices_IndexFunc__two_Check_3_1.mono _ _ _
      | exact LeO.none _
      | refine LeO.ite ?_ ?_
      | refine LeO.bind ?_ (fun _ => ?_)
set_option maxHeartbeats 8000000 in
set_option maxRecDepth 100000 in
theorem slices_ContainsFunc__two_Check_3_1.calls (k : Nat) (A0 : Option Addr) (c0 : Nat) (l0 : List (S144))  (g2 : Nat)  (g3 : Nat) (a3_0 : Int) (r : Bool) (w : World) (hr0 : Kd.C k144 w A0 l0.length l0) (hc0 : l0.length ≤ c0) (hb2 : w.heap[g2]? = some (.cells #[.func (.func 98) #[] #[.pointer (some ⟨g3, 0, none⟩)]] 112 (0, 0))) (hb3 : w.heap[g3]? = some (.cells #[.int .i64 a3_0] 3 (0, 0))) (h : slices_ContainsFunc__two_Check_3_1.f k l0 a3_0 = some r) :
    Calls Try.prog 100 #[.slice A0 l0.length c0, .func (.func 101) #[] #[.pointer (some ⟨g2, 0, none⟩)]] w fun e w' => e = .returned (.bool r) ∧ Below w.heap.size w w' := by
  have HR0 := Aside0.mk hr0
  have HC0 := Aside0.mk hc0
  clear hr0 hc0
  have BK900002 := Aside0.mk hb2
  clear hb2
  have BK900003 := Aside0.mk hb3
  clear hb3
  have HB := Aside0.mk (Below.refl w.heap.size w)
  have H : ((slices_IndexFunc__two_Check_3_1.f k l0 a3_0).bind fun t124 => (some (decide (t124 ≥ 0)))) = some r := h
  clear h
  replace H := Option.bind_eq_some_iff.mp H
  obtain ⟨t124, A50, H⟩ := H
  replace H : (some (decide (t124 ≥ 0))) = some r := H
  have A5 := Aside0.mk A50
  clear A50
  obtain rfl := Option.some.inj H
  have hcz6_0 : w.cell? ⟨g2, 0, none⟩ = some (.func (.func 98) #[] #[.pointer (some ⟨g3, 0, none⟩)]) := (blk_cell BK900002.out 0).trans rfl
  have hfz6_0 := blk_frozen BK900002.out 0
  have hcz7_0 : w.cell? ⟨g3, 0, none⟩ = some (.int .i64 a3_0) := (blk_cell BK900003.out 0).trans rfl
  have hfz7_0 := blk_frozen BK900003.out 0
  go_enter Try.func100, Try.ntmps100
  go_wp2_with (first | ((with_reducible refine gate_callee (f := 144) rfl ?_); refine goesL_ (some 7) rfl rfl Try.func144 (by kernel_rfl) rfl #[.slice A0 l0.length c0, .func (.func 101) #[] #[.pointer (some ⟨g2, 0, none⟩)]] rfl (by (try simp only [List.map_toArray, List.map_cons, List.map_nil]); first | done | rfl | (simp only [List.length_drop, List.length_take]; rfl)) ?_; (with_reducible refine (slices_IndexFunc__two_Check_3_1.calls k _ _ l0 g2  g3 a3_0 t124 _ ?side1 ?side2 ?side3 ?side4 A5.out).mono ?_); (case side1 => repeat (first | exact HR0.out | (with_reducible refine Kd.C_alloc ?_ _) | (with_reducible refine Kd.C_drewN ?_ _) | (with_reducible refine Kd.C_drew ?_))); (case side2 => exact HC0.out); (case side3 => exact (by (with_reducible repeat (first | refine blk_drewN ?_ _ | refine blk_drew ?_ | refine blk_alloc ?_ _)); exact BK900002.out)); (case side4 => exact (by (with_reducible repeat (first | refine blk_drewN ?_ _ | refine blk_drew ?_ | refine blk_alloc ?_ _)); exact BK900003.out)); rintro e w8 ⟨rfl, hb⟩; refine ⟨_, rfl, ?_⟩; have n0_ := Aside0.mk (blk_below (g := g2) (o := .cells #[.func (.func 98) #[] #[.pointer (some ⟨g3, 0, none⟩)]] 112 (0, 0)) (by (with_reducible repeat (first | refine blk_drewN ?_ _ | refine blk_drew ?_ | refine blk_alloc ?_ _)); exact BK900002.out) hb); have n1_ := Aside0.mk (blk_below (g := g3) (o := .cells #[.int .i64 a3_0] 3 (0, 0)) (by (with_reducible repeat (first | refine blk_drewN ?_ _ | refine blk_drew ?_ | refine blk_alloc ?_ _)); exact BK900003.out) hb); have n2_ := Aside0.mk (below_step (by repeat (first | (with_reducible first | exact HB.out | apply below_alloc | apply pw_below_drewN | apply below_drew1 | refine below_set ?_ GE900002.out | refine below_set ?_ GE900003.out) | exact HB.out)) hb); clear BK900002; clear BK900003; clear HB; have BK900002 := n0_; have BK900003 := n1_; have HB := n2_; clear n0_ n1_ n2_; (try clear hb); (try clear hb2); (try clear hk); (try clear hi)))
  go_ret
  exact ⟨by first | rfl | (simp [errW_none, errW_some] <;> rfl) | (simp [*, errW_none, errW_some] <;> rfl), by repeat (first | (with_reducible first | exact HB.out | apply below_alloc | apply pw_below_drewN | apply below_drew1 | refine below_set ?_ GE900002.out | refine below_set ?_ GE900003.out) | exact HB.out)⟩

/-! ### two_Check_3: function 185 -/
def two_Check_3.f (k : Nat) (l0 : List (S144))  (a2_0 : Int) : Option (Bool) := (slices_ContainsFunc__two_Check_3_1.f k l0 a2_0).bind fun t125 => (some t125)
theorem two_Check_3.mono : ∀ a0 a1 k, LeO (two_Check_3.f k a0 a1) (two_Check_3.f (k + 1) a0 a1) := by
  intro a0 a1 k
  unfold two_Check_3.f
  repeat' first
      | (with_reducible exact slices_ContainsFunc__two_Check_3_1.mono _ _ _)
      | (with_reducible exact LeO.refl _)
      | (with_reducible exact LeO.none _)
      | (with_reducible refine LeO.ite ?_ ?_)
      | (with_reducible refine LeO.bind ?_ (fun _ => ?_))
      | exact slices_ContainsFunc__two_Check_3_1.mono _ _ _
      | exact LeO.none _
      | refine LeO.ite ?_ ?_
      | refine LeO.bind ?_ (fun _ => ?_)
set_option maxHeartbeats 8000000 in
set_option maxRecDepth 100000 in
theorem two_Check_3.calls (k : Nat) (A0 : Option Addr) (c0 : Nat) (l0 : List (S144)) (g1 : Nat)  (g2 : Nat) (a2_0 : Int) (r : Bool) (w : World) (hr0 : Kd.C k144 w A0 l0.length l0) (hc0 : l0.length ≤ c0) (hb1 : w.heap[g1]? = some (.cells #[.func (.func 98) #[] #[.pointer (some ⟨g2, 0, none⟩)]] 112 (0, 0))) (hb2 : w.heap[g2]? = some (.cells #[.int .i64 a2_0] 3 (0, 0))) (h : two_Check_3.f k l0 a2_0 = some r) :
    Calls Try.prog 99 #[.slice A0 l0.length c0, .pointer (some ⟨g1, 0, none⟩)] w fun e w' => e = .returned (.bool r) ∧ Below w.heap.size w w' := by
  have HR0 := Aside0.mk hr0
  have HC0 := Aside0.mk hc0
  clear hr0 hc0
  have BK900001 := Aside0.mk hb1
  clear hb1
  have BK900002 := Aside0.mk hb2
  clear hb2
  have HB := Aside0.mk (Below.refl w.heap.size w)
  have H : ((slices_ContainsFunc__two_Check_3_1.f k l0 a2_0).bind fun t125 => (some t125)) = some r := h
  clear h
  replace H := Option.bind_eq_some_iff.mp H
  obtain ⟨t125, A40, H⟩ := H
  replace H : (some t125) = some r := H
  have A4 := Aside0.mk A40
  clear A40
  obtain rfl := Option.some.inj H
  have hcz5_0 : w.cell? ⟨g1, 0, none⟩ = some (.func (.func 98) #[] #[.pointer (some ⟨g2, 0, none⟩)]) := (blk_cell BK900001.out 0).trans rfl
  have hfz5_0 := blk_frozen BK900001.out 0
  have hcz6_0 : w.cell? ⟨g2, 0, none⟩ = some (.int .i64 a2_0) := (blk_cell BK900002.out 0).trans rfl
  have hfz6_0 := blk_frozen BK900002.out 0
  go_enter Try.func99, Try.ntmps99
  go_wp2_with (first | ((with_reducible refine gate_callee (f := 100) rfl ?_); refine goesL_ (some 6) rfl rfl Try.func100 (by kernel_rfl) rfl #[.slice A0 l0.length c0, .func (.func 101) #[] #[.pointer (some ⟨g1, 0, none⟩)]] rfl (by (try simp only [List.map_toArray, List.map_cons, List.map_nil]); first | done | rfl | (simp only [List.length_drop, List.length_take]; rfl)) ?_; (with_reducible refine (slices_ContainsFunc__two_Check_3_1.calls k _ _ l0 g1  g2 a2_0 t125 _ ?side1 ?side2 ?side3 ?side4 A4.out).mono ?_); (case side1 => repeat (first | exact HR0.out | (with_reducible refine Kd.C_alloc ?_ _) | (with_reducible refine Kd.C_drewN ?_ _) | (with_reducible refine Kd.C_drew ?_))); (case side2 => exact HC0.out); (case side3 => exact (by (with_reducible repeat (first | refine blk_drewN ?_ _ | refine blk_drew ?_ | refine blk_alloc ?_ _)); exact BK900001.out)); (case side4 => exact (by (with_reducible repeat (first | refine blk_drewN ?_ _ | refine blk_drew ?_ | refine blk_alloc ?_ _)); exact BK900002.out)); rintro e w7 ⟨rfl, hb⟩; refine ⟨_, rfl, ?_⟩; have n0_ := Aside0.mk (blk_below (g := g1) (o := .cells #[.func (.func 98) #[] #[.pointer (some ⟨g2, 0, none⟩)]] 112 (0, 0)) (by (with_reducible repeat (first | refine blk_drewN ?_ _ | refine blk_drew ?_ | refine blk_alloc ?_ _)); exact BK900001.out) hb); have n1_ := Aside0.mk (blk_below (g := g2) (o := .cells #[.int .i64 a2_0] 3 (0, 0)) (by (with_reducible repeat (first | refine blk_drewN ?_ _ | refine blk_drew ?_ | refine blk_alloc ?_ _)); exact BK900002.out) hb); have n2_ := Aside0.mk (below_step (by repeat (first | (with_reducible first | exact HB.out | apply below_alloc | apply pw_below_drewN | apply below_drew1 | refine below_set ?_ GE900001.out | refine below_set ?_ GE900002.out) | exact HB.out)) hb); clear BK900001; clear BK900002; clear HB; have BK900001 := n0_; have BK900002 := n1_; have HB := n2_; clear n0_ n1_ n2_; (try clear hb); (try clear hb2); (try clear hk); (try clear hi)))
  go_ret
  exact ⟨by first | rfl | (simp [errW_none, errW_some] <;> rfl) | (simp [*, errW_none, errW_some] <;> rfl), by repeat (first | (with_reducible first | exact HB.out | apply below_alloc | apply pw_below_drewN | apply below_drew1 | refine below_set ?_ GE900001.out | refine below_set ?_ GE900002.out) | exact HB.out)⟩

end Go.Proofs.Ytaaibckhpbmbeaa.PTwoRuns
