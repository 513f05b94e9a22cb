-- Printed over the kit's print by a program of this session (wip/hprint.py), with contracts of its own hand.
import Derived.Test.YtaaibckhpbmbeaaPTwoRunsx0
namespace Go.Proofs.Ytaaibckhpbmbeaa.PTwoRuns
open Go.RowKit Go.Proofs.YtaaibckhpbmbeaaW.PrintWords Go.Proofs.YtaaibckhpbmbeaaW.PrintLast Go.Proofs.YtaaibckhpbmbeaaW.PrintMore
attribute [local go_sem] max2_int min2_int max_two min_two max_three min_three max_four min_four   -- for this text's walks alone
set_option linter.unusedVariables false
set_option linter.unusedSimpArgs false

/-! ### word_May: function 28 -/
mutual
def word_May.j0 : Nat → Int → List Int → Bool → Option (Int)
  | 0, _, _, _ => none
  | k + 1, x0, x1, x12 => if x12 = true then (some 2) else (if (x1.length : Int) > 60 then (some 1) else (word_May.l0 k x0 x1 (x1.length : Int) 0))
def word_May.l0 : Nat → Int → List Int → Int → Int → Option (Int)
  | 0, _, _, _, _ => none
  | k + 1, x0, x16, x17, x18 => if x18 < x17 then (if 0 ≤ x18 then (if x18 < (x16.length : Int) then (if (rd x16 x18) < 0 then (some 2) else (if (rd x16 x18) ≥ x0 then (some 2) else (word_May.l0 k x0 x16 x17 (wrap64 (x18 + 1))))) else (none)) else (none)) else (some 0)
end
def word_May.f (k : Nat) (a0 : Int) (l1 : List Int) : Option (Int) := if a0 < 1 then (word_May.j0 k a0 l1 true) else (word_May.j0 k a0 l1 (decide (a0 > 4)))
theorem word_May.mono_l : ∀ k, (∀ y0 y1 y2, LeO (word_May.j0 k y0 y1 y2) (word_May.j0 (k + 1) y0 y1 y2)) ∧ (∀ y0 y1 y2 y3, LeO (word_May.l0 k y0 y1 y2 y3) (word_May.l0 (k + 1) y0 y1 y2 y3))
  | 0 => ⟨fun _ _ _ r h => by simp [word_May.j0] at h, fun _ _ _ _ r h => by simp [word_May.l0] at h⟩
  | k + 1 => by
    obtain ⟨ih0, ih1⟩ := word_May.mono_l k
    refine ⟨?_, ?_⟩
    · intro y0 y1 y2
      unfold word_May.j0
      repeat' first
      | (with_reducible exact ih0 _ _ _)
      | (with_reducible exact ih1 _ _ _ _)
      | (with_reducible exact LeO.refl _)
      | (with_reducible exact LeO.none _)
      | (with_reducible refine LeO.ite ?_ ?_)
      | (with_reducible refine LeO.bind ?_ (fun _ => ?_))
      | exact ih0 _ _ _
      | exact ih1 _ _ _ _
      | exact LeO.none _
      | refine LeO.ite ?_ ?_
      | refine LeO.bind ?_ (fun _ => ?_)
    · intro y0 y1 y2 y3
      unfold word_May.l0
      repeat' first
      | (with_reducible exact ih0 _ _ _)
      | (with_reducible exact ih1 _ _ _ _)
      | (with_reducible exact LeO.refl _)
      | (with_reducible exact LeO.none _)
      | (with_reducible refine LeO.ite ?_ ?_)
      | (with_reducible refine LeO.bind ?_ (fun _ => ?_))
      | exact ih0 _ _ _
      | exact ih1 _ _ _ _
      | exact LeO.none _
      | refine LeO.ite ?_ ?_
      | refine LeO.bind ?_ (fun _ => ?_)
theorem word_May.mono : ∀ a0 a1 k, LeO (word_May.f k a0 a1) (word_May.f (k + 1) a0 a1) := by
  intro a0 a1 k
  obtain ⟨ih0, ih1⟩ := word_May.mono_l k
  unfold word_May.f
  repeat' first
      | (with_reducible exact ih0 _ _ _)
      | (with_reducible exact ih1 _ _ _ _)
      | (with_reducible exact LeO.refl _)
      | (with_reducible exact LeO.none _)
      | (with_reducible refine LeO.ite ?_ ?_)
      | (with_reducible refine LeO.bind ?_ (fun _ => ?_))
      | exact ih0 _ _ _
      | exact ih1 _ _ _ _
      | exact LeO.none _
      | refine LeO.ite ?_ ?_
      | refine LeO.bind ?_ (fun _ => ?_)
set_option maxHeartbeats 8000000 in
set_option maxRecDepth 100000 in
theorem word_May.calls (k : Nat) (a0 : Int) (A1 : Option Addr) (c1 : Nat) (l1 : List Int) (r : Int) (w : World) (hr1 : Kd.C (Kd.int .i64) w A1 l1.length l1) (hc1 : l1.length ≤ c1) (h : word_May.f k a0 l1 = some r) :
    Calls Try.prog 28 #[.int .i64 a0, .slice A1 l1.length c1] w fun e w' => e = .returned (.int .i64 r) ∧ Drawn0 w w' := by
  have HR1 := Aside0.mk hr1
  have HC1 := Aside0.mk hc1
  clear hr1 hc1
  have H : (if a0 < 1 then (word_May.j0 k a0 l1 true) else (word_May.j0 k a0 l1 (decide (a0 > 4)))) = some r := h
  clear h
  have HC3 := Aside0.mk H
  clear H
  go_enter Try.func28, Try.ntmps28
  go_upto_region 1 with (fail)
  go_cut [12] (fun v12 wc => ∃ (kq : Nat) (x12_2 : Bool), v12 = .bool x12_2 ∧ Aside0 (word_May.j0 kq a0 l1 x12_2 = some r) ∧ Aside0 (kq ≤ k) ∧ Drawn0 w wc)
  case first =>
    have H := HC3.out
    clear HC3
    by_cases c4 : a0 < 1
    · rw [if_pos c4] at H
      have c4b0 : decide (a0 < 1) = true := decide_eq_true c4
      clear c4
      (first | rw [c4b0] | (simp only [i64_w, i32_w]; rw [c4b0]) | skip)
      have H' := Aside0.mk H
      clear H
      go_wp2
      go_meet
      case rel => exact ⟨_, (true), (by first | rfl | (simp; done) | (simp [*]; done)), H', ⟨by first | omega | exact Nat.le_refl _⟩, by repeat (first | exact Drawn0.refl _ | apply Drawn0.step)⟩
    · rw [if_neg c4] at H
      have c4b0 : decide (a0 < 1) = false := decide_eq_false c4
      clear c4
      (first | rw [c4b0] | (simp only [i64_w, i32_w]; rw [c4b0]) | skip)
      have H' := Aside0.mk H
      clear H
      go_wp2
      go_meet
      case rel => exact ⟨_, (decide (a0 > 4)), (by first | rfl | (simp; done) | (simp [*]; done)), H', ⟨by first | omega | exact Nat.le_refl _⟩, by repeat (first | exact Drawn0.refl _ | apply Drawn0.step)⟩
  case rest =>
    clear HC3
    try clear c1
    try clear c2
    try clear p2
    try clear c4
    try clear c4b0
    obtain ⟨kq, x12_2, rfl, HA, HJ2, ⟨mc2, rfl⟩⟩ := hcut
    cases kq with
    | zero => exact absurd HA.out (by simp [word_May.j0])
    | succ kj2 =>
      have H := HA.out
      clear HA
      simp only [word_May.j0] at H
      by_cases c5 : x12_2 = true
      · subst c5
        have H1 : (some 2) = some r := by rw [if_pos rfl] at H; exact H
        clear H
        have H := H1
        clear H1
        obtain rfl := Option.some.inj H
        go_wp2
        go_ret
        exact ⟨by first | rfl | (simp; done) | (simp [*]; done), by repeat (first | exact Drawn0.refl _ | apply Drawn0.step)⟩
      · replace c5 := Bool.eq_false_iff.mpr c5
        subst c5
        have H1 : (if (l1.length : Int) > 60 then (some 1) else (word_May.l0 kj2 a0 l1 (l1.length : Int) 0)) = some r := by rw [if_neg (show ¬ (false = true) by decide)] at H; exact H
        clear H
        have H := H1
        clear H1
        by_cases c6 : (l1.length : Int) > 60
        · rw [if_pos c6] at H
          have c6b0 : decide (60 < (l1.length : Int)) = true := decide_eq_true c6
          have c6b1 : decide (60 < l1.length) = true := decide_eq_true (by omega)
          clear c6
          obtain rfl := Option.some.inj H
          go_wp2
          go_ret
          exact ⟨by first | rfl | (simp; done) | (simp [*]; done), by repeat (first | exact Drawn0.refl _ | apply Drawn0.step)⟩
        · rw [if_neg c6] at H
          have c6b0 : decide (60 < (l1.length : Int)) = false := decide_eq_false c6
          have c6b1 : decide (60 < l1.length) = false := decide_eq_false (by omega)
          clear c6
          have H' := Aside0.mk H
          clear H
          go_wp2
          go_loopg [18] kj2 (fun kq v18 w' => ∃ (x18_2 : Int), v18 = .int .i64 x18_2 ∧ Aside0 (word_May.l0 kq a0 l1 (l1.length : Int) x18_2 = some r) ∧ Aside0 (kq ≤ kj2) ∧ Drawn0 w w')
          case atStart => exact ⟨(0), (by first | rfl | (simp; done) | (simp [*]; done)), H', ⟨Nat.le_refl _⟩, by repeat (first | exact Drawn0.refl _ | apply Drawn0.step)⟩
          case round =>
            clear H'
            try clear c1
            try clear c2
            try clear p2
            try clear c4
            try clear c4b0
            try clear c5
            try clear c6
            try clear c6b0
            try clear c6b1
            try clear p2
            obtain ⟨x18_2, rfl, HA, HK2, ⟨m2, rfl⟩⟩ := hrel
            cases gk with
            | zero => exact absurd HA.out (by simp [word_May.l0])
            | succ k2 =>
              have H := HA.out
              clear HA
              simp only [word_May.l0] at H
              by_cases c7 : x18_2 < (l1.length : Int)
              · rw [if_pos c7] at H
                have c7b0 : decide (x18_2 < (l1.length : Int)) = true := decide_eq_true c7
                clear c7
                by_cases c8 : 0 ≤ x18_2
                · rw [if_pos c8] at H
                  have c8b0 : decide (0 ≤ x18_2) = true := decide_eq_true c8
                  clear c8
                  by_cases c9 : x18_2 < (l1.length : Int)
                  · rw [if_pos c9] at H
                    have c9b0 : decide (x18_2 < (l1.length : Int)) = true := decide_eq_true c9
                    clear c9
                    by_cases c10 : (rd l1 x18_2) < 0
                    · rw [if_pos c10] at H
                      have c10b0 : decide ((rd l1 x18_2) < 0) = true := decide_eq_true c10
                      clear c10
                      obtain rfl := Option.some.inj H
                      have p153 : 0 ≤ (x18_2 : Int) := of_decide_eq_true (by first | (with_reducible assumption) | assumption)
                      have q153 : x18_2 < (l1.length : Int) := of_decide_eq_true (by first | (with_reducible assumption) | assumption)
                      obtain ⟨ad153, e153, hx153_0⟩ := Kd.at_int HR1.out x18_2 p153 q153
                      cases e153
                      replace p153 := eq_true p153
                      replace q153 := eq_true q153
                      go_wp2
                      go_ret
                      exact ⟨by first | rfl | (simp; done) | (simp [*]; done), by repeat (first | exact Drawn0.refl _ | apply Drawn0.step)⟩
                    · rw [if_neg c10] at H
                      have c10b0 : decide ((rd l1 x18_2) < 0) = false := decide_eq_false c10
                      clear c10
                      by_cases c11 : (rd l1 x18_2) ≥ a0
                      · rw [if_pos c11] at H
                        have c11b0 : decide (a0 ≤ (rd l1 x18_2)) = true := decide_eq_true c11
                        clear c11
                        obtain rfl := Option.some.inj H
                        have p153 : 0 ≤ (x18_2 : Int) := of_decide_eq_true (by first | (with_reducible assumption) | assumption)
                        have q153 : x18_2 < (l1.length : Int) := of_decide_eq_true (by first | (with_reducible assumption) | assumption)
                        obtain ⟨ad153, e153, hx153_0⟩ := Kd.at_int HR1.out x18_2 p153 q153
                        cases e153
                        replace p153 := eq_true p153
                        replace q153 := eq_true q153
                        go_wp2
                        go_ret
                        exact ⟨by first | rfl | (simp; done) | (simp [*]; done), by repeat (first | exact Drawn0.refl _ | apply Drawn0.step)⟩
                      · rw [if_neg c11] at H
                        have c11b0 : decide (a0 ≤ (rd l1 x18_2)) = false := decide_eq_false c11
                        clear c11
                        have H' := Aside0.mk H
                        clear H
                        have p153 : 0 ≤ (x18_2 : Int) := of_decide_eq_true (by first | (with_reducible assumption) | assumption)
                        have q153 : x18_2 < (l1.length : Int) := of_decide_eq_true (by first | (with_reducible assumption) | assumption)
                        obtain ⟨ad153, e153, hx153_0⟩ := Kd.at_int HR1.out x18_2 p153 q153
                        cases e153
                        replace p153 := eq_true p153
                        replace q153 := eq_true q153
                        go_wp2
                        go_roundg k2
                        case measure => have := HJ2.out; have := HK2.out; omega
                        case rel => exact ⟨(wrap64 (x18_2 + 1)), (by first | rfl | (simp; done) | (simp [*]; done)), H', ⟨by have := HJ2.out; have := HK2.out; omega⟩, by repeat (first | exact Drawn0.refl _ | apply Drawn0.step)⟩
                  · rw [if_neg c9] at H
                    exact absurd H (by simp)
                · rw [if_neg c8] at H
                  exact absurd H (by simp)
              · rw [if_neg c7] at H
                have c7b0 : decide (x18_2 < (l1.length : Int)) = false := decide_eq_false c7
                clear c7
                obtain rfl := Option.some.inj H
                go_wp2
                go_ret
                exact ⟨by first | rfl | (simp; done) | (simp [*]; done), by repeat (first | exact Drawn0.refl _ | apply Drawn0.step)⟩

-- NOT PRINTED: function 145 (slices_Grow_int_int)

/-! ### slices_Concat_int_int: function 103 -/
/-! slices.Concat at elements of one cell: int; its Grow -/
theorem slices_Concat_int_int.cinfoI : (Try.prog.info? 3).map (fun i => (i.zero, i.size, i.bytes)) = some (some ((.int .i64 0)), 1, 8) := by kernel_rfl
set_option maxHeartbeats 4000000 in
set_option maxRecDepth 100000 in
theorem slices_Concat_int_int.GrowI (n : Int) (h0 : 0 ≤ n) (hn : n ≤ 1000000) (w : World) :
    Calls Try.prog 145 #[.slice none 0 0, .int .i64 n] w fun e w' => ∃ v : Value, e = .returned v ∧ (Kd.raw 1).R 3 w' w.heap.size (fun _ => True) v [] ∧ Below w.heap.size w w' := by
  by_cases hz : n = 0
  · subst hz
    clear h0 hn
    go_enter Try.func145, Try.ntmps145
    go_wp2_with fail
    go_ret
    exact ⟨_, rfl, Kd.R_nil _ _ _ _ _, Below.refl _ _⟩
  · have h1 : 0 < n := by omega
    have h2 : ¬ n < 0 := by omega
    have hA : Aside0 (0 ≤ n ∧ n ≤ 1000000) := ⟨h0, hn⟩
    have hw1 : IntKind.i64.wrap (n - 0) = n := by rw [i64_w, Int.sub_zero]; exact Go.IntWalk.wrap64_in _ ⟨by omega, by omega⟩
    have hw2 : IntKind.i64.wrap n = n := by rw [i64_w]; exact Go.IntWalk.wrap64_in _ ⟨by omega, by omega⟩
    have hw3 : wrap64 n = n := Go.IntWalk.wrap64_in _ ⟨by omega, by omega⟩
    clear h0 hn hz
    go_enter Try.func145, Try.ntmps145
    go_wp2_with (at_builtin; refine Kd.R_append_zeros (Kd.raw 1) (w0 := w) w.heap.size rfl (.tmp 20) (.tmp 21) 23 3 3 ((.int .i64 0)) 8 rfl Try.underlying23 Try.underlying3 slices_Concat_int_int.cinfoI rfl (by decide) (by decide) (.slice none 0 0) [] [(.int .i64 0)] n (fun _ => True) rfl rfl ⟨rfl, rfl, by simp [Value.oneCell', Value.cells]⟩ (fun _ _ => trivial) (Kd.R_nil _ _ _ _ _) hA.out.1 (Below.refl _ _) (Nat.le_refl _) (by have := hA.out; simp; omega) ?_; intro v1 w1 hr hb hg hat)
    obtain ⟨A1, c1, e1, hlc, _⟩ := Kd.R_reads hr
    rw [List.nil_append, List.length_replicate] at e1 hlc
    rw [List.nil_append] at hr
    subst e1
    obtain ⟨i0, hi0, _⟩ := info_parts slices_Concat_int_int.cinfoI
    have hcut := cut_to (P := Try.prog) 23 3 .i64 Try.underlying23 hi0 A1 n.toNat c1 0 (Int.le_refl _) (by omega) hlc
    have hr2 := Aside0.mk (Kd.R_take (m := 0) hr (Nat.zero_le _))
    have hB := Aside0.mk hb
    clear hr hb hg hat hi0
    go_wp2_with fail
    rw [hcut]
    go_wp2_with fail
    go_ret
    exact ⟨_, rfl, hr2.out, hB.out⟩
theorem slices_Concat_int_int.wsumI (x y : Nat) (h : x + y ≤ 1000000) : IntKind.i64.wrap ((x : Int) + (y : Int)) = (x : Int) + (y : Int) ∧ wrap64 ((x : Int) + (y : Int)) = (x : Int) + (y : Int) ∧ ¬ ((x : Int) + (y : Int)) < 0 ∧ decide (((x : Int) + (y : Int)) < 0) = false := by
  have h1 : wrap64 ((x : Int) + (y : Int)) = (x : Int) + (y : Int) := Go.IntWalk.wrap64_in _ ⟨by omega, by omega⟩
  exact ⟨by rw [i64_w]; exact h1, h1, by omega, decide_eq_false (by omega)⟩
set_option maxHeartbeats 8000000 in
set_option maxRecDepth 100000 in
/-- all rows, one behind the other; what is known of the new row's cells -/
theorem slices_Concat_int_int.ConcatI {α : Type} (d : Kd α) (hsz : d.sz = 1) (T : Nat) (A : Option Addr) (c : Nat) (L : List (List α)) (w : World) (hr : (Kd.slice T d).C w A L.length L) (hN : L.flatten.length ≤ 1000000) :
    Calls Try.prog 103 #[.slice A L.length c] w fun e w' => ∃ (v : Value) (vals : List (List Value)), e = .returned v ∧ (Kd.raw 1).R 3 w' w.heap.size (fun _ => True) v vals ∧ vals.length = L.flatten.length ∧ (∀ (j : Nat) (x : α) (cs : List Value), L.flatten[j]? = some x → vals[j]? = some cs → d.K w' x cs) ∧ Below w.heap.size w w' := by
  have HR := Aside0.mk hr
  have hbig : L.length ≤ 9223372036854775807 := hr.2.1
  have HN := Aside0.mk (show ∀ k, (L.take k).flatten.length ≤ 1000000 from fun k => Nat.le_trans (by
    have := congrArg (fun z => z.flatten.length) (List.take_append_drop k L)
    simp only [List.flatten_append, List.length_append] at this
    omega) hN)
  clear hr hN
  go_enter Try.func103, Try.ntmps103
  go_wp2_with fail
  go_loopg [3, 5, 11] L.length (fun gg s3 _ s11 wr => ∃ kk : Nat, kk ≤ L.length ∧ L.length - kk ≤ gg ∧ s3 = .int .i64 ((L.take kk).flatten.length : Nat) ∧ s11 = .int .i64 kk ∧ Aside0 (Below w.heap.size w wr))
  case atStart => exact ⟨0, Nat.zero_le _, by omega, by simp, rfl, ⟨Below.refl _ w⟩⟩
  case round =>
    obtain ⟨kk, hkk, hg, rfl, rfl, BW⟩ := hrel
    by_cases hlt : kk < L.length
    · have hltz : (kk : Int) < (L.length : Int) := by omega
      obtain ⟨ad, cs, hA, hcs, hK, hcell⟩ := Kd.C_get (Kd.C_below HR.out BW.out) (L[kk]'hlt) (kk : Int) (by omega) hltz
      have hx : L.getD (kk : Int).toNat (L[kk]'hlt) = L[kk]'hlt := by rw [Int.toNat_natCast, List.getD_eq_getElem?_getD, List.getElem?_eq_getElem hlt]; rfl
      rw [hx] at hK
      obtain ⟨A2, c2, rfl, hl2, hC2⟩ := hK
      have hc0 := hcell 0 _ rfl
      rw [show (Kd.slice T d).sz = 1 from rfl, Nat.mul_one, Nat.add_zero, Int.toNat_natCast] at hc0
      have h1 := HN.out kk
      have h2 := HN.out (kk + 1)
      have hs : (L.take (kk + 1)).flatten.length = (L.take kk).flatten.length + (L[kk]'hlt).length := by
        rw [List.take_succ_eq_append_getElem hlt, List.flatten_append, List.length_append]; simp
      rw [hs] at h2
      have HS := Aside0.mk hs
      clear hs hcell hcs hx
      subst hA
      generalize (L.take kk).flatten.length = x at h1 h2 HS
      generalize hy : (L[kk]'hlt).length = y at h2 HS hc0 hl2 hC2
      obtain ⟨hw1, hw2, hnn, hnd⟩ := slices_Concat_int_int.wsumI x y h2
      have HY := Aside0.mk hy
      clear hy hC2
      go_wp2_with fail
      go_roundg (L.length - (kk + 1))
      case measure => omega
      case rel => exact ⟨kk + 1, by omega, by omega, by rw [HS.out, Int.natCast_add], by go_num, BW⟩
    · have hltz : ¬ (kk : Int) < (L.length : Int) := by omega
      have hall : L.take kk = L := List.take_of_length_le (by omega)
      rw [hall]
      have h1 := HN.out L.length
      rw [List.take_length] at h1
      have HL := Aside0.mk (show ∃ z, z = L.flatten.length ∧ z ≤ 1000000 from ⟨_, rfl, h1⟩)
      clear hall h1
      obtain ⟨z, hz, hz1⟩ := HL.out
      rw [← hz]
      have HZ := Aside0.mk hz
      clear hz HL
      have hG := slices_Concat_int_int.GrowI (z : Int) (by omega) (by omega) wr
      go_wp2_with fail
      refine hG.mono ?_
      rintro e w1 ⟨v0, rfl, hv0, hb0⟩
      have HV0 := Aside0.mk (Kd.R_lower hv0 (below_size BW.out))
      have HB0 := Aside0.mk (below_step BW.out hb0)
      clear hv0 hb0 hG
      go_wp2_with fail
      go_loopg [6, 8, 27] L.length (fun gg s6 _ s27 wr => ∃ (kk : Nat) (vals : List (List Value)), kk ≤ L.length ∧ L.length - kk ≤ gg ∧ s27 = .int .i64 kk ∧ Aside0 ((Kd.raw 1).R 3 wr w.heap.size (fun _ => True) s6 vals) ∧ Aside0 (vals.length = (L.take kk).flatten.length) ∧ Aside0 (∀ (j : Nat) (x : α) (cs : List Value), (L.take kk).flatten[j]? = some x → vals[j]? = some cs → d.K w x cs) ∧ Aside0 (Below w.heap.size w wr))
      case atStart => exact ⟨0, [], Nat.zero_le _, by omega, rfl, HV0, ⟨rfl⟩, ⟨fun j x cs h => by simp at h⟩, HB0⟩
      case round =>
        clear HV0 HB0
        obtain ⟨kk, vals, hkk, hg, rfl, HV, HL, HK, HB⟩ := hrel
        obtain ⟨A1, c1, e1, hlc, _⟩ := Kd.R_reads HV.out
        subst e1
        by_cases hlt : kk < L.length
        · have hltz : (kk : Int) < (L.length : Int) := by omega
          obtain ⟨ad, cs, hA, hcs, hK, hcell⟩ := Kd.C_get HR.out (L[kk]'hlt) (kk : Int) (by omega) hltz
          have hx : L.getD (kk : Int).toNat (L[kk]'hlt) = L[kk]'hlt := by rw [Int.toNat_natCast, List.getD_eq_getElem?_getD, List.getElem?_eq_getElem hlt]; rfl
          rw [hx] at hK
          obtain ⟨A2, c2, rfl, hl2, hC2⟩ := hK
          have hc0 := hcell 0 _ rfl
          rw [show (Kd.slice T d).sz = 1 from rfl, Nat.mul_one, Nat.add_zero, Int.toNat_natCast] at hc0
          replace hc0 := (HB.out.cell (World.block_lt_of_cell? w _ hc0)).trans hc0
          have hs : (L.take (kk + 1)).flatten = (L.take kk).flatten ++ (L[kk]'hlt) := by
            rw [List.take_succ_eq_append_getElem hlt, List.flatten_append]; simp
          have h2 := HN.out (kk + 1)
          rw [hs, List.length_append, ← HL.out] at h2
          obtain ⟨news, hnl, hnr, hnk⟩ := Kd.reads_raw hC2 (fun x c hk => ⟨d.K_len hk, d.K_one hk⟩)
          rw [hsz] at hnr
          have HS := Aside0.mk hs
          have H2 := Aside0.mk h2
          have HNL := Aside0.mk hnl
          have HNR := Aside0.mk (Kd.C_below (d := Kd.raw 1) hnr HB.out)
          have HNK := Aside0.mk hnk
          subst hA
          clear hs h2 hcell hcs hx hC2 hnl hnr hnk
          go_wp2_with (at_builtin; refine Kd.R_append_rows (Kd.raw 1) (w0 := w) w.heap.size rfl (.tmp 31) (.tmp 32) 23 3 ((.int .i64 0)) 8 rfl Try.underlying23 slices_Concat_int_int.cinfoI rfl (by decide) (by decide) (.slice A1 vals.length c1) vals news A2 (L[kk]'hlt).length c2 (fun _ => True) (fun _ => False) rfl rfl HV.out HNR.out (fun _ _ h => h) (fun _ h => h.elim) (fun _ _ => trivial) HB.out (below_size HB.out) (by have := H2.out; simp; omega) ?_; intro v1 w2 hr2 hb2 hg2 _)
          have HV2 := Aside0.mk hr2
          have HB2 := Aside0.mk hb2
          have HG2 := Aside0.mk hg2
          clear hr2 hb2 hg2
          go_wp2_with fail
          go_roundg (L.length - (kk + 1))
          case measure => omega
          case rel =>
            refine ⟨kk + 1, vals ++ news, by omega, by omega, by go_num, HV2, ⟨by rw [List.length_append, HL.out, HNL.out, HS.out, List.length_append]⟩, ⟨fun j x cs h1 h2 => ?_⟩, HB2⟩
            rw [HS.out] at h1
            by_cases hj : j < vals.length
            · rw [List.getElem?_append_left (by rw [← HL.out]; exact hj)] at h1
              rw [List.getElem?_append_left hj] at h2
              exact HK.out j x cs h1 h2
            · rw [List.getElem?_append_right (by rw [← HL.out]; exact Nat.le_of_not_lt hj), ← HL.out] at h1
              rw [List.getElem?_append_right (Nat.le_of_not_lt hj)] at h2
              exact HNK.out _ x cs h1 h2
        · have hltz : ¬ (kk : Int) < (L.length : Int) := by omega
          have hall : L.take kk = L := List.take_of_length_le (by omega)
          rw [hall] at HL HK
          clear hall hlc
          go_wp2_with fail
          go_ret
          exact ⟨_, rfl, vals, HV.out, by rw [HL.out, List.length_flatten], fun j x cs h1 h2 => d.K_below HB.out (HK.out j x cs h1 h2), HB.out⟩
theorem slices_Concat_int_int.rawCI {α : Type} (d : Kd α) (hsz : d.sz = 1) {e base : Nat} {ok : Nat → Prop} {w : World} {v : Value} {vals : List (List Value)} {xs : List α} (hR : (Kd.raw 1).R e w base ok v vals) (hl : vals.length = xs.length) (hk : ∀ (j : Nat) (x : α) (cs : List Value), xs[j]? = some x → vals[j]? = some cs → d.K w x cs) : ∃ A c, v = .slice A xs.length c ∧ d.C w A xs.length xs := by
  obtain ⟨A, c, e1, _, h1, h2, h3⟩ := Kd.R_reads hR
  refine ⟨A, c, by rw [e1, hl], rfl, by rw [← hl]; exact h2, fun hp => ?_⟩
  obtain ⟨ad, hA, hc⟩ := h3 (by rw [hl]; exact hp)
  refine ⟨ad, hA, fun j p hj => ?_⟩
  have hjl : j < vals.length := by rw [hl]; exact (List.getElem?_eq_some_iff.1 hj).1
  obtain ⟨cs, hcl, hKr, hcell⟩ := hc j _ (List.getElem?_eq_getElem hjl)
  refine ⟨cs, by rw [hsz]; exact hcl, ?_, fun i u hu => by rw [hsz]; exact hcell i u hu⟩
  exact hk j p cs hj ((List.getElem?_eq_getElem hjl).trans (by rw [hKr.1]))
def slices_Concat_int_int.f (l0 : List (List Int)) : Option (List Int) := if l0.flatten.length ≤ 1000000 then some l0.flatten else none
theorem slices_Concat_int_int.own {e base : Nat} {ok : Nat → Prop} {w : World} {v : Value} {vals : List (List Value)} {xs : List Int} (hR : (Kd.raw 1).R e w base ok v vals) (hl : vals.length = xs.length) (hk : ∀ (j : Nat) (x : Int) (cs : List Value), xs[j]? = some x → vals[j]? = some cs → (Kd.int .i64).K w x cs) : (Kd.int .i64).R e w base ok v xs := by
  obtain ⟨h0, inner, ho, h1, h2⟩ := hR
  rw [hl] at ho h1
  refine ⟨h0, inner, ho, h1, fun j p hj => ?_⟩
  have hjl : j < vals.length := by rw [hl]; exact (List.getElem?_eq_some_iff.1 hj).1
  have h3 := h2 j _ (List.getElem?_eq_getElem hjl)
  have h4 : vals[j] = [.int .i64 p] := hk j p _ hj (List.getElem?_eq_getElem hjl)
  exact h3.1.trans h4
set_option maxHeartbeats 4000000 in
set_option maxRecDepth 100000 in
theorem slices_Concat_int_int.calls (A0 : Option Addr) (c0 : Nat) (l0 : List (List Int)) (r : List Int) (w : World) (hr0 : Kd.C (Kd.slice 3 (Kd.int .i64)) w A0 l0.length l0) (hc0 : l0.length ≤ c0) (h : slices_Concat_int_int.f l0 = some r) :
    Calls Try.prog 103 #[.slice A0 l0.length c0] w fun e w' => ∃ v0_ : Value, e = .returned (v0_) ∧ Kd.R (Kd.int .i64) 3 w' w.heap.size (fun _ => True) v0_ r ∧ Below w.heap.size w w' := by
  unfold slices_Concat_int_int.f at h
  by_cases hl : l0.flatten.length ≤ 1000000
  · rw [if_pos hl] at h
    obtain rfl := Option.some.inj h
    refine (slices_Concat_int_int.ConcatI (Kd.int .i64) rfl 3 A0 c0 l0 w hr0 hl).mono ?_
    rintro e w' ⟨v, vals, rfl, hv, hlv, hk, hb⟩
    exact ⟨v, rfl, slices_Concat_int_int.own hv hlv hk, hb⟩
  · rw [if_neg hl] at h
    exact absurd h (by simp)

end Go.Proofs.Ytaaibckhpbmbeaa.PTwoRuns
