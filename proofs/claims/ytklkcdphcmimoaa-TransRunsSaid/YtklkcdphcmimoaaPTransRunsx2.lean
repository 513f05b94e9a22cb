-- Printed over the kit's print by a program of this session (wip/hprint.py), with contracts of its own hand.
import Derived.Test.YtklkcdphcmimoaaPTransRunsx0
import Derived.Test.YtklkcdphcmimoaaPTransRunsx1
namespace Go.Proofs.Ytklkcdphcmimoaa.PTransRuns
open Go.RowKit Go.Proofs.YtklkcdphcmimoaaW.PrintWords Go.Proofs.YtklkcdphcmimoaaW.PrintLast Go.Proofs.YtklkcdphcmimoaaW.PrintMore
attribute [local go_sem] max2_int min2_int max_two min_two max_three min_three max_four min_four   -- for this text's walks alone
set_option linter.unusedVariables false
set_option linter.unusedSimpArgs false

/-! ### slices_IndexFunc__trans_Check_1: function 225 -/
def slices_IndexFunc__trans_Check_1.l0 : Nat → List Int → Int → Int → Int → Option (Int)
  | 0, _, _, _, _ => none
  | k + 1, x0, x7, x8, x900003000 => if x8 < x7 then (if 0 ≤ x8 then (if x8 < (x0.length : Int) then ((trans_Check_1.f (rd x0 x8) x900003000).bind fun t137 => (if t137 = true then (some x8) else (slices_IndexFunc__trans_Check_1.l0 k x0 x7 (wrap64 (x8 + 1)) x900003000))) else (none)) else (none)) else (some (-1))
def slices_IndexFunc__trans_Check_1.f (k : Nat) (l0 : List Int)  (a2_0 : Int) : Option (Int) := slices_IndexFunc__trans_Check_1.l0 k l0 (l0.length : Int) 0 a2_0
theorem slices_IndexFunc__trans_Check_1.mono_l : ∀ k, (∀ y0 y1 y2 y3, LeO (slices_IndexFunc__trans_Check_1.l0 k y0 y1 y2 y3) (slices_IndexFunc__trans_Check_1.l0 (k + 1) y0 y1 y2 y3))
  | 0 => fun _ _ _ _ r h => by simp [slices_IndexFunc__trans_Check_1.l0] at h
  | k + 1 => by
    have ih0 := slices_IndexFunc__trans_Check_1.mono_l k
    · intro y0 y1 y2 y3
      unfold slices_IndexFunc__trans_Check_1.l0
      repeat' first
      | (with_reducible exact ih0 _ _ _ _)
      | (with_reducible exact LeO.refl _)
      | (with_reducible exact LeO.none _)
      | (with_reducible refine LeO.ite ?_ ?_)
      | (with_reducible refine LeO.bind ?_ (fun _ => ?_))
      | exact ih0 _ _ _ _
      | exact LeO.none _
      | refine LeO.ite ?_ ?_
      | refine LeO.bind ?_ (fun _ => ?_)
theorem slices_IndexFunc__trans_Check_1.mono : ∀ a0 a1 k, LeO (slices_IndexFunc__trans_Check_1.f k a0 a1) (slices_IndexFunc__trans_Check_1.f (k + 1) a0 a1) := by
  intro a0 a1 k
  have ih0 := slices_IndexFunc__trans_Check_1.mono_l k
  unfold slices_IndexFunc__trans_Check_1.f
  repeat' first
      | (with_reducible exact ih0 _ _ _ _)
      | (with_reducible exact LeO.refl _)
      | (with_reducible exact LeO.none _)
      | (with_reducible refine LeO.ite ?_ ?_)
      | (with_reducible refine LeO.bind ?_ (fun _ => ?_))
      | exact ih0 _ _ _ _
      | exact LeO.none _
      | refine LeO.ite ?_ ?_
      | refine LeO.bind ?_ (fun _ => ?_)
set_option maxHeartbeats 8000000 in
set_option maxRecDepth 100000 in
theorem slices_IndexFunc__trans_Check_1.calls (k : Nat) (A0 : Option Addr) (c0 : Nat) (l0 : List Int)  (g2 : Nat) (a2_0 : Int) (r : Int) (w : World) (hr0 : Kd.C (Kd.int .i64) w A0 l0.length l0) (hc0 : l0.length ≤ c0) (hb2 : w.heap[g2]? = some (.cells #[.int .i64 a2_0] 3 (0, 0))) (h : slices_IndexFunc__trans_Check_1.f k l0 a2_0 = some r) :
    Calls Try.prog 159 #[.slice A0 l0.length c0, .func (.func 113) #[] #[.pointer (some ⟨g2, 0, none⟩)]] w fun e w' => e = .returned (.int .i64 r) ∧ Below w.heap.size w w' := by
  have HR0 := Aside0.mk hr0
  have HC0 := Aside0.mk hc0
  clear hr0 hc0
  have BK900002 := Aside0.mk hb2
  clear hb2
  have HB := Aside0.mk (Below.refl w.heap.size w)
  have H : (slices_IndexFunc__trans_Check_1.l0 k l0 (l0.length : Int) 0 a2_0) = some r := h
  clear h
  have H' := Aside0.mk H
  clear H
  go_enter Try.func159, Try.ntmps159
  go_wp2
  go_loopg [8] k (fun kq v8 w' => ∃ (x8_1 : Int), v8 = .int .i64 x8_1 ∧ Aside0 (slices_IndexFunc__trans_Check_1.l0 kq l0 (l0.length : Int) x8_1 a2_0 = some r) ∧ Aside0 (kq ≤ k) ∧ Aside0 (w'.heap[g2]? = some (.cells #[.int .i64 a2_0] 3 (0, 0))) ∧ Aside0 (Below w.heap.size w w'))
  case atStart => exact ⟨(0), (by first | rfl | (simp; done) | (simp [*]; done)), H', ⟨Nat.le_refl _⟩, ⟨by (with_reducible repeat (first | refine blk_drewN ?_ _ | refine blk_drew ?_ | refine blk_alloc ?_ _)); exact BK900002.out⟩, ⟨by repeat (first | (with_reducible first | exact HB.out | apply below_alloc | apply pw_below_drewN | apply below_drew1 | refine below_set ?_ GE900002.out) | exact HB.out)⟩⟩
  case round =>
    clear H'
    try clear c1
    try clear p2
    obtain ⟨x8_1, rfl, HA, HK1, BK900002, HB⟩ := hrel
    cases gk with
    | zero => exact absurd HA.out (by simp [slices_IndexFunc__trans_Check_1.l0])
    | succ k1 =>
      have H := HA.out
      clear HA
      simp only [slices_IndexFunc__trans_Check_1.l0] at H
      by_cases c4 : x8_1 < (l0.length : Int)
      · rw [if_pos c4] at H
        have c4b0 : decide (x8_1 < (l0.length : Int)) = true := decide_eq_true c4
        clear c4
        by_cases c5 : 0 ≤ x8_1
        · rw [if_pos c5] at H
          have c5b0 : decide (0 ≤ x8_1) = true := decide_eq_true c5
          clear c5
          by_cases c6 : x8_1 < (l0.length : Int)
          · rw [if_pos c6] at H
            have c6b0 : decide (x8_1 < (l0.length : Int)) = true := decide_eq_true c6
            clear c6
            replace H := Option.bind_eq_some_iff.mp H
            obtain ⟨t137, A70, H⟩ := H
            replace H : (if t137 = true then (some x8_1) else (slices_IndexFunc__trans_Check_1.l0 k1 l0 (l0.length : Int) (wrap64 (x8_1 + 1)) a2_0)) = some r := H
            have A7 := Aside0.mk A70
            clear A70
            by_cases c8 : t137 = true
            · subst c8
              have H1 : (some x8_1) = some r := by rw [if_pos rfl] at H; exact H
              clear H
              have H := H1
              clear H1
              obtain rfl := Option.some.inj H
              have p136 : 0 ≤ (x8_1 : Int) := of_decide_eq_true (by first | (with_reducible assumption) | assumption)
              have q136 : x8_1 < (l0.length : Int) := of_decide_eq_true (by first | (with_reducible assumption) | assumption)
              obtain ⟨ad136, e136, hx136_0⟩ := Kd.at_int HR0.out x8_1 p136 q136
              cases e136
              replace hx136_0 := (HB.out.cell (World.block_lt_of_cell? w _ hx136_0)).trans hx136_0
              replace p136 := eq_true p136
              replace q136 := eq_true q136
              have hcz9_0 : wr.cell? ⟨g2, 0, none⟩ = some (.int .i64 a2_0) := (blk_cell BK900002.out 0).trans rfl
              have hfz9_0 := blk_frozen BK900002.out 0
              go_wp2_with (first | (go_at_call 113; (with_reducible refine (trans_Check_1.calls (rd l0 x8_1) g2 a2_0 true _ ?side1 A7.out).mono ?_); (case side1 => exact (by (with_reducible repeat (first | refine blk_drewN ?_ _ | refine blk_drew ?_ | refine blk_alloc ?_ _)); exact BK900002.out)); rintro e w' ⟨rfl, ⟨nd, rfl⟩⟩))
              go_ret
              exact ⟨by first | rfl | (simp [errW_none, errW_some] <;> rfl) | (simp [*, errW_none, errW_some] <;> rfl), by repeat (first | (with_reducible first | exact HB.out | apply below_alloc | apply pw_below_drewN | apply below_drew1 | refine below_set ?_ GE900002.out) | exact HB.out)⟩
            · replace c8 := Bool.eq_false_iff.mpr c8
              subst c8
              have H1 : (slices_IndexFunc__trans_Check_1.l0 k1 l0 (l0.length : Int) (wrap64 (x8_1 + 1)) a2_0) = some r := by rw [if_neg (show ¬ (false = true) by decide)] at H; exact H
              clear H
              have H := H1
              clear H1
              have H' := Aside0.mk H
              clear H
              have p136 : 0 ≤ (x8_1 : Int) := of_decide_eq_true (by first | (with_reducible assumption) | assumption)
              have q136 : x8_1 < (l0.length : Int) := of_decide_eq_true (by first | (with_reducible assumption) | assumption)
              obtain ⟨ad136, e136, hx136_0⟩ := Kd.at_int HR0.out x8_1 p136 q136
              cases e136
              replace hx136_0 := (HB.out.cell (World.block_lt_of_cell? w _ hx136_0)).trans hx136_0
              replace p136 := eq_true p136
              replace q136 := eq_true q136
              have hcz10_0 : wr.cell? ⟨g2, 0, none⟩ = some (.int .i64 a2_0) := (blk_cell BK900002.out 0).trans rfl
              have hfz10_0 := blk_frozen BK900002.out 0
              go_wp2_with (first | (go_at_call 113; (with_reducible refine (trans_Check_1.calls (rd l0 x8_1) g2 a2_0 false _ ?side1 A7.out).mono ?_); (case side1 => exact (by (with_reducible repeat (first | refine blk_drewN ?_ _ | refine blk_drew ?_ | refine blk_alloc ?_ _)); exact BK900002.out)); rintro e w' ⟨rfl, ⟨nd, rfl⟩⟩))
              go_roundg k1
              case measure => have := HK1.out; omega
              case rel => exact ⟨(wrap64 (x8_1 + 1)), (by first | rfl | (simp; done) | (simp [*]; done)), H', ⟨by have := HK1.out; omega⟩, ⟨by (with_reducible repeat (first | refine blk_drewN ?_ _ | refine blk_drew ?_ | refine blk_alloc ?_ _)); exact BK900002.out⟩, ⟨by repeat (first | (with_reducible first | exact HB.out | apply below_alloc | apply pw_below_drewN | apply below_drew1 | refine below_set ?_ GE900002.out) | exact HB.out)⟩⟩
          · rw [if_neg c6] at H
            exact absurd H (by simp)
        · rw [if_neg c5] at H
          exact absurd H (by simp)
      · rw [if_neg c4] at H
        have c4b0 : decide (x8_1 < (l0.length : Int)) = false := decide_eq_false c4
        clear c4
        obtain rfl := Option.some.inj H
        go_wp2
        go_ret
        exact ⟨by first | rfl | (simp [errW_none, errW_some] <;> rfl) | (simp [*, errW_none, errW_some] <;> rfl), by repeat (first | (with_reducible first | exact HB.out | apply below_alloc | apply pw_below_drewN | apply below_drew1 | refine below_set ?_ GE900002.out) | exact HB.out)⟩

/-! ### slices_ContainsFunc__trans_Check_1: function 224 -/
def slices_ContainsFunc__trans_Check_1.f (k : Nat) (l0 : List Int)  (a2_0 : Int) : Option (Bool) := (slices_IndexFunc__trans_Check_1.f k l0 a2_0).bind fun t138 => (some (decide (t138 ≥ 0)))
theorem slices_ContainsFunc__trans_Check_1.mono : ∀ a0 a1 k, LeO (slices_ContainsFunc__trans_Check_1.f k a0 a1) (slices_ContainsFunc__trans_Check_1.f (k + 1) a0 a1) := by
  intro a0 a1 k
  unfold slices_ContainsFunc__trans_Check_1.f
  repeat' first
      | (with_reducible exact slices_IndexFunc__trans_Check_1.mono _ _ _)
      | (with_reducible exact LeO.refl _)
      | (with_reducible exact LeO.none _)
      | (with_reducible refine LeO.ite ?_ ?_)
      | (with_reducible refine LeO.bind ?_ (fun _ => ?_))
      | exact slices_IndexFunc__trans_Check_1.mono _ _ _
      | exact LeO.none _
      | refine LeO.ite ?_ ?_
      | refine LeO.bind ?_ (fun _ => ?_)
set_option maxHeartbeats 8000000 in
set_option maxRecDepth 100000 in
theorem slices_ContainsFunc__trans_Check_1.calls (k : Nat) (A0 : Option Addr) (c0 : Nat) (l0 : List Int)  (g2 : Nat) (a2_0 : Int) (r : Bool) (w : World) (hr0 : Kd.C (Kd.int .i64) w A0 l0.length l0) (hc0 : l0.length ≤ c0) (hb2 : w.heap[g2]? = some (.cells #[.int .i64 a2_0] 3 (0, 0))) (h : slices_ContainsFunc__trans_Check_1.f k l0 a2_0 = some r) :
    Calls Try.prog 115 #[.slice A0 l0.length c0, .func (.func 113) #[] #[.pointer (some ⟨g2, 0, none⟩)]] w fun e w' => e = .returned (.bool r) ∧ Below w.heap.size w w' := by
  have HR0 := Aside0.mk hr0
  have HC0 := Aside0.mk hc0
  clear hr0 hc0
  have BK900002 := Aside0.mk hb2
  clear hb2
  have HB := Aside0.mk (Below.refl w.heap.size w)
  have H : ((slices_IndexFunc__trans_Check_1.f k l0 a2_0).bind fun t138 => (some (decide (t138 ≥ 0)))) = some r := h
  clear h
  replace H := Option.bind_eq_some_iff.mp H
  obtain ⟨t138, A40, H⟩ := H
  replace H : (some (decide (t138 ≥ 0))) = some r := H
  have A4 := Aside0.mk A40
  clear A40
  obtain rfl := Option.some.inj H
  have hcz5_0 : w.cell? ⟨g2, 0, none⟩ = some (.int .i64 a2_0) := (blk_cell BK900002.out 0).trans rfl
  have hfz5_0 := blk_frozen BK900002.out 0
  go_enter Try.func115, Try.ntmps115
  go_wp2_with (first | ((with_reducible refine gate_callee (f := 159) rfl ?_); refine goesL_ (some 7) rfl rfl Try.func159 (by kernel_rfl) rfl #[.slice A0 l0.length c0, .func (.func 113) #[] #[.pointer (some ⟨g2, 0, none⟩)]] rfl (by (try simp only [List.map_toArray, List.map_cons, List.map_nil]); first | done | rfl | (simp only [List.length_drop, List.length_take]; rfl)) ?_; (with_reducible refine (slices_IndexFunc__trans_Check_1.calls k _ _ l0 g2 a2_0 t138 _ ?side1 ?side2 ?side3 A4.out).mono ?_); (case side1 => repeat (first | exact HR0.out | (with_reducible refine Kd.C_alloc ?_ _) | (with_reducible refine Kd.C_drewN ?_ _) | (with_reducible refine Kd.C_drew ?_))); (case side2 => exact HC0.out); (case side3 => exact (by (with_reducible repeat (first | refine blk_drewN ?_ _ | refine blk_drew ?_ | refine blk_alloc ?_ _)); exact BK900002.out)); rintro e w6 ⟨rfl, hb⟩; refine ⟨_, rfl, ?_⟩; have n0_ := Aside0.mk (blk_below (g := g2) (o := .cells #[.int .i64 a2_0] 3 (0, 0)) (by (with_reducible repeat (first | refine blk_drewN ?_ _ | refine blk_drew ?_ | refine blk_alloc ?_ _)); exact BK900002.out) hb); have n1_ := Aside0.mk (below_step (by repeat (first | (with_reducible first | exact HB.out | apply below_alloc | apply pw_below_drewN | apply below_drew1 | refine below_set ?_ GE900002.out) | exact HB.out)) hb); clear BK900002; clear HB; have BK900002 := n0_; have HB := n1_; clear n0_ n1_; (try clear hb); (try clear hb2); (try clear hk); (try clear hi)))
  go_ret
  exact ⟨by first | rfl | (simp [errW_none, errW_some] <;> rfl) | (simp [*, errW_none, errW_some] <;> rfl), by repeat (first | (with_reducible first | exact HB.out | apply below_alloc | apply pw_below_drewN | apply below_drew1 | refine below_set ?_ GE900002.out) | exact HB.out)⟩

/-! ### trans_Check_2: function 223 -/
def trans_Check_2.f (k : Nat) (l0 : List Int)  (a2_0 : Int) : Option (Bool) := (slices_ContainsFunc__trans_Check_1.f k l0 a2_0).bind fun t139 => (some t139)
theorem trans_Check_2.mono : ∀ a0 a1 k, LeO (trans_Check_2.f k a0 a1) (trans_Check_2.f (k + 1) a0 a1) := by
  intro a0 a1 k
  unfold trans_Check_2.f
  repeat' first
      | (with_reducible exact slices_ContainsFunc__trans_Check_1.mono _ _ _)
      | (with_reducible exact LeO.refl _)
      | (with_reducible exact LeO.none _)
      | (with_reducible refine LeO.ite ?_ ?_)
      | (with_reducible refine LeO.bind ?_ (fun _ => ?_))
      | exact slices_ContainsFunc__trans_Check_1.mono _ _ _
      | exact LeO.none _
      | refine LeO.ite ?_ ?_
      | refine LeO.bind ?_ (fun _ => ?_)
set_option maxHeartbeats 8000000 in
set_option maxRecDepth 100000 in
theorem trans_Check_2.calls (k : Nat) (A0 : Option Addr) (c0 : Nat) (l0 : List Int) (g1 : Nat)  (g2 : Nat) (a2_0 : Int) (r : Bool) (w : World) (hr0 : Kd.C (Kd.int .i64) w A0 l0.length l0) (hc0 : l0.length ≤ c0) (hb1 : w.heap[g1]? = some (.cells #[.func (.func 113) #[] #[.pointer (some ⟨g2, 0, none⟩)]] 130 (0, 0))) (hb2 : w.heap[g2]? = some (.cells #[.int .i64 a2_0] 3 (0, 0))) (h : trans_Check_2.f k l0 a2_0 = some r) :
    Calls Try.prog 114 #[.slice A0 l0.length c0, .pointer (some ⟨g1, 0, none⟩)] w fun e w' => e = .returned (.bool r) ∧ Below w.heap.size w w' := by
  have HR0 := Aside0.mk hr0
  have HC0 := Aside0.mk hc0
  clear hr0 hc0
  have BK900001 := Aside0.mk hb1
  clear hb1
  have BK900002 := Aside0.mk hb2
  clear hb2
  have HB := Aside0.mk (Below.refl w.heap.size w)
  have H : ((slices_ContainsFunc__trans_Check_1.f k l0 a2_0).bind fun t139 => (some t139)) = some r := h
  clear h
  replace H := Option.bind_eq_some_iff.mp H
  obtain ⟨t139, A40, H⟩ := H
  replace H : (some t139) = some r := H
  have A4 := Aside0.mk A40
  clear A40
  obtain rfl := Option.some.inj H
  have hcz5_0 : w.cell? ⟨g1, 0, none⟩ = some (.func (.func 113) #[] #[.pointer (some ⟨g2, 0, none⟩)]) := (blk_cell BK900001.out 0).trans rfl
  have hfz5_0 := blk_frozen BK900001.out 0
  have hcz6_0 : w.cell? ⟨g2, 0, none⟩ = some (.int .i64 a2_0) := (blk_cell BK900002.out 0).trans rfl
  have hfz6_0 := blk_frozen BK900002.out 0
  go_enter Try.func114, Try.ntmps114
  go_wp2_with (first | ((with_reducible refine gate_callee (f := 115) rfl ?_); refine goesL_ (some 6) rfl rfl Try.func115 (by kernel_rfl) rfl #[.slice A0 l0.length c0, .func (.func 113) #[] #[.pointer (some ⟨g2, 0, none⟩)]] rfl (by (try simp only [List.map_toArray, List.map_cons, List.map_nil]); first | done | rfl | (simp only [List.length_drop, List.length_take]; rfl)) ?_; (with_reducible refine (slices_ContainsFunc__trans_Check_1.calls k _ _ l0 g2 a2_0 t139 _ ?side1 ?side2 ?side3 A4.out).mono ?_); (case side1 => repeat (first | exact HR0.out | (with_reducible refine Kd.C_alloc ?_ _) | (with_reducible refine Kd.C_drewN ?_ _) | (with_reducible refine Kd.C_drew ?_))); (case side2 => exact HC0.out); (case side3 => exact (by (with_reducible repeat (first | refine blk_drewN ?_ _ | refine blk_drew ?_ | refine blk_alloc ?_ _)); exact BK900002.out)); rintro e w7 ⟨rfl, hb⟩; refine ⟨_, rfl, ?_⟩; have n0_ := Aside0.mk (blk_below (g := g1) (o := .cells #[.func (.func 113) #[] #[.pointer (some ⟨g2, 0, none⟩)]] 130 (0, 0)) (by (with_reducible repeat (first | refine blk_drewN ?_ _ | refine blk_drew ?_ | refine blk_alloc ?_ _)); exact BK900001.out) hb); have n1_ := Aside0.mk (blk_below (g := g2) (o := .cells #[.int .i64 a2_0] 3 (0, 0)) (by (with_reducible repeat (first | refine blk_drewN ?_ _ | refine blk_drew ?_ | refine blk_alloc ?_ _)); exact BK900002.out) hb); have n2_ := Aside0.mk (below_step (by repeat (first | (with_reducible first | exact HB.out | apply below_alloc | apply pw_below_drewN | apply below_drew1 | refine below_set ?_ GE900001.out | refine below_set ?_ GE900002.out) | exact HB.out)) hb); clear BK900001; clear BK900002; clear HB; have BK900001 := n0_; have BK900002 := n1_; have HB := n2_; clear n0_ n1_ n2_; (try clear hb); (try clear hb2); (try clear hk); (try clear hi)))
  go_ret
  exact ⟨by first | rfl | (simp [errW_none, errW_some] <;> rfl) | (simp [*, errW_none, errW_some] <;> rfl), by repeat (first | (with_reducible first | exact HB.out | apply below_alloc | apply pw_below_drewN | apply below_drew1 | refine below_set ?_ GE900001.out | refine below_set ?_ GE900002.out) | exact HB.out)⟩

/-! ### slices_IndexFunc__trans_Check_2: function 222 -/
def slices_IndexFunc__trans_Check_2.l0 : Nat → List (List Int) → Int → Int → Int → Option (Int)
  | 0, _, _, _, _ => none
  | k + 1, x0, x7, x8, x900004000 => if x8 < x7 then (if 0 ≤ x8 then (if x8 < (x0.length : Int) then ((trans_Check_2.f k (rd_L1 x0 x8) x900004000).bind fun t141 => (if t141 = true then (some x8) else (slices_IndexFunc__trans_Check_2.l0 k x0 x7 (wrap64 (x8 + 1)) x900004000))) else (none)) else (none)) else (some (-1))
def slices_IndexFunc__trans_Check_2.f (k : Nat) (l0 : List (List Int))   (a3_0 : Int) : Option (Int) := slices_IndexFunc__trans_Check_2.l0 k l0 (l0.length : Int) 0 a3_0
theorem slices_IndexFunc__trans_Check_2.mono_l : ∀ k, (∀ y0 y1 y2 y3, LeO (slices_IndexFunc__trans_Check_2.l0 k y0 y1 y2 y3) (slices_IndexFunc__trans_Check_2.l0 (k + 1) y0 y1 y2 y3))
  | 0 => fun _ _ _ _ r h => by simp [slices_IndexFunc__trans_Check_2.l0] at h
  | k + 1 => by
    have ih0 := slices_IndexFunc__trans_Check_2.mono_l k
    · intro y0 y1 y2 y3
      unfold slices_IndexFunc__trans_Check_2.l0
      repeat' first
      | (with_reducible exact ih0 _ _ _ _)
      | (with_reducible exact trans_Check_2.mono _ _ _)
      | (with_reducible exact LeO.refl _)
      | (with_reducible exact LeO.none _)
      | (with_reducible refine LeO.ite ?_ ?_)
      | (with_reducible refine LeO.bind ?_ (fun _ => ?_))
      | exact ih0 _ _ _ _
      | exact trans_Check_2.mono _ _ _
      | exact LeO.none _
      | refine LeO.ite ?_ ?_
      | refine LeO.bind ?_ (fun _ => ?_)
theorem slices_IndexFunc__trans_Check_2.mono : ∀ a0 a1 k, LeO (slices_IndexFunc__trans_Check_2.f k a0 a1) (slices_IndexFunc__trans_Check_2.f (k + 1) a0 a1) := by
  intro a0 a1 k
  have ih0 := slices_IndexFunc__trans_Check_2.mono_l k
  unfold slices_IndexFunc__trans_Check_2.f
  repeat' first
      | (with_reducible exact ih0 _ _ _ _)
      | (with_reducible exact trans_Check_2.mono _ _ _)
      | (with_reducible exact LeO.refl _)
      | (with_reducible exact LeO.none _)
      | (with_reducible refine LeO.ite ?_ ?_)
      | (with_reducible refine LeO.bind ?_ (fun _ => ?_))
      | exact ih0 _ _ _ _
      | exact trans_Check_2.mono _ _ _
      | exact LeO.none _
      | refine LeO.ite ?_ ?_
      | refine LeO.bind ?_ (fun _ => ?_)
set_option maxHeartbeats 8000000 in
set_option maxRecDepth 100000 in
theorem slices_IndexFunc__trans_Check_2.calls (k : Nat) (A0 : Option Addr) (c0 : Nat) (l0 : List (List Int))  (g2 : Nat)  (g3 : Nat) (a3_0 : Int) (r : Int) (w : World) (hr0 : Kd.C (Kd.slice 3 (Kd.int .i64)) w A0 l0.length l0) (hc0 : l0.length ≤ c0) (hb2 : w.heap[g2]? = some (.cells #[.func (.func 113) #[] #[.pointer (some ⟨g3, 0, none⟩)]] 130 (0, 0))) (hb3 : w.heap[g3]? = some (.cells #[.int .i64 a3_0] 3 (0, 0))) (h : slices_IndexFunc__trans_Check_2.f k l0 a3_0 = some r) :
    Calls Try.prog 144 #[.slice A0 l0.length c0, .func (.func 114) #[] #[.pointer (some ⟨g2, 0, none⟩)]] w fun e w' => e = .returned (.int .i64 r) ∧ Below w.heap.size w w' := by
  have HR0 := Aside0.mk hr0
  have HC0 := Aside0.mk hc0
  clear hr0 hc0
  have BK900002 := Aside0.mk hb2
  clear hb2
  have BK900003 := Aside0.mk hb3
  clear hb3
  have HB := Aside0.mk (Below.refl w.heap.size w)
  have H : (slices_IndexFunc__trans_Check_2.l0 k l0 (l0.length : Int) 0 a3_0) = some r := h
  clear h
  have H' := Aside0.mk H
  clear H
  go_enter Try.func144, Try.ntmps144
  go_wp2
  go_loopg [8] k (fun kq v8 w' => ∃ (x8_1 : Int), v8 = .int .i64 x8_1 ∧ Aside0 (slices_IndexFunc__trans_Check_2.l0 kq l0 (l0.length : Int) x8_1 a3_0 = some r) ∧ Aside0 (kq ≤ k) ∧ Aside0 (w'.heap[g2]? = some (.cells #[(.func (.func 113) #[] #[.pointer (some ⟨g3, 0, none⟩)])] 130 (0, 0))) ∧ Aside0 (w'.heap[g3]? = some (.cells #[.int .i64 a3_0] 3 (0, 0))) ∧ Aside0 (Below w.heap.size w w'))
  case atStart => exact ⟨(0), (by first | rfl | (simp; done) | (simp [*]; done)), H', ⟨Nat.le_refl _⟩, ⟨by (with_reducible repeat (first | refine blk_drewN ?_ _ | refine blk_drew ?_ | refine blk_alloc ?_ _)); exact BK900002.out⟩, ⟨by (with_reducible repeat (first | refine blk_drewN ?_ _ | refine blk_drew ?_ | refine blk_alloc ?_ _)); exact BK900003.out⟩, ⟨by repeat (first | (with_reducible first | exact HB.out | apply below_alloc | apply pw_below_drewN | apply below_drew1 | refine below_set ?_ GE900002.out | refine below_set ?_ GE900003.out) | exact HB.out)⟩⟩
  case round =>
    clear H'
    try clear c1
    try clear p2
    obtain ⟨x8_1, rfl, HA, HK1, BK900002, BK900003, HB⟩ := hrel
    cases gk with
    | zero => exact absurd HA.out (by simp [slices_IndexFunc__trans_Check_2.l0])
    | succ k1 =>
      have H := HA.out
      clear HA
      simp only [slices_IndexFunc__trans_Check_2.l0] at H
      by_cases c5 : x8_1 < (l0.length : Int)
      · rw [if_pos c5] at H
        have c5b0 : decide (x8_1 < (l0.length : Int)) = true := decide_eq_true c5
        clear c5
        by_cases c6 : 0 ≤ x8_1
        · rw [if_pos c6] at H
          have c6b0 : decide (0 ≤ x8_1) = true := decide_eq_true c6
          clear c6
          by_cases c7 : x8_1 < (l0.length : Int)
          · rw [if_pos c7] at H
            have c7b0 : decide (x8_1 < (l0.length : Int)) = true := decide_eq_true c7
            clear c7
            replace H := Option.bind_eq_some_iff.mp H
            obtain ⟨t141, A80, H⟩ := H
            replace H : (if t141 = true then (some x8_1) else (slices_IndexFunc__trans_Check_2.l0 k1 l0 (l0.length : Int) (wrap64 (x8_1 + 1)) a3_0)) = some r := H
            have A8 := Aside0.mk A80
            clear A80
            by_cases c9 : t141 = true
            · subst c9
              have H1 : (some x8_1) = some r := by rw [if_pos rfl] at H; exact H
              clear H
              have H := H1
              clear H1
              obtain rfl := Option.some.inj H
              have p140 : 0 ≤ (x8_1 : Int) := of_decide_eq_true (by first | (with_reducible assumption) | assumption)
              have q140 : x8_1 < (l0.length : Int) := of_decide_eq_true (by first | (with_reducible assumption) | assumption)
              obtain ⟨ad140, A140_0, c140_0, e140, hx140_0, hl140_0, hi140_0⟩ := at_L1 HR0.out x8_1 p140 q140
              cases e140
              replace hx140_0 := (HB.out.cell (World.block_lt_of_cell? w _ hx140_0)).trans hx140_0
              have HR140_0 := Aside0.mk hi140_0
              have HC140_0 := Aside0.mk hl140_0
              clear hi140_0 hl140_0
              replace p140 := eq_true p140
              replace q140 := eq_true q140
              have hcz10_0 : wr.cell? ⟨g2, 0, none⟩ = some (.func (.func 113) #[] #[.pointer (some ⟨g3, 0, none⟩)]) := (blk_cell BK900002.out 0).trans rfl
              have hfz10_0 := blk_frozen BK900002.out 0
              have hcz11_0 : wr.cell? ⟨g3, 0, none⟩ = some (.int .i64 a3_0) := (blk_cell BK900003.out 0).trans rfl
              have hfz11_0 := blk_frozen BK900003.out 0
              go_wp2_with (first | (go_at_call 114; (with_reducible refine (trans_Check_2.calls k1 _ _ (rd_L1 l0 x8_1) g2  g3 a3_0 true _ ?side1 ?side2 ?side3 ?side4 A8.out).mono ?_); (case side1 => repeat (first | exact (Kd.C_below HR140_0.out HB.out) | (with_reducible refine Kd.C_alloc ?_ _) | (with_reducible refine Kd.C_drewN ?_ _) | (with_reducible refine Kd.C_drew ?_))); (case side2 => exact HC140_0.out); (case side3 => exact (by (with_reducible repeat (first | refine blk_drewN ?_ _ | refine blk_drew ?_ | refine blk_alloc ?_ _)); exact BK900002.out)); (case side4 => exact (by (with_reducible repeat (first | refine blk_drewN ?_ _ | refine blk_drew ?_ | refine blk_alloc ?_ _)); exact BK900003.out)); rintro e w12 ⟨rfl, hb⟩; have n0_ := Aside0.mk (blk_below (g := g2) (o := .cells #[.func (.func 113) #[] #[.pointer (some ⟨g3, 0, none⟩)]] 130 (0, 0)) (by (with_reducible repeat (first | refine blk_drewN ?_ _ | refine blk_drew ?_ | refine blk_alloc ?_ _)); exact BK900002.out) hb); have n1_ := Aside0.mk (blk_below (g := g3) (o := .cells #[.int .i64 a3_0] 3 (0, 0)) (by (with_reducible repeat (first | refine blk_drewN ?_ _ | refine blk_drew ?_ | refine blk_alloc ?_ _)); exact BK900003.out) hb); have n2_ := Aside0.mk (below_step (by repeat (first | (with_reducible first | exact HB.out | apply below_alloc | apply pw_below_drewN | apply below_drew1 | refine below_set ?_ GE900002.out | refine below_set ?_ GE900003.out) | exact HB.out)) hb); clear BK900002; clear BK900003; clear HB; have BK900002 := n0_; have BK900003 := n1_; have HB := n2_; clear n0_ n1_ n2_; (try clear hb); (try clear hb2); (try clear hk); (try clear hi)))
              go_ret
              exact ⟨by first | rfl | (simp [errW_none, errW_some] <;> rfl) | (simp [*, errW_none, errW_some] <;> rfl), by repeat (first | (with_reducible first | exact HB.out | apply below_alloc | apply pw_below_drewN | apply below_drew1 | refine below_set ?_ GE900002.out | refine below_set ?_ GE900003.out) | exact HB.out)⟩
            · replace c9 := Bool.eq_false_iff.mpr c9
              subst c9
              have H1 : (slices_IndexFunc__trans_Check_2.l0 k1 l0 (l0.length : Int) (wrap64 (x8_1 + 1)) a3_0) = some r := by rw [if_neg (show ¬ (false = true) by decide)] at H; exact H
              clear H
              have H := H1
              clear H1
              have H' := Aside0.mk H
              clear H
              have p140 : 0 ≤ (x8_1 : Int) := of_decide_eq_true (by first | (with_reducible assumption) | assumption)
              have q140 : x8_1 < (l0.length : Int) := of_decide_eq_true (by first | (with_reducible assumption) | assumption)
              obtain ⟨ad140, A140_0, c140_0, e140, hx140_0, hl140_0, hi140_0⟩ := at_L1 HR0.out x8_1 p140 q140
              cases e140
              replace hx140_0 := (HB.out.cell (World.block_lt_of_cell? w _ hx140_0)).trans hx140_0
              have HR140_0 := Aside0.mk hi140_0
              have HC140_0 := Aside0.mk hl140_0
              clear hi140_0 hl140_0
              replace p140 := eq_true p140
              replace q140 := eq_true q140
              have hcz13_0 : wr.cell? ⟨g2, 0, none⟩ = some (.func (.func 113) #[] #[.pointer (some ⟨g3, 0, none⟩)]) := (blk_cell BK900002.out 0).trans rfl
              have hfz13_0 := blk_frozen BK900002.out 0
              have hcz14_0 : wr.cell? ⟨g3, 0, none⟩ = some (.int .i64 a3_0) := (blk_cell BK900003.out 0).trans rfl
              have hfz14_0 := blk_frozen BK900003.out 0
              go_wp2_with (first | (go_at_call 114; (with_reducible refine (trans_Check_2.calls k1 _ _ (rd_L1 l0 x8_1) g2  g3 a3_0 false _ ?side1 ?side2 ?side3 ?side4 A8.out).mono ?_); (case side1 => repeat (first | exact (Kd.C_below HR140_0.out HB.out) | (with_reducible refine Kd.C_alloc ?_ _) | (with_reducible refine Kd.C_drewN ?_ _) | (with_reducible refine Kd.C_drew ?_))); (case side2 => exact HC140_0.out); (case side3 => exact (by (with_reducible repeat (first | refine blk_drewN ?_ _ | refine blk_drew ?_ | refine blk_alloc ?_ _)); exact BK900002.out)); (case side4 => exact (by (with_reducible repeat (first | refine blk_drewN ?_ _ | refine blk_drew ?_ | refine blk_alloc ?_ _)); exact BK900003.out)); rintro e w15 ⟨rfl, hb⟩; have n0_ := Aside0.mk (blk_below (g := g2) (o := .cells #[.func (.func 113) #[] #[.pointer (some ⟨g3, 0, none⟩)]] 130 (0, 0)) (by (with_reducible repeat (first | refine blk_drewN ?_ _ | refine blk_drew ?_ | refine blk_alloc ?_ _)); exact BK900002.out) hb); have n1_ := Aside0.mk (blk_below (g := g3) (o := .cells #[.int .i64 a3_0] 3 (0, 0)) (by (with_reducible repeat (first | refine blk_drewN ?_ _ | refine blk_drew ?_ | refine blk_alloc ?_ _)); exact BK900003.out) hb); have n2_ := Aside0.mk (below_step (by repeat (first | (with_reducible first | exact HB.out | apply below_alloc | apply pw_below_drewN | apply below_drew1 | refine below_set ?_ GE900002.out | refine below_set ?_ GE900003.out) | exact HB.out)) hb); clear BK900002; clear BK900003; clear HB; have BK900002 := n0_; have BK900003 := n1_; have HB := n2_; clear n0_ n1_ n2_; (try clear hb); (try clear hb2); (try clear hk); (try clear hi)))
              go_roundg k1
              case measure => have := HK1.out; omega
              case rel => exact ⟨(wrap64 (x8_1 + 1)), (by first | rfl | (simp; done) | (simp [*]; done)), H', ⟨by have := HK1.out; omega⟩, ⟨by (with_reducible repeat (first | refine blk_drewN ?_ _ | refine blk_drew ?_ | refine blk_alloc ?_ _)); exact BK900002.out⟩, ⟨by (with_reducible repeat (first | refine blk_drewN ?_ _ | refine blk_drew ?_ | refine blk_alloc ?_ _)); exact BK900003.out⟩, ⟨by repeat (first | (with_reducible first | exact HB.out | apply below_alloc | apply pw_below_drewN | apply below_drew1 | refine below_set ?_ GE900002.out | refine below_set ?_ GE900003.out) | exact HB.out)⟩⟩
          · rw [if_neg c7] at H
            exact absurd H (by simp)
        · rw [if_neg c6] at H
          exact absurd H (by simp)
      · rw [if_neg c5] at H
        have c5b0 : decide (x8_1 < (l0.length : Int)) = false := decide_eq_false c5
        clear c5
        obtain rfl := Option.some.inj H
        go_wp2
        go_ret
        exact ⟨by first | rfl | (simp [errW_none, errW_some] <;> rfl) | (simp [*, errW_none, errW_some] <;> rfl), by repeat (first | (with_reducible first | exact HB.out | apply below_alloc | apply pw_below_drewN | apply below_drew1 | refine below_set ?_ GE900002.out | refine below_set ?_ GE900003.out) | exact HB.out)⟩

/-! ### slices_ContainsFunc__trans_Check_2: function 221 -/
def slices_ContainsFunc__trans_Check_2.f (k : Nat) (l0 : List (List Int))   (a3_0 : Int) : Option (Bool) := (slices_IndexFunc__trans_Check_2.f k l0 a3_0).bind fun t142 => (some (decide (t142 ≥ 0)))
theorem slices_ContainsFunc__trans_Check_2.mono : ∀ a0 a1 k, LeO (slices_ContainsFunc__trans_Check_2.f k a0 a1) (slices_ContainsFunc__trans_Check_2.f (k + 1) a0 a1) := by
  intro a0 a1 k
  unfold slices_ContainsFunc__trans_Check_2.f
  repeat' first
      | (with_reducible exact slices_IndexFunc__trans_Check_2.mono _ _ _)
      | (with_reducible exact LeO.refl _)
      | (with_reducible exact LeO.none _)
      | (with_reducible refine LeO.ite ?_ ?_)
      | (with_reducible refine LeO.bind ?_ (fun _ => ?_))
      | exact slices_IndexFunc__trans_Check_2.mono _ _ _
      | exact LeO.none _
      | refine LeO.ite ?_ ?_
      | refine LeO.bind ?_ (fun _ => ?_)
set_option maxHeartbeats 8000000 in
set_option maxRecDepth 100000 in
theorem slices_ContainsFunc__trans_Check_2.calls (k : Nat) (A0 : Option Addr) (c0 : Nat) (l0 : List (List Int))  (g2 : Nat)  (g3 : Nat) (a3_0 : Int) (r : Bool) (w : World) (hr0 : Kd.C (Kd.slice 3 (Kd.int .i64)) w A0 l0.length l0) (hc0 : l0.length ≤ c0) (hb2 : w.heap[g2]? = some (.cells #[.func (.func 113) #[] #[.pointer (some ⟨g3, 0, none⟩)]] 130 (0, 0))) (hb3 : w.heap[g3]? = some (.cells #[.int .i64 a3_0] 3 (0, 0))) (h : slices_ContainsFunc__trans_Check_2.f k l0 a3_0 = some r) :
    Calls Try.prog 92 #[.slice A0 l0.length c0, .func (.func 114) #[] #[.pointer (some ⟨g2, 0, none⟩)]] w fun e w' => e = .returned (.bool r) ∧ Below w.heap.size w w' := by
  have HR0 := Aside0.mk hr0
  have HC0 := Aside0.mk hc0
  clear hr0 hc0
  have BK900002 := Aside0.mk hb2
  clear hb2
  have BK900003 := Aside0.mk hb3
  clear hb3
  have HB := Aside0.mk (Below.refl w.heap.size w)
  have H : ((slices_IndexFunc__trans_Check_2.f k l0 a3_0).bind fun t142 => (some (decide (t142 ≥ 0)))) = some r := h
  clear h
  replace H := Option.bind_eq_some_iff.mp H
  obtain ⟨t142, A50, H⟩ := H
  replace H : (some (decide (t142 ≥ 0))) = some r := H
  have A5 := Aside0.mk A50
  clear A50
  obtain rfl := Option.some.inj H
  have hcz6_0 : w.cell? ⟨g2, 0, none⟩ = some (.func (.func 113) #[] #[.pointer (some ⟨g3, 0, none⟩)]) := (blk_cell BK900002.out 0).trans rfl
  have hfz6_0 := blk_frozen BK900002.out 0
  have hcz7_0 : w.cell? ⟨g3, 0, none⟩ = some (.int .i64 a3_0) := (blk_cell BK900003.out 0).trans rfl
  have hfz7_0 := blk_frozen BK900003.out 0
  go_enter Try.func92, Try.ntmps92
  go_wp2_with (first | ((with_reducible refine gate_callee (f := 144) rfl ?_); refine goesL_ (some 7) rfl rfl Try.func144 (by kernel_rfl) rfl #[.slice A0 l0.length c0, .func (.func 114) #[] #[.pointer (some ⟨g2, 0, none⟩)]] rfl (by (try simp only [List.map_toArray, List.map_cons, List.map_nil]); first | done | rfl | (simp only [List.length_drop, List.length_take]; rfl)) ?_; (with_reducible refine (slices_IndexFunc__trans_Check_2.calls k _ _ l0 g2  g3 a3_0 t142 _ ?side1 ?side2 ?side3 ?side4 A5.out).mono ?_); (case side1 => repeat (first | exact HR0.out | (with_reducible refine Kd.C_alloc ?_ _) | (with_reducible refine Kd.C_drewN ?_ _) | (with_reducible refine Kd.C_drew ?_))); (case side2 => exact HC0.out); (case side3 => exact (by (with_reducible repeat (first | refine blk_drewN ?_ _ | refine blk_drew ?_ | refine blk_alloc ?_ _)); exact BK900002.out)); (case side4 => exact (by (with_reducible repeat (first | refine blk_drewN ?_ _ | refine blk_drew ?_ | refine blk_alloc ?_ _)); exact BK900003.out)); rintro e w8 ⟨rfl, hb⟩; refine ⟨_, rfl, ?_⟩; have n0_ := Aside0.mk (blk_below (g := g2) (o := .cells #[.func (.func 113) #[] #[.pointer (some ⟨g3, 0, none⟩)]] 130 (0, 0)) (by (with_reducible repeat (first | refine blk_drewN ?_ _ | refine blk_drew ?_ | refine blk_alloc ?_ _)); exact BK900002.out) hb); have n1_ := Aside0.mk (blk_below (g := g3) (o := .cells #[.int .i64 a3_0] 3 (0, 0)) (by (with_reducible repeat (first | refine blk_drewN ?_ _ | refine blk_drew ?_ | refine blk_alloc ?_ _)); exact BK900003.out) hb); have n2_ := Aside0.mk (below_step (by repeat (first | (with_reducible first | exact HB.out | apply below_alloc | apply pw_below_drewN | apply below_drew1 | refine below_set ?_ GE900002.out | refine below_set ?_ GE900003.out) | exact HB.out)) hb); clear BK900002; clear BK900003; clear HB; have BK900002 := n0_; have BK900003 := n1_; have HB := n2_; clear n0_ n1_ n2_; (try clear hb); (try clear hb2); (try clear hk); (try clear hi)))
  go_ret
  exact ⟨by first | rfl | (simp [errW_none, errW_some] <;> rfl) | (simp [*, errW_none, errW_some] <;> rfl), by repeat (first | (with_reducible first | exact HB.out | apply below_alloc | apply pw_below_drewN | apply below_drew1 | refine below_set ?_ GE900002.out | refine below_set ?_ GE900003.out) | exact HB.out)⟩

/-! ### trans_Check_3: function 228 -/
def trans_Check_3.f (a0 : Int) (a1_0 : Int) (a1_1 : Int) (a1_2 : Int) (l1_3 : List Int) (l1_4 : List (List Int)) (l1_5 : List (List (List Int))) (l1_6 : List (List Int)) : Option (Bool) := if a0 < 0 then (some true) else (some (decide (a0 ≥ a1_1)))
set_option maxHeartbeats 8000000 in
set_option maxRecDepth 100000 in
theorem trans_Check_3.calls (a0 : Int) (g1 : Nat) (a1_0 : Int) (a1_1 : Int) (a1_2 : Int) (A1_3 : Option Addr) (c1_3 : Nat) (l1_3 : List Int) (A1_4 : Option Addr) (c1_4 : Nat) (l1_4 : List (List Int)) (A1_5 : Option Addr) (c1_5 : Nat) (l1_5 : List (List (List Int))) (A1_6 : Option Addr) (c1_6 : Nat) (l1_6 : List (List Int)) (r : Bool) (w : World) (hb1 : w.heap[g1]? = some (.cells #[.int .i64 a1_0, .int .i64 a1_1, .int .i64 a1_2, .slice A1_3 l1_3.length c1_3, .slice A1_4 l1_4.length c1_4, .slice A1_5 l1_5.length c1_5, .slice A1_6 l1_6.length c1_6] 94 (0, 0))) (hr1_3 : Kd.C (Kd.int .i64) w A1_3 l1_3.length l1_3) (hc1_3 : l1_3.length ≤ c1_3) (hr1_4 : Kd.C (Kd.slice 3 (Kd.int .i64)) w A1_4 l1_4.length l1_4) (hc1_4 : l1_4.length ≤ c1_4) (hr1_5 : Kd.C (Kd.slice 32 (Kd.slice 3 (Kd.int .i64))) w A1_5 l1_5.length l1_5) (hc1_5 : l1_5.length ≤ c1_5) (hr1_6 : Kd.C (Kd.slice 3 (Kd.int .i64)) w A1_6 l1_6.length l1_6) (hc1_6 : l1_6.length ≤ c1_6) (h : trans_Check_3.f a0 a1_0 a1_1 a1_2 l1_3 l1_4 l1_5 l1_6 = some r) :
    Calls Try.prog 118 #[.int .i64 a0, .pointer (some ⟨g1, 0, none⟩)] w fun e w' => e = .returned (.bool r) ∧ Drawn0 w w' := by
  have HR1_3 := Aside0.mk hr1_3
  have HC1_3 := Aside0.mk hc1_3
  clear hr1_3 hc1_3
  have HR1_4 := Aside0.mk hr1_4
  have HC1_4 := Aside0.mk hc1_4
  clear hr1_4 hc1_4
  have HR1_5 := Aside0.mk hr1_5
  have HC1_5 := Aside0.mk hc1_5
  clear hr1_5 hc1_5
  have HR1_6 := Aside0.mk hr1_6
  have HC1_6 := Aside0.mk hc1_6
  clear hr1_6 hc1_6
  have BK900001 := Aside0.mk hb1
  clear hb1
  have H : (if a0 < 0 then (some true) else (some (decide (a0 ≥ a1_1)))) = some r := h
  clear h
  by_cases c3 : a0 < 0
  · rw [if_pos c3] at H
    have c3b0 : decide (a0 < 0) = true := decide_eq_true c3
    clear c3
    obtain rfl := Option.some.inj H
    go_enter Try.func118, Try.ntmps118
    go_wp2
    go_ret
    exact ⟨by first | rfl | (simp; done) | (simp [*]; done), by repeat (first | exact Drawn0.refl _ | apply Drawn0.step)⟩
  · rw [if_neg c3] at H
    have c3b0 : decide (a0 < 0) = false := decide_eq_false c3
    clear c3
    obtain rfl := Option.some.inj H
    have hcz4_0 : w.cell? ⟨g1, 0, none⟩ = some (.int .i64 a1_0) := (blk_cell BK900001.out 0).trans rfl
    have hcz4_1 : w.cell? ⟨g1, 1, none⟩ = some (.int .i64 a1_1) := (blk_cell BK900001.out 1).trans rfl
    have hcz4_2 : w.cell? ⟨g1, 2, none⟩ = some (.int .i64 a1_2) := (blk_cell BK900001.out 2).trans rfl
    have hcz4_3 : w.cell? ⟨g1, 3, none⟩ = some (.slice A1_3 l1_3.length c1_3) := (blk_cell BK900001.out 3).trans rfl
    have hcz4_4 : w.cell? ⟨g1, 4, none⟩ = some (.slice A1_4 l1_4.length c1_4) := (blk_cell BK900001.out 4).trans rfl
    have hcz4_5 : w.cell? ⟨g1, 5, none⟩ = some (.slice A1_5 l1_5.length c1_5) := (blk_cell BK900001.out 5).trans rfl
    have hcz4_6 : w.cell? ⟨g1, 6, none⟩ = some (.slice A1_6 l1_6.length c1_6) := (blk_cell BK900001.out 6).trans rfl
    have hfz4_0 := blk_frozen BK900001.out 0
    have hfz4_1 := blk_frozen BK900001.out 1
    have hfz4_2 := blk_frozen BK900001.out 2
    have hfz4_3 := blk_frozen BK900001.out 3
    have hfz4_4 := blk_frozen BK900001.out 4
    have hfz4_5 := blk_frozen BK900001.out 5
    have hfz4_6 := blk_frozen BK900001.out 6
    go_enter Try.func118, Try.ntmps118
    go_wp2
    go_ret
    exact ⟨by first | rfl | (simp; done) | (simp [*]; done), by repeat (first | exact Drawn0.refl _ | apply Drawn0.step)⟩

/-! ### slices_IndexFunc__trans_Check_3: function 227 -/
def slices_IndexFunc__trans_Check_3.l0 : Nat → List Int → Int → Int → Int → Int → Int → List Int → List (List Int) → List (List (List Int)) → List (List Int) → Option (Int)
  | 0, _, _, _, _, _, _, _, _, _, _ => none
  | k + 1, x0, x7, x8, x900003000, x900003001, x900003002, x900003003, x900003004, x900003005, x900003006 => if x8 < x7 then (if 0 ≤ x8 then (if x8 < (x0.length : Int) then ((trans_Check_3.f (rd x0 x8) x900003000 x900003001 x900003002 x900003003 x900003004 x900003005 x900003006).bind fun t161 => (if t161 = true then (some x8) else (slices_IndexFunc__trans_Check_3.l0 k x0 x7 (wrap64 (x8 + 1)) x900003000 x900003001 x900003002 x900003003 x900003004 x900003005 x900003006))) else (none)) else (none)) else (some (-1))
def slices_IndexFunc__trans_Check_3.f (k : Nat) (l0 : List Int)  (a2_0 : Int) (a2_1 : Int) (a2_2 : Int) (l2_3 : List Int) (l2_4 : List (List Int)) (l2_5 : List (List (List Int))) (l2_6 : List (List Int)) : Option (Int) := slices_IndexFunc__trans_Check_3.l0 k l0 (l0.length : Int) 0 a2_0 a2_1 a2_2 l2_3 l2_4 l2_5 l2_6
theorem slices_IndexFunc__trans_Check_3.mono_l : ∀ k, (∀ y0 y1 y2 y3 y4 y5 y6 y7 y8 y9, LeO (slices_IndexFunc__trans_Check_3.l0 k y0 y1 y2 y3 y4 y5 y6 y7 y8 y9) (slices_IndexFunc__trans_Check_3.l0 (k + 1) y0 y1 y2 y3 y4 y5 y6 y7 y8 y9))
  | 0 => fun _ _ _ _ _ _ _ _ _ _ r h => by simp [slices_IndexFunc__trans_Check_3.l0] at h
  | k + 1 => by
    have ih0 := slices_IndexFunc__trans_Check_3.mono_l k
    · intro y0 y1 y2 y3 y4 y5 y6 y7 y8 y9
      unfold slices_IndexFunc__trans_Check_3.l0
      repeat' first
      | (with_reducible exact ih0 _ _ _ _ _ _ _ _ _ _)
      | (with_reducible exact LeO.refl _)
      | (with_reducible exact LeO.none _)
      | (with_reducible refine LeO.ite ?_ ?_)
      | (with_reducible refine LeO.bind ?_ (fun _ => ?_))
      | exact ih0 _ _ _ _ _ _ _ _ _ _
      | exact LeO.none _
      | refine LeO.ite ?_ ?_
      | refine LeO.bind ?_ (fun _ => ?_)
theorem slices_IndexFunc__trans_Check_3.mono : ∀ a0 a1 a2 a3 a4 a5 a6 a7 k, LeO (slices_IndexFunc__trans_Check_3.f k a0 a1 a2 a3 a4 a5 a6 a7) (slices_IndexFunc__trans_Check_3.f (k + 1) a0 a1 a2 a3 a4 a5 a6 a7) := by
  intro a0 a1 a2 a3 a4 a5 a6 a7 k
  have ih0 := slices_IndexFunc__trans_Check_3.mono_l k
  unfold slices_IndexFunc__trans_Check_3.f
  repeat' first
      | (with_reducible exact ih0 _ _ _ _ _ _ _ _ _ _)
      | (with_reducible exact LeO.refl _)
      | (with_reducible exact LeO.none _)
      | (with_reducible refine LeO.ite ?_ ?_)
      | (with_reducible refine LeO.bind ?_ (fun _ => ?_))
      | exact ih0 _ _ _ _ _ _ _ _ _ _
      | exact LeO.none _
      | refine LeO.ite ?_ ?_
      | refine LeO.bind ?_ (fun _ => ?_)
set_option maxHeartbeats 8000000 in
set_option maxRecDepth 100000 in
theorem slices_IndexFunc__trans_Check_3.calls (k : Nat) (A0 : Option Addr) (c0 : Nat) (l0 : List Int)  (g2 : Nat) (a2_0 : Int) (a2_1 : Int) (a2_2 : Int) (A2_3 : Option Addr) (c2_3 : Nat) (l2_3 : List Int) (A2_4 : Option Addr) (c2_4 : Nat) (l2_4 : List (List Int)) (A2_5 : Option Addr) (c2_5 : Nat) (l2_5 : List (List (List Int))) (A2_6 : Option Addr) (c2_6 : Nat) (l2_6 : List (List Int)) (r : Int) (w : World) (hr0 : Kd.C (Kd.int .i64) w A0 l0.length l0) (hc0 : l0.length ≤ c0) (hb2 : w.heap[g2]? = some (.cells #[.int .i64 a2_0, .int .i64 a2_1, .int .i64 a2_2, .slice A2_3 l2_3.length c2_3, .slice A2_4 l2_4.length c2_4, .slice A2_5 l2_5.length c2_5, .slice A2_6 l2_6.length c2_6] 94 (0, 0))) (hr2_3 : Kd.C (Kd.int .i64) w A2_3 l2_3.length l2_3) (hc2_3 : l2_3.length ≤ c2_3) (hr2_4 : Kd.C (Kd.slice 3 (Kd.int .i64)) w A2_4 l2_4.length l2_4) (hc2_4 : l2_4.length ≤ c2_4) (hr2_5 : Kd.C (Kd.slice 32 (Kd.slice 3 (Kd.int .i64))) w A2_5 l2_5.length l2_5) (hc2_5 : l2_5.length ≤ c2_5) (hr2_6 : Kd.C (Kd.slice 3 (Kd.int .i64)) w A2_6 l2_6.length l2_6) (hc2_6 : l2_6.length ≤ c2_6) (h : slices_IndexFunc__trans_Check_3.f k l0 a2_0 a2_1 a2_2 l2_3 l2_4 l2_5 l2_6 = some r) :
    Calls Try.prog 159 #[.slice A0 l0.length c0, .func (.func 118) #[] #[.pointer (some ⟨g2, 0, none⟩)]] w fun e w' => e = .returned (.int .i64 r) ∧ Below w.heap.size w w' := by
  have HR0 := Aside0.mk hr0
  have HC0 := Aside0.mk hc0
  clear hr0 hc0
  have HR2_3 := Aside0.mk hr2_3
  have HC2_3 := Aside0.mk hc2_3
  clear hr2_3 hc2_3
  have HR2_4 := Aside0.mk hr2_4
  have HC2_4 := Aside0.mk hc2_4
  clear hr2_4 hc2_4
  have HR2_5 := Aside0.mk hr2_5
  have HC2_5 := Aside0.mk hc2_5
  clear hr2_5 hc2_5
  have HR2_6 := Aside0.mk hr2_6
  have HC2_6 := Aside0.mk hc2_6
  clear hr2_6 hc2_6
  have BK900002 := Aside0.mk hb2
  clear hb2
  have HB := Aside0.mk (Below.refl w.heap.size w)
  have H : (slices_IndexFunc__trans_Check_3.l0 k l0 (l0.length : Int) 0 a2_0 a2_1 a2_2 l2_3 l2_4 l2_5 l2_6) = some r := h
  clear h
  have H' := Aside0.mk H
  clear H
  go_enter Try.func159, Try.ntmps159
  go_wp2
  go_loopg [8] k (fun kq v8 w' => ∃ (x8_1 : Int), v8 = .int .i64 x8_1 ∧ Aside0 (slices_IndexFunc__trans_Check_3.l0 kq l0 (l0.length : Int) x8_1 a2_0 a2_1 a2_2 l2_3 l2_4 l2_5 l2_6 = some r) ∧ Aside0 (kq ≤ k) ∧ Aside0 (w'.heap[g2]? = some (.cells #[.int .i64 a2_0, .int .i64 a2_1, .int .i64 a2_2, (.slice A2_3 l2_3.length c2_3), (.slice A2_4 l2_4.length c2_4), (.slice A2_5 l2_5.length c2_5), (.slice A2_6 l2_6.length c2_6)] 94 (0, 0))) ∧ Aside0 (Below w.heap.size w w'))
  case atStart => exact ⟨(0), (by first | rfl | (simp; done) | (simp [*]; done)), H', ⟨Nat.le_refl _⟩, ⟨by (with_reducible repeat (first | refine blk_drewN ?_ _ | refine blk_drew ?_ | refine blk_alloc ?_ _)); exact BK900002.out⟩, ⟨by repeat (first | (with_reducible first | exact HB.out | apply below_alloc | apply pw_below_drewN | apply below_drew1 | refine below_set ?_ GE900002.out) | exact HB.out)⟩⟩
  case round =>
    clear H'
    try clear c1
    try clear c2
    try clear p2
    obtain ⟨x8_1, rfl, HA, HK1, BK900002, HB⟩ := hrel
    cases gk with
    | zero => exact absurd HA.out (by simp [slices_IndexFunc__trans_Check_3.l0])
    | succ k1 =>
      have H := HA.out
      clear HA
      simp only [slices_IndexFunc__trans_Check_3.l0] at H
      by_cases c4 : x8_1 < (l0.length : Int)
      · rw [if_pos c4] at H
        have c4b0 : decide (x8_1 < (l0.length : Int)) = true := decide_eq_true c4
        clear c4
        by_cases c5 : 0 ≤ x8_1
        · rw [if_pos c5] at H
          have c5b0 : decide (0 ≤ x8_1) = true := decide_eq_true c5
          clear c5
          by_cases c6 : x8_1 < (l0.length : Int)
          · rw [if_pos c6] at H
            have c6b0 : decide (x8_1 < (l0.length : Int)) = true := decide_eq_true c6
            clear c6
            replace H := Option.bind_eq_some_iff.mp H
            obtain ⟨t161, A70, H⟩ := H
            replace H : (if t161 = true then (some x8_1) else (slices_IndexFunc__trans_Check_3.l0 k1 l0 (l0.length : Int) (wrap64 (x8_1 + 1)) a2_0 a2_1 a2_2 l2_3 l2_4 l2_5 l2_6)) = some r := H
            have A7 := Aside0.mk A70
            clear A70
            by_cases c8 : t161 = true
            · subst c8
              have H1 : (some x8_1) = some r := by rw [if_pos rfl] at H; exact H
              clear H
              have H := H1
              clear H1
              obtain rfl := Option.some.inj H
              have p160 : 0 ≤ (x8_1 : Int) := of_decide_eq_true (by first | (with_reducible assumption) | assumption)
              have q160 : x8_1 < (l0.length : Int) := of_decide_eq_true (by first | (with_reducible assumption) | assumption)
              obtain ⟨ad160, e160, hx160_0⟩ := Kd.at_int HR0.out x8_1 p160 q160
              cases e160
              replace hx160_0 := (HB.out.cell (World.block_lt_of_cell? w _ hx160_0)).trans hx160_0
              replace p160 := eq_true p160
              replace q160 := eq_true q160
              have hcz9_0 : wr.cell? ⟨g2, 0, none⟩ = some (.int .i64 a2_0) := (blk_cell BK900002.out 0).trans rfl
              have hcz9_1 : wr.cell? ⟨g2, 1, none⟩ = some (.int .i64 a2_1) := (blk_cell BK900002.out 1).trans rfl
              have hcz9_2 : wr.cell? ⟨g2, 2, none⟩ = some (.int .i64 a2_2) := (blk_cell BK900002.out 2).trans rfl
              have hcz9_3 : wr.cell? ⟨g2, 3, none⟩ = some (.slice A2_3 l2_3.length c2_3) := (blk_cell BK900002.out 3).trans rfl
              have hcz9_4 : wr.cell? ⟨g2, 4, none⟩ = some (.slice A2_4 l2_4.length c2_4) := (blk_cell BK900002.out 4).trans rfl
              have hcz9_5 : wr.cell? ⟨g2, 5, none⟩ = some (.slice A2_5 l2_5.length c2_5) := (blk_cell BK900002.out 5).trans rfl
              have hcz9_6 : wr.cell? ⟨g2, 6, none⟩ = some (.slice A2_6 l2_6.length c2_6) := (blk_cell BK900002.out 6).trans rfl
              have hfz9_0 := blk_frozen BK900002.out 0
              have hfz9_1 := blk_frozen BK900002.out 1
              have hfz9_2 := blk_frozen BK900002.out 2
              have hfz9_3 := blk_frozen BK900002.out 3
              have hfz9_4 := blk_frozen BK900002.out 4
              have hfz9_5 := blk_frozen BK900002.out 5
              have hfz9_6 := blk_frozen BK900002.out 6
              go_wp2_with (first | (go_at_call 118; (with_reducible refine (trans_Check_3.calls (rd l0 x8_1) g2 a2_0 a2_1 a2_2 A2_3 c2_3 l2_3 A2_4 c2_4 l2_4 A2_5 c2_5 l2_5 A2_6 c2_6 l2_6 true _ ?side1 ?side2 ?side3 ?side4 ?side5 ?side6 ?side7 ?side8 ?side9 A7.out).mono ?_); (case side1 => exact (by (with_reducible repeat (first | refine blk_drewN ?_ _ | refine blk_drew ?_ | refine blk_alloc ?_ _)); exact BK900002.out)); (case side2 => repeat (first | exact (Kd.C_below HR2_3.out HB.out) | (with_reducible refine Kd.C_alloc ?_ _) | (with_reducible refine Kd.C_drewN ?_ _) | (with_reducible refine Kd.C_drew ?_))); (case side3 => exact HC2_3.out); (case side4 => repeat (first | exact (Kd.C_below HR2_4.out HB.out) | (with_reducible refine Kd.C_alloc ?_ _) | (with_reducible refine Kd.C_drewN ?_ _) | (with_reducible refine Kd.C_drew ?_))); (case side5 => exact HC2_4.out); (case side6 => repeat (first | exact (Kd.C_below HR2_5.out HB.out) | (with_reducible refine Kd.C_alloc ?_ _) | (with_reducible refine Kd.C_drewN ?_ _) | (with_reducible refine Kd.C_drew ?_))); (case side7 => exact HC2_5.out); (case side8 => repeat (first | exact (Kd.C_below HR2_6.out HB.out) | (with_reducible refine Kd.C_alloc ?_ _) | (with_reducible refine Kd.C_drewN ?_ _) | (with_reducible refine Kd.C_drew ?_))); (case side9 => exact HC2_6.out); rintro e w' ⟨rfl, ⟨nd, rfl⟩⟩))
              go_ret
              exact ⟨by first | rfl | (simp [errW_none, errW_some] <;> rfl) | (simp [*, errW_none, errW_some] <;> rfl), by repeat (first | (with_reducible first | exact HB.out | apply below_alloc | apply pw_below_drewN | apply below_drew1 | refine below_set ?_ GE900002.out) | exact HB.out)⟩
            · replace c8 := Bool.eq_false_iff.mpr c8
              subst c8
              have H1 : (slices_IndexFunc__trans_Check_3.l0 k1 l0 (l0.length : Int) (wrap64 (x8_1 + 1)) a2_0 a2_1 a2_2 l2_3 l2_4 l2_5 l2_6) = some r := by rw [if_neg (show ¬ (false = true) by decide)] at H; exact H
              clear H
              have H := H1
              clear H1
              have H' := Aside0.mk H
              clear H
              have p160 : 0 ≤ (x8_1 : Int) := of_decide_eq_true (by first | (with_reducible assumption) | assumption)
              have q160 : x8_1 < (l0.length : Int) := of_decide_eq_true (by first | (with_reducible assumption) | assumption)
              obtain ⟨ad160, e160, hx160_0⟩ := Kd.at_int HR0.out x8_1 p160 q160
              cases e160
              replace hx160_0 := (HB.out.cell (World.block_lt_of_cell? w _ hx160_0)).trans hx160_0
              replace p160 := eq_true p160
              replace q160 := eq_true q160
              have hcz10_0 : wr.cell? ⟨g2, 0, none⟩ = some (.int .i64 a2_0) := (blk_cell BK900002.out 0).trans rfl
              have hcz10_1 : wr.cell? ⟨g2, 1, none⟩ = some (.int .i64 a2_1) := (blk_cell BK900002.out 1).trans rfl
              have hcz10_2 : wr.cell? ⟨g2, 2, none⟩ = some (.int .i64 a2_2) := (blk_cell BK900002.out 2).trans rfl
              have hcz10_3 : wr.cell? ⟨g2, 3, none⟩ = some (.slice A2_3 l2_3.length c2_3) := (blk_cell BK900002.out 3).trans rfl
              have hcz10_4 : wr.cell? ⟨g2, 4, none⟩ = some (.slice A2_4 l2_4.length c2_4) := (blk_cell BK900002.out 4).trans rfl
              have hcz10_5 : wr.cell? ⟨g2, 5, none⟩ = some (.slice A2_5 l2_5.length c2_5) := (blk_cell BK900002.out 5).trans rfl
              have hcz10_6 : wr.cell? ⟨g2, 6, none⟩ = some (.slice A2_6 l2_6.length c2_6) := (blk_cell BK900002.out 6).trans rfl
              have hfz10_0 := blk_frozen BK900002.out 0
              have hfz10_1 := blk_frozen BK900002.out 1
              have hfz10_2 := blk_frozen BK900002.out 2
              have hfz10_3 := blk_frozen BK900002.out 3
              have hfz10_4 := blk_frozen BK900002.out 4
              have hfz10_5 := blk_frozen BK900002.out 5
              have hfz10_6 := blk_frozen BK900002.out 6
              go_wp2_with (first | (go_at_call 118; (with_reducible refine (trans_Check_3.calls (rd l0 x8_1) g2 a2_0 a2_1 a2_2 A2_3 c2_3 l2_3 A2_4 c2_4 l2_4 A2_5 c2_5 l2_5 A2_6 c2_6 l2_6 false _ ?side1 ?side2 ?side3 ?side4 ?side5 ?side6 ?side7 ?side8 ?side9 A7.out).mono ?_); (case side1 => exact (by (with_reducible repeat (first | refine blk_drewN ?_ _ | refine blk_drew ?_ | refine blk_alloc ?_ _)); exact BK900002.out)); (case side2 => repeat (first | exact (Kd.C_below HR2_3.out HB.out) | (with_reducible refine Kd.C_alloc ?_ _) | (with_reducible refine Kd.C_drewN ?_ _) | (with_reducible refine Kd.C_drew ?_))); (case side3 => exact HC2_3.out); (case side4 => repeat (first | exact (Kd.C_below HR2_4.out HB.out) | (with_reducible refine Kd.C_alloc ?_ _) | (with_reducible refine Kd.C_drewN ?_ _) | (with_reducible refine Kd.C_drew ?_))); (case side5 => exact HC2_4.out); (case side6 => repeat (first | exact (Kd.C_below HR2_5.out HB.out) | (with_reducible refine Kd.C_alloc ?_ _) | (with_reducible refine Kd.C_drewN ?_ _) | (with_reducible refine Kd.C_drew ?_))); (case side7 => exact HC2_5.out); (case side8 => repeat (first | exact (Kd.C_below HR2_6.out HB.out) | (with_reducible refine Kd.C_alloc ?_ _) | (with_reducible refine Kd.C_drewN ?_ _) | (with_reducible refine Kd.C_drew ?_))); (case side9 => exact HC2_6.out); rintro e w' ⟨rfl, ⟨nd, rfl⟩⟩))
              go_roundg k1
              case measure => have := HK1.out; omega
              case rel => exact ⟨(wrap64 (x8_1 + 1)), (by first | rfl | (simp; done) | (simp [*]; done)), H', ⟨by have := HK1.out; omega⟩, ⟨by (with_reducible repeat (first | refine blk_drewN ?_ _ | refine blk_drew ?_ | refine blk_alloc ?_ _)); exact BK900002.out⟩, ⟨by repeat (first | (with_reducible first | exact HB.out | apply below_alloc | apply pw_below_drewN | apply below_drew1 | refine below_set ?_ GE900002.out) | exact HB.out)⟩⟩
          · rw [if_neg c6] at H
            exact absurd H (by simp)
        · rw [if_neg c5] at H
          exact absurd H (by simp)
      · rw [if_neg c4] at H
        have c4b0 : decide (x8_1 < (l0.length : Int)) = false := decide_eq_false c4
        clear c4
        obtain rfl := Option.some.inj H
        go_wp2
        go_ret
        exact ⟨by first | rfl | (simp [errW_none, errW_some] <;> rfl) | (simp [*, errW_none, errW_some] <;> rfl), by repeat (first | (with_reducible first | exact HB.out | apply below_alloc | apply pw_below_drewN | apply below_drew1 | refine below_set ?_ GE900002.out) | exact HB.out)⟩

/-! ### slices_ContainsFunc__trans_Check_3: function 226 -/
def slices_ContainsFunc__trans_Check_3.f (k : Nat) (l0 : List Int)  (a2_0 : Int) (a2_1 : Int) (a2_2 : Int) (l2_3 : List Int) (l2_4 : List (List Int)) (l2_5 : List (List (List Int))) (l2_6 : List (List Int)) : Option (Bool) := (slices_IndexFunc__trans_Check_3.f k l0 a2_0 a2_1 a2_2 l2_3 l2_4 l2_5 l2_6).bind fun t162 => (some (decide (t162 ≥ 0)))
theorem slices_ContainsFunc__trans_Check_3.mono : ∀ a0 a1 a2 a3 a4 a5 a6 a7 k, LeO (slices_ContainsFunc__trans_Check_3.f k a0 a1 a2 a3 a4 a5 a6 a7) (slices_ContainsFunc__trans_Check_3.f (k + 1) a0 a1 a2 a3 a4 a5 a6 a7) := by
  intro a0 a1 a2 a3 a4 a5 a6 a7 k
  unfold slices_ContainsFunc__trans_Check_3.f
  repeat' first
      | (with_reducible exact slices_IndexFunc__trans_Check_3.mono _ _ _ _ _ _ _ _ _)
      | (with_reducible exact LeO.refl _)
      | (with_reducible exact LeO.none _)
      | (with_reducible refine LeO.ite ?_ ?_)
      | (with_reducible refine LeO.bind ?_ (fun _ => ?_))
      | exact slices_IndexFunc__trans_Check_3.mono _ _ _ _ _ _ _ _ _
      | exact LeO.none _
      | refine LeO.ite ?_ ?_
      | refine LeO.bind ?_ (fun _ => ?_)
set_option maxHeartbeats 8000000 in
set_option maxRecDepth 100000 in
theorem slices_ContainsFunc__trans_Check_3.calls (k : Nat) (A0 : Option Addr) (c0 : Nat) (l0 : List Int)  (g2 : Nat) (a2_0 : Int) (a2_1 : Int) (a2_2 : Int) (A2_3 : Option Addr) (c2_3 : Nat) (l2_3 : List Int) (A2_4 : Option Addr) (c2_4 : Nat) (l2_4 : List (List Int)) (A2_5 : Option Addr) (c2_5 : Nat) (l2_5 : List (List (List Int))) (A2_6 : Option Addr) (c2_6 : Nat) (l2_6 : List (List Int)) (r : Bool) (w : World) (hr0 : Kd.C (Kd.int .i64) w A0 l0.length l0) (hc0 : l0.length ≤ c0) (hb2 : w.heap[g2]? = some (.cells #[.int .i64 a2_0, .int .i64 a2_1, .int .i64 a2_2, .slice A2_3 l2_3.length c2_3, .slice A2_4 l2_4.length c2_4, .slice A2_5 l2_5.length c2_5, .slice A2_6 l2_6.length c2_6] 94 (0, 0))) (hr2_3 : Kd.C (Kd.int .i64) w A2_3 l2_3.length l2_3) (hc2_3 : l2_3.length ≤ c2_3) (hr2_4 : Kd.C (Kd.slice 3 (Kd.int .i64)) w A2_4 l2_4.length l2_4) (hc2_4 : l2_4.length ≤ c2_4) (hr2_5 : Kd.C (Kd.slice 32 (Kd.slice 3 (Kd.int .i64))) w A2_5 l2_5.length l2_5) (hc2_5 : l2_5.length ≤ c2_5) (hr2_6 : Kd.C (Kd.slice 3 (Kd.int .i64)) w A2_6 l2_6.length l2_6) (hc2_6 : l2_6.length ≤ c2_6) (h : slices_ContainsFunc__trans_Check_3.f k l0 a2_0 a2_1 a2_2 l2_3 l2_4 l2_5 l2_6 = some r) :
    Calls Try.prog 115 #[.slice A0 l0.length c0, .func (.func 118) #[] #[.pointer (some ⟨g2, 0, none⟩)]] w fun e w' => e = .returned (.bool r) ∧ Below w.heap.size w w' := by
  have HR0 := Aside0.mk hr0
  have HC0 := Aside0.mk hc0
  clear hr0 hc0
  have HR2_3 := Aside0.mk hr2_3
  have HC2_3 := Aside0.mk hc2_3
  clear hr2_3 hc2_3
  have HR2_4 := Aside0.mk hr2_4
  have HC2_4 := Aside0.mk hc2_4
  clear hr2_4 hc2_4
  have HR2_5 := Aside0.mk hr2_5
  have HC2_5 := Aside0.mk hc2_5
  clear hr2_5 hc2_5
  have HR2_6 := Aside0.mk hr2_6
  have HC2_6 := Aside0.mk hc2_6
  clear hr2_6 hc2_6
  have BK900002 := Aside0.mk hb2
  clear hb2
  have HB := Aside0.mk (Below.refl w.heap.size w)
  have H : ((slices_IndexFunc__trans_Check_3.f k l0 a2_0 a2_1 a2_2 l2_3 l2_4 l2_5 l2_6).bind fun t162 => (some (decide (t162 ≥ 0)))) = some r := h
  clear h
  replace H := Option.bind_eq_some_iff.mp H
  obtain ⟨t162, A40, H⟩ := H
  replace H : (some (decide (t162 ≥ 0))) = some r := H
  have A4 := Aside0.mk A40
  clear A40
  obtain rfl := Option.some.inj H
  have hcz5_0 : w.cell? ⟨g2, 0, none⟩ = some (.int .i64 a2_0) := (blk_cell BK900002.out 0).trans rfl
  have hcz5_1 : w.cell? ⟨g2, 1, none⟩ = some (.int .i64 a2_1) := (blk_cell BK900002.out 1).trans rfl
  have hcz5_2 : w.cell? ⟨g2, 2, none⟩ = some (.int .i64 a2_2) := (blk_cell BK900002.out 2).trans rfl
  have hcz5_3 : w.cell? ⟨g2, 3, none⟩ = some (.slice A2_3 l2_3.length c2_3) := (blk_cell BK900002.out 3).trans rfl
  have hcz5_4 : w.cell? ⟨g2, 4, none⟩ = some (.slice A2_4 l2_4.length c2_4) := (blk_cell BK900002.out 4).trans rfl
  have hcz5_5 : w.cell? ⟨g2, 5, none⟩ = some (.slice A2_5 l2_5.length c2_5) := (blk_cell BK900002.out 5).trans rfl
  have hcz5_6 : w.cell? ⟨g2, 6, none⟩ = some (.slice A2_6 l2_6.length c2_6) := (blk_cell BK900002.out 6).trans rfl
  have hfz5_0 := blk_frozen BK900002.out 0
  have hfz5_1 := blk_frozen BK900002.out 1
  have hfz5_2 := blk_frozen BK900002.out 2
  have hfz5_3 := blk_frozen BK900002.out 3
  have hfz5_4 := blk_frozen BK900002.out 4
  have hfz5_5 := blk_frozen BK900002.out 5
  have hfz5_6 := blk_frozen BK900002.out 6
  go_enter Try.func115, Try.ntmps115
  go_wp2_with (first | ((with_reducible refine gate_callee (f := 159) rfl ?_); refine goesL_ (some 7) rfl rfl Try.func159 (by kernel_rfl) rfl #[.slice A0 l0.length c0, .func (.func 118) #[] #[.pointer (some ⟨g2, 0, none⟩)]] rfl (by (try simp only [List.map_toArray, List.map_cons, List.map_nil]); first | done | rfl | (simp only [List.length_drop, List.length_take]; rfl)) ?_; (with_reducible refine (slices_IndexFunc__trans_Check_3.calls k _ _ l0 g2 a2_0 a2_1 a2_2 A2_3 c2_3 l2_3 A2_4 c2_4 l2_4 A2_5 c2_5 l2_5 A2_6 c2_6 l2_6 t162 _ ?side1 ?side2 ?side3 ?side4 ?side5 ?side6 ?side7 ?side8 ?side9 ?side10 ?side11 A4.out).mono ?_); (case side1 => repeat (first | exact HR0.out | (with_reducible refine Kd.C_alloc ?_ _) | (with_reducible refine Kd.C_drewN ?_ _) | (with_reducible refine Kd.C_drew ?_))); (case side2 => exact HC0.out); (case side3 => exact (by (with_reducible repeat (first | refine blk_drewN ?_ _ | refine blk_drew ?_ | refine blk_alloc ?_ _)); exact BK900002.out)); (case side4 => repeat (first | exact HR2_3.out | (with_reducible refine Kd.C_alloc ?_ _) | (with_reducible refine Kd.C_drewN ?_ _) | (with_reducible refine Kd.C_drew ?_))); (case side5 => exact HC2_3.out); (case side6 => repeat (first | exact HR2_4.out | (with_reducible refine Kd.C_alloc ?_ _) | (with_reducible refine Kd.C_drewN ?_ _) | (with_reducible refine Kd.C_drew ?_))); (case side7 => exact HC2_4.out); (case side8 => repeat (first | exact HR2_5.out | (with_reducible refine Kd.C_alloc ?_ _) | (with_reducible refine Kd.C_drewN ?_ _) | (with_reducible refine Kd.C_drew ?_))); (case side9 => exact HC2_5.out); (case side10 => repeat (first | exact HR2_6.out | (with_reducible refine Kd.C_alloc ?_ _) | (with_reducible refine Kd.C_drewN ?_ _) | (with_reducible refine Kd.C_drew ?_))); (case side11 => exact HC2_6.out); rintro e w6 ⟨rfl, hb⟩; refine ⟨_, rfl, ?_⟩; have n0_ := Aside0.mk (blk_below (g := g2) (o := .cells #[.int .i64 a2_0, .int .i64 a2_1, .int .i64 a2_2, .slice A2_3 l2_3.length c2_3, .slice A2_4 l2_4.length c2_4, .slice A2_5 l2_5.length c2_5, .slice A2_6 l2_6.length c2_6] 94 (0, 0)) (by (with_reducible repeat (first | refine blk_drewN ?_ _ | refine blk_drew ?_ | refine blk_alloc ?_ _)); exact BK900002.out) hb); have n1_ := Aside0.mk (below_step (by repeat (first | (with_reducible first | exact HB.out | apply below_alloc | apply pw_below_drewN | apply below_drew1 | refine below_set ?_ GE900002.out) | exact HB.out)) hb); clear BK900002; clear HB; have BK900002 := n0_; have HB := n1_; clear n0_ n1_; (try clear hb); (try clear hb2); (try clear hk); (try clear hi)))
  go_ret
  exact ⟨by first | rfl | (simp [errW_none, errW_some] <;> rfl) | (simp [*, errW_none, errW_some] <;> rfl), by repeat (first | (with_reducible first | exact HB.out | apply below_alloc | apply pw_below_drewN | apply below_drew1 | refine below_set ?_ GE900002.out) | exact HB.out)⟩

end Go.Proofs.Ytklkcdphcmimoaa.PTransRuns
