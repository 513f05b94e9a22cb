-- Printed over the kit's print by a program of this session (wip/hprint.py), with contracts of its own hand.
import Derived.Test.YthbdmfhobienaaaPSynthSaysx0
import Derived.Test.YthbdmfhobienaaaPSynthSaysx1
namespace Go.Proofs.Ythbdmfhobienaaa.PSynthSays
open Go.RowKit Go.Proofs.YthbdmfhobienaaaW.PrintWords Go.Proofs.YthbdmfhobienaaaW.PrintLast Go.Proofs.YthbdmfhobienaaaW.PrintMore
attribute [local go_sem] max2_int min2_int max_two min_two max_three min_three max_four min_four   -- for this text's walks alone
set_option linter.unusedVariables false
set_option linter.unusedSimpArgs false
/-- one of two cells side by side, by its number -/
theorem dyn2_2 {w : World} {a : Addr} {v0 v1 : Int} {T : Int} (h0 : w.cell? a = some (.int .i64 v0)) (h1 : w.cell? ⟨a.block, a.off + 1, none⟩ = some (.int .i64 v1)) (hp : 0 ≤ T) (hq : T < 2) : w.cell? (a.add T.toNat) = some (.int .i64 (asel2 T v0 v1)) := by
 unfold Addr.add asel2
 by_cases h : T = 0
 ·rw [if_pos h, if_pos (show T.toNat = 0 by omega)]; exact h0
 ·rw [if_neg h, if_neg (show ¬ T.toNat = 0 by omega), show T.toNat = 1 by omega]; exact h1

/-! ### synth_Says: function 24 -/
mutual
def synth_Says.j0 : Nat → List Int → Bool → Bool → Int → List (S87) → List (S87) → Int → Option (List Int × Int)
 | 0, _, _, _, _, _, _, _ => none
 | k + 1, x1, x29, x145000, x145001, x145002, x145003, x146000 => if x29 = true then (some (([] : List Int), 1)) else (synth_Says.l0 k x1 x146000 0 x145000 x145001 x145002 x145003 x146000)
def synth_Says.l0 : Nat → List Int → Int → Int → Bool → Int → List (S87) → List (S87) → Int → Option (List Int × Int)
 | 0, _, _, _, _, _, _, _, _ => none
 | k + 1, x1, x31, x32, x145000, x145001, x145002, x145003, x146000 => if x32 < x31 then (if 0 ≤ x32 then (if x32 < (x145003.length : Int) then ((synth_Says_1.f ((rd_T87 x145003 x32).f0) x146000).bind fun t147 => (if t147 = true then (some (([] : List Int), 2)) else ((synth_Says_1.f ((rd_T87 x145003 x32).f1) x146000).bind fun t149 => (if t149 = true then (some (([] : List Int), 2)) else (if x32 < (x145002.length : Int) then ((synth_Says_2.f ((rd_T87 x145002 x32).f0)).bind fun t151 => (if t151 = true then (some (([] : List Int), 2)) else ((synth_Says_2.f ((rd_T87 x145002 x32).f1)).bind fun t153 => (if t153 = true then (some (([] : List Int), 2)) else (synth_Says.l0 k x1 x31 (wrap64 (x32 + 1)) x145000 x145001 x145002 x145003 x146000))))) else (none)))))) else (none)) else (none)) else ((synth_Says_1.f x145001 x146000).bind fun t154 => (if t154 = true then (some (([] : List Int), 2)) else (if x145000 = true then ((slices_ContainsFunc__synth_Says_3.f k x145002).bind fun t155 => (synth_Says.j2 k x1 t155 x145000 x145001 x145002 x145003)) else (synth_Says.j2 k x1 false x145000 x145001 x145002 x145003))))
def synth_Says.j2 : Nat → List Int → Bool → Bool → Int → List (S87) → List (S87) → Option (List Int × Int)
 | 0, _, _, _, _, _, _ => none
 | k + 1, x1, x84, x145000, x145001, x145002, x145003 => if x84 = true then (some (([] : List Int), 3)) else (if (x1.length : Int) > 60 then (some (([] : List Int), 1)) else ((slices_ContainsFunc__synth_Says_2.f k x1).bind fun t156 => (if t156 = true then (some (([] : List Int), 2)) else (synth_Says.l1 k ([] : List Int) x145001 x1 (x1.length : Int) 0 x145000 x145001 x145002 x145003))))
def synth_Says.l1 : Nat → List Int → Int → List Int → Int → Int → Bool → Int → List (S87) → List (S87) → Option (List Int × Int)
 | 0, _, _, _, _, _, _, _, _, _ => none
 | k + 1, x10, x11, x93, x94, x95, x145000, x145001, x145002, x145003 => if x95 < x94 then (if 0 ≤ x95 then (if x95 < (x93.length : Int) then (if 0 ≤ x11 then (if x11 < (x145002.length : Int) then (if 0 ≤ (rd x93 x95) then (if (rd x93 x95) < 2 then (if x10.length < 17592186044416 then (if x11 < (x145003.length : Int) then (synth_Says.l1 k (x10 ++ [(asel2 (rd x93 x95) ((rd_T87 x145002 x11).f0) ((rd_T87 x145002 x11).f1))]) (asel2 (rd x93 x95) ((rd_T87 x145003 x11).f0) ((rd_T87 x145003 x11).f1)) x93 x94 (wrap64 (x95 + 1)) x145000 x145001 x145002 x145003) else (none)) else (none)) else (none)) else (none)) else (none)) else (none)) else (none)) else (none)) else (some (x10, 0))
end
def synth_Says.f (k : Nat) (a0_0 : Bool) (a0_1 : Int) (l0_2 : List (S87)) (l0_3 : List (S87)) (l1 : List Int) : Option (List Int × Int) := if (l0_2.length : Int) < 1 then (synth_Says.j0 k l1 true a0_0 a0_1 l0_2 l0_3 (l0_2.length : Int)) else (if (l0_2.length : Int) > 20000 then (synth_Says.j0 k l1 true a0_0 a0_1 l0_2 l0_3 (l0_2.length : Int)) else (synth_Says.j0 k l1 ((l0_3.length : Int) != (l0_2.length : Int)) a0_0 a0_1 l0_2 l0_3 (l0_2.length : Int)))
theorem synth_Says.mono_l : ∀ k, (∀ y0 y1 y2 y3 y4 y5 y6, LeO (synth_Says.j0 k y0 y1 y2 y3 y4 y5 y6) (synth_Says.j0 (k + 1) y0 y1 y2 y3 y4 y5 y6)) ∧ (∀ y0 y1 y2 y3 y4 y5 y6 y7, LeO (synth_Says.l0 k y0 y1 y2 y3 y4 y5 y6 y7) (synth_Says.l0 (k + 1) y0 y1 y2 y3 y4 y5 y6 y7)) ∧ (∀ y0 y1 y2 y3 y4 y5, LeO (synth_Says.j2 k y0 y1 y2 y3 y4 y5) (synth_Says.j2 (k + 1) y0 y1 y2 y3 y4 y5)) ∧ (∀ y0 y1 y2 y3 y4 y5 y6 y7 y8, LeO (synth_Says.l1 k y0 y1 y2 y3 y4 y5 y6 y7 y8) (synth_Says.l1 (k + 1) y0 y1 y2 y3 y4 y5 y6 y7 y8))
 | 0 => ⟨fun _ _ _ _ _ _ _ r h => by simp [synth_Says.j0] at h, fun _ _ _ _ _ _ _ _ r h => by simp [synth_Says.l0] at h, fun _ _ _ _ _ _ r h => by simp [synth_Says.j2] at h, fun _ _ _ _ _ _ _ _ _ r h => by simp [synth_Says.l1] at h⟩
 | k + 1 => by
  obtain ⟨ih0, ih1, ih2, ih3⟩ := synth_Says.mono_l k
  refine ⟨?_, ?_, ?_, ?_⟩
  ·intro y0 y1 y2 y3 y4 y5 y6
   unfold synth_Says.j0
   repeat' first
   | (with_reducible exact ih0 _ _ _ _ _ _ _)
   | (with_reducible exact ih1 _ _ _ _ _ _ _ _)
   | (with_reducible exact ih2 _ _ _ _ _ _)
   | (with_reducible exact ih3 _ _ _ _ _ _ _ _ _)
   | (with_reducible exact slices_ContainsFunc__synth_Says_2.mono _ _)
   | (with_reducible exact slices_ContainsFunc__synth_Says_3.mono _ _)
   | (with_reducible exact LeO.refl _)
   | (with_reducible exact LeO.none _)
   | (with_reducible refine LeO.ite ?_ ?_)
   | (with_reducible refine LeO.bind ?_ (fun _ => ?_))
   | exact ih0 _ _ _ _ _ _ _
   | exact ih1 _ _ _ _ _ _ _ _
   | exact ih2 _ _ _ _ _ _
   | exact ih3 _ _ _ _ _ _ _ _ _
   | exact slices_ContainsFunc__synth_Says_2.mono _ _
   | exact slices_ContainsFunc__synth_Says_3.mono _ _
   | exact LeO.none _
   | refine LeO.ite ?_ ?_
   | refine LeO.bind ?_ (fun _ => ?_)
  ·intro y0 y1 y2 y3 y4 y5 y6 y7
   unfold synth_Says.l0
   repeat' first
   | (with_reducible exact ih0 _ _ _ _ _ _ _)
   | (with_reducible exact ih1 _ _ _ _ _ _ _ _)
   | (with_reducible exact ih2 _ _ _ _ _ _)
   | (with_reducible exact ih3 _ _ _ _ _ _ _ _ _)
   | (with_reducible exact slices_ContainsFunc__synth_Says_2.mono _ _)
   | (with_reducible exact slices_ContainsFunc__synth_Says_3.mono _ _)
   | (with_reducible exact LeO.refl _)
   | (with_reducible exact LeO.none _)
   | (with_reducible refine LeO.ite ?_ ?_)
   | (with_reducible refine LeO.bind ?_ (fun _ => ?_))
   | exact ih0 _ _ _ _ _ _ _
   | exact ih1 _ _ _ _ _ _ _ _
   | exact ih2 _ _ _ _ _ _
   | exact ih3 _ _ _ _ _ _ _ _ _
   | exact slices_ContainsFunc__synth_Says_2.mono _ _
   | exact slices_ContainsFunc__synth_Says_3.mono _ _
   | exact LeO.none _
   | refine LeO.ite ?_ ?_
   | refine LeO.bind ?_ (fun _ => ?_)
  ·intro y0 y1 y2 y3 y4 y5
   unfold synth_Says.j2
   repeat' first
   | (with_reducible exact ih0 _ _ _ _ _ _ _)
   | (with_reducible exact ih1 _ _ _ _ _ _ _ _)
   | (with_reducible exact ih2 _ _ _ _ _ _)
   | (with_reducible exact ih3 _ _ _ _ _ _ _ _ _)
   | (with_reducible exact slices_ContainsFunc__synth_Says_2.mono _ _)
   | (with_reducible exact slices_ContainsFunc__synth_Says_3.mono _ _)
   | (with_reducible exact LeO.refl _)
   | (with_reducible exact LeO.none _)
   | (with_reducible refine LeO.ite ?_ ?_)
   | (with_reducible refine LeO.bind ?_ (fun _ => ?_))
   | exact ih0 _ _ _ _ _ _ _
   | exact ih1 _ _ _ _ _ _ _ _
   | exact ih2 _ _ _ _ _ _
   | exact ih3 _ _ _ _ _ _ _ _ _
   | exact slices_ContainsFunc__synth_Says_2.mono _ _
   | exact slices_ContainsFunc__synth_Says_3.mono _ _
   | exact LeO.none _
   | refine LeO.ite ?_ ?_
   | refine LeO.bind ?_ (fun _ => ?_)
  ·intro y0 y1 y2 y3 y4 y5 y6 y7 y8
   unfold synth_Says.l1
   repeat' first
   | (with_reducible exact ih0 _ _ _ _ _ _ _)
   | (with_reducible exact ih1 _ _ _ _ _ _ _ _)
   | (with_reducible exact ih2 _ _ _ _ _ _)
   | (with_reducible exact ih3 _ _ _ _ _ _ _ _ _)
   | (with_reducible exact slices_ContainsFunc__synth_Says_2.mono _ _)
   | (with_reducible exact slices_ContainsFunc__synth_Says_3.mono _ _)
   | (with_reducible exact LeO.refl _)
   | (with_reducible exact LeO.none _)
   | (with_reducible refine LeO.ite ?_ ?_)
   | (with_reducible refine LeO.bind ?_ (fun _ => ?_))
   | exact ih0 _ _ _ _ _ _ _
   | exact ih1 _ _ _ _ _ _ _ _
   | exact ih2 _ _ _ _ _ _
   | exact ih3 _ _ _ _ _ _ _ _ _
   | exact slices_ContainsFunc__synth_Says_2.mono _ _
   | exact slices_ContainsFunc__synth_Says_3.mono _ _
   | exact LeO.none _
   | refine LeO.ite ?_ ?_
   | refine LeO.bind ?_ (fun _ => ?_)
theorem synth_Says.mono : ∀ a0 a1 a2 a3 a4 k, LeO (synth_Says.f k a0 a1 a2 a3 a4) (synth_Says.f (k + 1) a0 a1 a2 a3 a4) := by
 intro a0 a1 a2 a3 a4 k
 obtain ⟨ih0, ih1, ih2, ih3⟩ := synth_Says.mono_l k
 unfold synth_Says.f
 repeat' first
   | (with_reducible exact ih0 _ _ _ _ _ _ _)
   | (with_reducible exact ih1 _ _ _ _ _ _ _ _)
   | (with_reducible exact ih2 _ _ _ _ _ _)
   | (with_reducible exact ih3 _ _ _ _ _ _ _ _ _)
   | (with_reducible exact slices_ContainsFunc__synth_Says_2.mono _ _)
   | (with_reducible exact slices_ContainsFunc__synth_Says_3.mono _ _)
   | (with_reducible exact LeO.refl _)
   | (with_reducible exact LeO.none _)
   | (with_reducible refine LeO.ite ?_ ?_)
   | (with_reducible refine LeO.bind ?_ (fun _ => ?_))
   | exact ih0 _ _ _ _ _ _ _
   | exact ih1 _ _ _ _ _ _ _ _
   | exact ih2 _ _ _ _ _ _
   | exact ih3 _ _ _ _ _ _ _ _ _
   | exact slices_ContainsFunc__synth_Says_2.mono _ _
   | exact slices_ContainsFunc__synth_Says_3.mono _ _
   | exact LeO.none _
   | refine LeO.ite ?_ ?_
   | refine LeO.bind ?_ (fun _ => ?_)
set_option maxHeartbeats 8000000 in
set_option maxRecDepth 100000 in
theorem synth_Says.calls (k : Nat) (a0_0 : Bool) (a0_1 : Int) (A0_2 : Option Addr) (c0_2 : Nat) (l0_2 : List (S87)) (A0_3 : Option Addr) (c0_3 : Nat) (l0_3 : List (S87)) (A1 : Option Addr) (c1 : Nat) (l1 : List Int) (r1 : List Int) (r2 : Int) (w : World) (hr0_2 : Kd.C k87 w A0_2 l0_2.length l0_2) (hc0_2 : l0_2.length ≤ c0_2) (hr0_3 : Kd.C k87 w A0_3 l0_3.length l0_3) (hc0_3 : l0_3.length ≤ c0_3) (hr1 : Kd.C (Kd.int .i64) w A1 l1.length l1) (hc1 : l1.length ≤ c1) (h : synth_Says.f k a0_0 a0_1 l0_2 l0_3 l1 = some (r1, r2)) :
  Calls Try.prog 24 #[.agg #[.bool a0_0, .int .i64 a0_1, .slice A0_2 l0_2.length c0_2, .slice A0_3 l0_3.length c0_3], .slice A1 l1.length c1] w fun e w' => ∃ v0_ : Value, e = .returned (.tuple #[v0_, .int .i64 r2]) ∧ Kd.R (Kd.int .i64) 3 w' w.heap.size (fun _ => True) v0_ r1 ∧ Below w.heap.size w w' := by
 have hu42 := Try.underlying42
 have HR0_2 := Aside0.mk hr0_2
 have HC0_2 := Aside0.mk hc0_2
 clear hr0_2 hc0_2
 have HR0_3 := Aside0.mk hr0_3
 have HC0_3 := Aside0.mk hc0_3
 clear hr0_3 hc0_3
 have HR1 := Aside0.mk hr1
 have HC1 := Aside0.mk hc1
 clear hr1 hc1
 have HB := Aside0.mk (Below.refl w.heap.size w)
 have H : (if (l0_2.length : Int) < 1 then (synth_Says.j0 k l1 true a0_0 a0_1 l0_2 l0_3 (l0_2.length : Int)) else (if (l0_2.length : Int) > 20000 then (synth_Says.j0 k l1 true a0_0 a0_1 l0_2 l0_3 (l0_2.length : Int)) else (synth_Says.j0 k l1 ((l0_3.length : Int) != (l0_2.length : Int)) a0_0 a0_1 l0_2 l0_3 (l0_2.length : Int)))) = some (r1, r2) := h
 clear h
 have HC3 := Aside0.mk H
 clear H
 go_enter Try.func24, Try.ntmps24
 go_upto_region 2 with (first | ((with_reducible refine gate_dst (N := 2) rfl ?_); (try (refine gate_guard (by rfl) ?_; dsimp only)); refine box_event ?hg (N := 2) ?hd (cs := #[.bool a0_0, .int .i64 a0_1, .slice A0_2 l0_2.length c0_2, .slice A0_3 l0_3.length c0_3]) (t := 42) ?hr ?_; (case hd => rfl); (case hg => rfl); (case hr => first | (go_simp; done) | (go_simp; rfl)); intro gb144 hg w4 hbox hb; have n0_ := Aside0.mk (below_step (by repeat (first | (with_reducible first | exact HB.out | apply below_alloc | apply pw_below_drewN | apply below_drew1) | exact HB.out)) hb); have n1_ := Aside0.mk (hbox); have n2_ := Aside0.mk ((by rw [hg]; exact (below_size (by repeat (first | (with_reducible first | exact HB.out | apply below_alloc | apply pw_below_drewN | apply below_drew1) | exact HB.out))) : w.heap.size ≤ gb144)); have n3_ := Aside0.mk ((by rw [hg]; exact (below_size (by repeat (first | (with_reducible first | exact HB.out | apply below_alloc | apply pw_below_drewN | apply below_drew1) | exact HB.out))) : w.heap.size ≤ gb144)); clear HB; have HB := n0_; have BK144 := n1_; have GW144 := n2_; have GE144 := n3_; clear n0_ n1_ n2_ n3_; clear hb hbox hg; have hcz5_0 : w4.cell? ⟨gb144, 0, none⟩ = some (.bool a0_0) := (blk_cell BK144.out 0).trans rfl; have hcz5_1 : w4.cell? ⟨gb144, 1, none⟩ = some (.int .i64 a0_1) := (blk_cell BK144.out 1).trans rfl; have hcz5_2 : w4.cell? ⟨gb144, 2, none⟩ = some (.slice A0_2 l0_2.length c0_2) := (blk_cell BK144.out 2).trans rfl; have hcz5_3 : w4.cell? ⟨gb144, 3, none⟩ = some (.slice A0_3 l0_3.length c0_3) := (blk_cell BK144.out 3).trans rfl; have hfz5_0 := blk_frozen BK144.out 0; have hfz5_1 := blk_frozen BK144.out 1; have hfz5_2 := blk_frozen BK144.out 2; have hfz5_3 := blk_frozen BK144.out 3) | ((with_reducible refine gate_dst (N := 6) rfl ?_); (try (refine gate_guard (by rfl) ?_; dsimp only)); refine box_event ?hg (N := 6) ?hd (cs := #[.int .i64 0]) (t := 3) ?hr ?_; (case hd => rfl); (case hg => rfl); (case hr => first | (go_simp; done) | (go_simp; rfl)); intro gb145 hg w6 hbox hb; have n0_ := Aside0.mk (blk_below (g := gb144) (o := .cells #[.bool a0_0, .int .i64 a0_1, .slice A0_2 l0_2.length c0_2, .slice A0_3 l0_3.length c0_3] 42 (0, 0)) (by (with_reducible repeat (first | refine blk_drewN ?_ _ | refine blk_drew ?_ | refine blk_alloc ?_ _)); exact BK144.out) hb); have n1_ := Aside0.mk (below_step (by repeat (first | (with_reducible first | exact HB.out | apply below_alloc | apply pw_below_drewN | apply below_drew1 | refine below_set ?_ GE144.out) | exact HB.out)) hb); have n2_ := Aside0.mk (hbox); have n3_ := Aside0.mk ((by rw [hg]; exact (below_size (by repeat (first | (with_reducible first | exact HB.out | apply below_alloc | apply pw_below_drewN | apply below_drew1 | refine below_set ?_ GE144.out) | exact HB.out))) : w.heap.size ≤ gb145)); have n4_ := Aside0.mk ((by rw [hg]; exact (below_size (by repeat (first | (with_reducible first | exact HB.out | apply below_alloc | apply pw_below_drewN | apply below_drew1 | refine below_set ?_ GE144.out) | exact HB.out))) : w.heap.size ≤ gb145)); have n5_ := Aside0.mk ((by rw [hg]; exact Nat.ne_of_lt (blk_lt (g := gb144) (o := .cells #[.bool a0_0, .int .i64 a0_1, .slice A0_2 l0_2.length c0_2, .slice A0_3 l0_3.length c0_3] 42 (0, 0)) (by (with_reducible repeat (first | refine blk_drewN ?_ _ | refine blk_drew ?_ | refine blk_alloc ?_ _)); exact BK144.out)) : gb144 ≠ gb145)); have n6_ := Aside0.mk ((by rw [hg]; exact Nat.ne_of_gt (blk_lt (g := gb144) (o := .cells #[.bool a0_0, .int .i64 a0_1, .slice A0_2 l0_2.length c0_2, .slice A0_3 l0_3.length c0_3] 42 (0, 0)) (by (with_reducible repeat (first | refine blk_drewN ?_ _ | refine blk_drew ?_ | refine blk_alloc ?_ _)); exact BK144.out)) : gb145 ≠ gb144)); clear BK144; clear HB; have BK144 := n0_; have HB := n1_; have BK145 := n2_; have GW145 := n3_; have GE145 := n4_; have NB144_145 := n5_; have NB145_144 := n6_; clear n0_ n1_ n2_ n3_ n4_ n5_ n6_; clear hb hbox hg; have hnb7 := NB145_144.out; have hnc7 := NB144_145.out; have hcz8_0 : w6.cell? ⟨gb145, 0, none⟩ = some (.int .i64 0) := (blk_cell BK145.out 0).trans rfl; have hfz8_0 := blk_frozen BK145.out 0))
 (try simp only [Act.put, List.setIfInBounds_toArray, List.set_cons_zero, List.set_cons_succ])
 go_cut [29] (fun v29 wc => ∃ (kq : Nat) (x29_2 : Bool), v29 = .bool x29_2 ∧ Aside0 (synth_Says.j0 kq l1 x29_2 a0_0 a0_1 l0_2 l0_3 (l0_2.length : Int) = some (r1, r2)) ∧ Aside0 (kq ≤ k) ∧ Aside0 (wc.heap[gb144]? = some (.cells #[.bool a0_0, .int .i64 a0_1, (.slice A0_2 l0_2.length c0_2), (.slice A0_3 l0_3.length c0_3)] 42 (0, 0))) ∧ Aside0 (wc.heap[gb145]? = some (.cells #[.int .i64 (l0_2.length : Int)] 3 (0, 0))) ∧ Aside0 (Below w.heap.size w wc))
 case first =>
  have H := HC3.out
  clear HC3
  by_cases c9 : (l0_2.length : Int) < 1
  ·rw [if_pos c9] at H
   have c9b0 : decide ((l0_2.length : Int) < 1) = true := decide_eq_true c9
   have c9b1 : decide (l0_2.length < 1) = true := decide_eq_true (by omega)
   clear c9
   (first | rw [c9b0] | (simp only [i64_w, i32_w]; rw [c9b0]) | skip)
   have H' := Aside0.mk H
   clear H
   have hnb10 := NB145_144.out
   have hnc10 := NB144_145.out
   have hcz11_0 : w6.cell? ⟨gb145, 0, none⟩ = some (.int .i64 0) := (blk_cell BK145.out 0).trans rfl
   have hfz11_0 := blk_frozen BK145.out 0
   go_wp2
   go_meet
   case rel => exact ⟨_, (true), (by first | rfl | (simp; done) | (simp [*]; done)), H', ⟨by first | omega | exact Nat.le_refl _⟩, ⟨by (with_reducible repeat (first | refine blk_drewN ?_ _ | refine blk_drew ?_ | refine blk_alloc ?_ _)); refine blk_far ?_ NB144_145.out _; (with_reducible repeat (first | refine blk_drewN ?_ _ | refine blk_drew ?_ | refine blk_alloc ?_ _)); exact BK144.out⟩, ⟨by (with_reducible repeat (first | refine blk_drewN ?_ _ | refine blk_drew ?_ | refine blk_alloc ?_ _)); refine blk_put (cs := #[.int .i64 0]) ?_ 0 _ rfl; (with_reducible repeat (first | refine blk_drewN ?_ _ | refine blk_drew ?_ | refine blk_alloc ?_ _)); exact BK145.out⟩, ⟨by repeat (first | (with_reducible first | exact HB.out | apply below_alloc | apply pw_below_drewN | apply below_drew1 | refine below_set ?_ GE144.out | refine below_set ?_ GE145.out) | exact HB.out)⟩⟩
  ·rw [if_neg c9] at H
   have c9b0 : decide ((l0_2.length : Int) < 1) = false := decide_eq_false c9
   have c9b1 : decide (l0_2.length < 1) = false := decide_eq_false (by omega)
   clear c9
   (first | rw [c9b0] | (simp only [i64_w, i32_w]; rw [c9b0]) | skip)
   by_cases c12 : (l0_2.length : Int) > 20000
   ·rw [if_pos c12] at H
    have c12b0 : decide (20000 < (l0_2.length : Int)) = true := decide_eq_true c12
    have c12b1 : decide (20000 < l0_2.length) = true := decide_eq_true (by omega)
    clear c12
    have H' := Aside0.mk H
    clear H
    have hnb13 := NB145_144.out
    have hnc13 := NB144_145.out
    have hcz14_0 : w6.cell? ⟨gb145, 0, none⟩ = some (.int .i64 0) := (blk_cell BK145.out 0).trans rfl
    have hfz14_0 := blk_frozen BK145.out 0
    go_wp2
    go_meet
    case rel => exact ⟨_, (true), (by first | rfl | (simp; done) | (simp [*]; done)), H', ⟨by first | omega | exact Nat.le_refl _⟩, ⟨by (with_reducible repeat (first | refine blk_drewN ?_ _ | refine blk_drew ?_ | refine blk_alloc ?_ _)); refine blk_far ?_ NB144_145.out _; (with_reducible repeat (first | refine blk_drewN ?_ _ | refine blk_drew ?_ | refine blk_alloc ?_ _)); exact BK144.out⟩, ⟨by (with_reducible repeat (first | refine blk_drewN ?_ _ | refine blk_drew ?_ | refine blk_alloc ?_ _)); refine blk_put (cs := #[.int .i64 0]) ?_ 0 _ rfl; (with_reducible repeat (first | refine blk_drewN ?_ _ | refine blk_drew ?_ | refine blk_alloc ?_ _)); exact BK145.out⟩, ⟨by repeat (first | (with_reducible first | exact HB.out | apply below_alloc | apply pw_below_drewN | apply below_drew1 | refine below_set ?_ GE144.out | refine below_set ?_ GE145.out) | exact HB.out)⟩⟩
   ·rw [if_neg c12] at H
    have c12b0 : decide (20000 < (l0_2.length : Int)) = false := decide_eq_false c12
    have c12b1 : decide (20000 < l0_2.length) = false := decide_eq_false (by omega)
    clear c12
    have H' := Aside0.mk H
    clear H
    have hnb15 := NB145_144.out
    have hnc15 := NB144_145.out
    have hcz16_0 : w6.cell? ⟨gb145, 0, none⟩ = some (.int .i64 0) := (blk_cell BK145.out 0).trans rfl
    have hfz16_0 := blk_frozen BK145.out 0
    have hcz17_0 : w6.cell? ⟨gb144, 0, none⟩ = some (.bool a0_0) := (blk_cell BK144.out 0).trans rfl
    have hcz17_1 : w6.cell? ⟨gb144, 1, none⟩ = some (.int .i64 a0_1) := (blk_cell BK144.out 1).trans rfl
    have hcz17_2 : w6.cell? ⟨gb144, 2, none⟩ = some (.slice A0_2 l0_2.length c0_2) := (blk_cell BK144.out 2).trans rfl
    have hcz17_3 : w6.cell? ⟨gb144, 3, none⟩ = some (.slice A0_3 l0_3.length c0_3) := (blk_cell BK144.out 3).trans rfl
    have hfz17_0 := blk_frozen BK144.out 0
    have hfz17_1 := blk_frozen BK144.out 1
    have hfz17_2 := blk_frozen BK144.out 2
    have hfz17_3 := blk_frozen BK144.out 3
    go_wp2
    go_meet
    case rel => exact ⟨_, (((l0_3.length : Int) != (l0_2.length : Int))), (by first | rfl | (simp; done) | (simp [*]; done)), H', ⟨by first | omega | exact Nat.le_refl _⟩, ⟨by (with_reducible repeat (first | refine blk_drewN ?_ _ | refine blk_drew ?_ | refine blk_alloc ?_ _)); refine blk_far ?_ NB144_145.out _; (with_reducible repeat (first | refine blk_drewN ?_ _ | refine blk_drew ?_ | refine blk_alloc ?_ _)); exact BK144.out⟩, ⟨by (with_reducible repeat (first | refine blk_drewN ?_ _ | refine blk_drew ?_ | refine blk_alloc ?_ _)); refine blk_put (cs := #[.int .i64 0]) ?_ 0 _ rfl; (with_reducible repeat (first | refine blk_drewN ?_ _ | refine blk_drew ?_ | refine blk_alloc ?_ _)); exact BK145.out⟩, ⟨by repeat (first | (with_reducible first | exact HB.out | apply below_alloc | apply pw_below_drewN | apply below_drew1 | refine below_set ?_ GE144.out | refine below_set ?_ GE145.out) | exact HB.out)⟩⟩
 case rest =>
  clear HC3
  try clear c1
  try clear c2
  try clear p2
  try clear c7
  try clear c9
  try clear c9b0
  try clear c9b1
  try clear c10
  try clear c12
  try clear c12b0
  try clear c12b1
  try clear c13
  try clear c15
  try clear hcz11_0
  try clear hcz14_0
  try clear hcz16_0
  try clear hcz17_0
  try clear hcz17_1
  try clear hcz17_2
  try clear hcz17_3
  try clear hcz5_0
  try clear hcz5_1
  try clear hcz5_2
  try clear hcz5_3
  try clear hcz8_0
  try clear hfz11_0
  try clear hfz14_0
  try clear hfz16_0
  try clear hfz17_0
  try clear hfz17_1
  try clear hfz17_2
  try clear hfz17_3
  try clear hfz5_0
  try clear hfz5_1
  try clear hfz5_2
  try clear hfz5_3
  try clear hfz8_0
  obtain ⟨kq, x29_2, rfl, HA, HJ2, BK144, BK145, HB⟩ := hcut
  cases kq with
  | zero => exact absurd HA.out (by simp [synth_Says.j0])
  | succ kj2 =>
   have H := HA.out
   clear HA
   simp only [synth_Says.j0] at H
   by_cases c18 : x29_2 = true
   ·subst c18
    have H1 : (some (([] : List Int), 1)) = some (r1, r2) := by rw [if_pos rfl] at H; exact H
    clear H
    have H := H1
    clear H1
    simp only [Option.some.injEq, Prod.mk.injEq] at H
    obtain ⟨rfl, rfl⟩ := H
    go_wp2
    go_ret2
    exact ⟨_, by first | rfl | (simp [errW_none, errW_some] <;> rfl) | (simp [*, errW_none, errW_some] <;> rfl), by first | exact Kd.R_nil _ _ _ _ _ | exact Kd.N_nil _ _ _ _ _ | exact Kd.V_nil _ _ _ _ _ | exact Kd.Q_nil _ _ _ _ _ | exact Kd.S_nil _ _ _ _ _, by repeat (first | (with_reducible first | exact HB.out | apply below_alloc | apply pw_below_drewN | apply below_drew1 | refine below_set ?_ GE144.out | refine below_set ?_ GE145.out) | exact HB.out)⟩
   ·replace c18 := Bool.eq_false_iff.mpr c18
    subst c18
    have H1 : (synth_Says.l0 kj2 l1 (l0_2.length : Int) 0 a0_0 a0_1 l0_2 l0_3 (l0_2.length : Int)) = some (r1, r2) := by rw [if_neg (show ¬ (false = true) by decide)] at H; exact H
    clear H
    have H := H1
    clear H1
    have H' := Aside0.mk H
    clear H
    have hnb19 := NB145_144.out
    have hnc19 := NB144_145.out
    have hcz20_0 : wc.cell? ⟨gb145, 0, none⟩ = some (.int .i64 (l0_2.length : Int)) := (blk_cell BK145.out 0).trans rfl
    have hfz20_0 := blk_frozen BK145.out 0
    go_wp2
    go_loopg [32] kj2 (fun kq v32 w' => ∃ (x32_2 : Int), v32 = .int .i64 x32_2 ∧ Aside0 (synth_Says.l0 kq l1 (l0_2.length : Int) x32_2 a0_0 a0_1 l0_2 l0_3 (l0_2.length : Int) = some (r1, r2)) ∧ Aside0 (kq ≤ kj2) ∧ Aside0 (w'.heap[gb144]? = some (.cells #[.bool a0_0, .int .i64 a0_1, (.slice A0_2 l0_2.length c0_2), (.slice A0_3 l0_3.length c0_3)] 42 (0, 0))) ∧ Aside0 (w'.heap[gb145]? = some (.cells #[.int .i64 (l0_2.length : Int)] 3 (0, 0))) ∧ Aside0 (Below w.heap.size w w'))
    case atStart => exact ⟨(0), (by first | rfl | (simp; done) | (simp [*]; done)), H', ⟨Nat.le_refl _⟩, ⟨by (with_reducible repeat (first | refine blk_drewN ?_ _ | refine blk_drew ?_ | refine blk_alloc ?_ _)); exact BK144.out⟩, ⟨by (with_reducible repeat (first | refine blk_drewN ?_ _ | refine blk_drew ?_ | refine blk_alloc ?_ _)); exact BK145.out⟩, ⟨by repeat (first | (with_reducible first | exact HB.out | apply below_alloc | apply pw_below_drewN | apply below_drew1 | refine below_set ?_ GE144.out | refine below_set ?_ GE145.out) | exact HB.out)⟩⟩
    case round =>
     clear H'
     try clear c1
     try clear c2
     try clear p2
     try clear c7
     try clear c9
     try clear c9b0
     try clear c9b1
     try clear c10
     try clear c12
     try clear c12b0
     try clear c12b1
     try clear c13
     try clear c15
     try clear c18
     try clear c19
     try clear hcz11_0
     try clear hcz14_0
     try clear hcz16_0
     try clear hcz17_0
     try clear hcz17_1
     try clear hcz17_2
     try clear hcz17_3
     try clear hcz20_0
     try clear hcz5_0
     try clear hcz5_1
     try clear hcz5_2
     try clear hcz5_3
     try clear hcz8_0
     try clear hfz11_0
     try clear hfz14_0
     try clear hfz16_0
     try clear hfz17_0
     try clear hfz17_1
     try clear hfz17_2
     try clear hfz17_3
     try clear hfz20_0
     try clear hfz5_0
     try clear hfz5_1
     try clear hfz5_2
     try clear hfz5_3
     try clear hfz8_0
     try clear p2
     obtain ⟨x32_2, rfl, HA, HK2, BK144, BK145, HB⟩ := hrel
     cases gk with
     | zero => exact absurd HA.out (by simp [synth_Says.l0])
     | succ k2 =>
      have H := HA.out
      clear HA
      simp only [synth_Says.l0] at H
      by_cases c21 : x32_2 < (l0_2.length : Int)
      ·(
 rw [if_pos c21] at H
 have c21b0 : decide (x32_2 < (l0_2.length : Int)) = true := decide_eq_true c21
 clear c21
 by_cases c22 : 0 ≤ x32_2
 ·rw [if_pos c22] at H
  have c22b0 : decide (0 ≤ x32_2) = true := decide_eq_true c22
  clear c22
  by_cases c23 : x32_2 < (l0_3.length : Int)
  ·rw [if_pos c23] at H
   have c23b0 : decide (x32_2 < (l0_3.length : Int)) = true := decide_eq_true c23
   clear c23
   replace H := Option.bind_eq_some_iff.mp H
   obtain ⟨t147, A240, H⟩ := H
   replace H : (if t147 = true then (some (([] : List Int), 2)) else ((synth_Says_1.f ((rd_T87 l0_3 x32_2).f1) (l0_2.length : Int)).bind fun t149 => (if t149 = true then (some (([] : List Int), 2)) else (if x32_2 < (l0_2.length : Int) then ((synth_Says_2.f ((rd_T87 l0_2 x32_2).f0)).bind fun t151 => (if t151 = true then (some (([] : List Int), 2)) else ((synth_Says_2.f ((rd_T87 l0_2 x32_2).f1)).bind fun t153 => (if t153 = true then (some (([] : List Int), 2)) else (synth_Says.l0 k2 l1 (l0_2.length : Int) (wrap64 (x32_2 + 1)) a0_0 a0_1 l0_2 l0_3 (l0_2.length : Int)))))) else (none))))) = some (r1, r2) := H
   have A24 := Aside0.mk A240
   clear A240
   by_cases c25 : t147 = true
   ·subst c25
    have H1 : (some (([] : List Int), 2)) = some (r1, r2) := by rw [if_pos rfl] at H; exact H
    clear H
    have H := H1
    clear H1
    simp only [Option.some.injEq, Prod.mk.injEq] at H
    obtain ⟨rfl, rfl⟩ := H
    have hnb26 := NB144_145.out
    have hnc26 := NB145_144.out
    have hcz27_0 : wr.cell? ⟨gb144, 0, none⟩ = some (.bool a0_0) := (blk_cell BK144.out 0).trans rfl
    have hcz27_1 : wr.cell? ⟨gb144, 1, none⟩ = some (.int .i64 a0_1) := (blk_cell BK144.out 1).trans rfl
    have hcz27_2 : wr.cell? ⟨gb144, 2, none⟩ = some (.slice A0_2 l0_2.length c0_2) := (blk_cell BK144.out 2).trans rfl
    have hcz27_3 : wr.cell? ⟨gb144, 3, none⟩ = some (.slice A0_3 l0_3.length c0_3) := (blk_cell BK144.out 3).trans rfl
    have hfz27_0 := blk_frozen BK144.out 0
    have hfz27_1 := blk_frozen BK144.out 1
    have hfz27_2 := blk_frozen BK144.out 2
    have hfz27_3 := blk_frozen BK144.out 3
    have p146 : 0 ≤ (x32_2 : Int) := of_decide_eq_true (by first | (with_reducible assumption) | assumption)
    have q146 : x32_2 < (l0_3.length : Int) := of_decide_eq_true (by first | (with_reducible assumption) | assumption)
    obtain ⟨ad146, e146, hx146_0, hx146_1⟩ := at_T87 HR0_3.out x32_2 p146 q146
    cases e146
    replace hx146_0 := (HB.out.cell (World.block_lt_of_cell? w _ hx146_0)).trans hx146_0
    replace hx146_1 := (HB.out.cell (World.block_lt_of_cell? w _ hx146_1)).trans hx146_1
    replace p146 := eq_true p146
    replace q146 := eq_true q146
    have hcz28_0 : wr.cell? ⟨gb145, 0, none⟩ = some (.int .i64 (l0_2.length : Int)) := (blk_cell BK145.out 0).trans rfl
    have hfz28_0 := blk_frozen BK145.out 0
    go_wp2_with (first | (go_at_call 54; (with_reducible refine (synth_Says_1.calls ((rd_T87 l0_3 x32_2).f0) gb145 (l0_2.length : Int) true _ ?side1 A24.out).mono ?_); (case side1 => exact (by (with_reducible repeat (first | refine blk_drewN ?_ _ | refine blk_drew ?_ | refine blk_alloc ?_ _)); exact BK145.out)); rintro e w' ⟨rfl, ⟨nd, rfl⟩⟩))
    go_ret2
    exact ⟨_, by first | rfl | (simp [errW_none, errW_some] <;> rfl) | (simp [*, errW_none, errW_some] <;> rfl), by first | exact Kd.R_nil _ _ _ _ _ | exact Kd.N_nil _ _ _ _ _ | exact Kd.V_nil _ _ _ _ _ | exact Kd.Q_nil _ _ _ _ _ | exact Kd.S_nil _ _ _ _ _, by repeat (first | (with_reducible first | exact HB.out | apply below_alloc | apply pw_below_drewN | apply below_drew1 | refine below_set ?_ GE144.out | refine below_set ?_ GE145.out) | exact HB.out)⟩
   ·replace c25 := Bool.eq_false_iff.mpr c25
    subst c25
    have H1 : ((synth_Says_1.f ((rd_T87 l0_3 x32_2).f1) (l0_2.length : Int)).bind fun t149 => (if t149 = true then (some (([] : List Int), 2)) else (if x32_2 < (l0_2.length : Int) then ((synth_Says_2.f ((rd_T87 l0_2 x32_2).f0)).bind fun t151 => (if t151 = true then (some (([] : List Int), 2)) else ((synth_Says_2.f ((rd_T87 l0_2 x32_2).f1)).bind fun t153 => (if t153 = true then (some (([] : List Int), 2)) else (synth_Says.l0 k2 l1 (l0_2.length : Int) (wrap64 (x32_2 + 1)) a0_0 a0_1 l0_2 l0_3 (l0_2.length : Int)))))) else (none)))) = some (r1, r2) := by rw [if_neg (show ¬ (false = true) by decide)] at H; exact H
    clear H
    have H := H1
    clear H1
    replace H := Option.bind_eq_some_iff.mp H
    obtain ⟨t149, A290, H⟩ := H
    replace H : (if t149 = true then (some (([] : List Int), 2)) else (if x32_2 < (l0_2.length : Int) then ((synth_Says_2.f ((rd_T87 l0_2 x32_2).f0)).bind fun t151 => (if t151 = true then (some (([] : List Int), 2)) else ((synth_Says_2.f ((rd_T87 l0_2 x32_2).f1)).bind fun t153 => (if t153 = true then (some (([] : List Int), 2)) else (synth_Says.l0 k2 l1 (l0_2.length : Int) (wrap64 (x32_2 + 1)) a0_0 a0_1 l0_2 l0_3 (l0_2.length : Int)))))) else (none))) = some (r1, r2) := H
    have A29 := Aside0.mk A290
    clear A290
    by_cases c30 : t149 = true
    ·(
 subst c30
 have H1 : (some (([] : List Int), 2)) = some (r1, r2) := by rw [if_pos rfl] at H; exact H
 clear H
 have H := H1
 clear H1
 simp only [Option.some.injEq, Prod.mk.injEq] at H
 obtain ⟨rfl, rfl⟩ := H
 have hnb31 := NB144_145.out
 have hnc31 := NB145_144.out
 have hcz32_0 : wr.cell? ⟨gb144, 0, none⟩ = some (.bool a0_0) := (blk_cell BK144.out 0).trans rfl
 have hcz32_1 : wr.cell? ⟨gb144, 1, none⟩ = some (.int .i64 a0_1) := (blk_cell BK144.out 1).trans rfl
 have hcz32_2 : wr.cell? ⟨gb144, 2, none⟩ = some (.slice A0_2 l0_2.length c0_2) := (blk_cell BK144.out 2).trans rfl
 have hcz32_3 : wr.cell? ⟨gb144, 3, none⟩ = some (.slice A0_3 l0_3.length c0_3) := (blk_cell BK144.out 3).trans rfl
 have hfz32_0 := blk_frozen BK144.out 0
 have hfz32_1 := blk_frozen BK144.out 1
 have hfz32_2 := blk_frozen BK144.out 2
 have hfz32_3 := blk_frozen BK144.out 3
 have p146 : 0 ≤ (x32_2 : Int) := of_decide_eq_true (by first | (with_reducible assumption) | assumption)
 have q146 : x32_2 < (l0_3.length : Int) := of_decide_eq_true (by first | (with_reducible assumption) | assumption)
 obtain ⟨ad146, e146, hx146_0, hx146_1⟩ := at_T87 HR0_3.out x32_2 p146 q146
 cases e146
 replace hx146_0 := (HB.out.cell (World.block_lt_of_cell? w _ hx146_0)).trans hx146_0
 replace hx146_1 := (HB.out.cell (World.block_lt_of_cell? w _ hx146_1)).trans hx146_1
 replace p146 := eq_true p146
 replace q146 := eq_true q146
 have hcz33_0 : wr.cell? ⟨gb145, 0, none⟩ = some (.int .i64 (l0_2.length : Int)) := (blk_cell BK145.out 0).trans rfl
 have hfz33_0 := blk_frozen BK145.out 0
 go_wp2_with (first | (go_at_call 54; (with_reducible refine (synth_Says_1.calls ((rd_T87 l0_3 x32_2).f0) gb145 (l0_2.length : Int) false _ ?side1 A24.out).mono ?_); (case side1 => exact (by (with_reducible repeat (first | refine blk_drewN ?_ _ | refine blk_drew ?_ | refine blk_alloc ?_ _)); exact BK145.out)); rintro e w' ⟨rfl, ⟨nd, rfl⟩⟩; have p148 : 0 ≤ (x32_2 : Int) := of_decide_eq_true (by first | (with_reducible assumption) | assumption); have q148 : x32_2 < (l0_3.length : Int) := of_decide_eq_true (by first | (with_reducible assumption) | assumption); obtain ⟨ad148, e148, hx148_0, hx148_1⟩ := at_T87 HR0_3.out x32_2 p148 q148; obtain rfl : ad146 = ad148 := (by injection e148); replace hx148_0 := (HB.out.cell (World.block_lt_of_cell? w _ hx148_0)).trans hx148_0; replace hx148_1 := (HB.out.cell (World.block_lt_of_cell? w _ hx148_1)).trans hx148_1; replace p148 := eq_true p148; replace q148 := eq_true q148) | (go_at_call 54; (with_reducible refine (synth_Says_1.calls ((rd_T87 l0_3 x32_2).f1) gb145 (l0_2.length : Int) true _ ?side1 A29.out).mono ?_); (case side1 => exact (by (with_reducible repeat (first | refine blk_drewN ?_ _ | refine blk_drew ?_ | refine blk_alloc ?_ _)); exact BK145.out)); rintro e w' ⟨rfl, ⟨nd, rfl⟩⟩))
 go_ret2
 exact ⟨_, by first | rfl | (simp [errW_none, errW_some] <;> rfl) | (simp [*, errW_none, errW_some] <;> rfl), by first | exact Kd.R_nil _ _ _ _ _ | exact Kd.N_nil _ _ _ _ _ | exact Kd.V_nil _ _ _ _ _ | exact Kd.Q_nil _ _ _ _ _ | exact Kd.S_nil _ _ _ _ _, by repeat (first | (with_reducible first | exact HB.out | apply below_alloc | apply pw_below_drewN | apply below_drew1 | refine below_set ?_ GE144.out | refine below_set ?_ GE145.out) | exact HB.out)⟩)
    ·(
 replace c30 := Bool.eq_false_iff.mpr c30
 subst c30
 have H1 : (if x32_2 < (l0_2.length : Int) then ((synth_Says_2.f ((rd_T87 l0_2 x32_2).f0)).bind fun t151 => (if t151 = true then (some (([] : List Int), 2)) else ((synth_Says_2.f ((rd_T87 l0_2 x32_2).f1)).bind fun t153 => (if t153 = true then (some (([] : List Int), 2)) else (synth_Says.l0 k2 l1 (l0_2.length : Int) (wrap64 (x32_2 + 1)) a0_0 a0_1 l0_2 l0_3 (l0_2.length : Int)))))) else (none)) = some (r1, r2) := by rw [if_neg (show ¬ (false = true) by decide)] at H; exact H
 clear H
 have H := H1
 clear H1
 by_cases c34 : x32_2 < (l0_2.length : Int)
 ·rw [if_pos c34] at H
  have c34b0 : decide (x32_2 < (l0_2.length : Int)) = true := decide_eq_true c34
  clear c34
  replace H := Option.bind_eq_some_iff.mp H
  obtain ⟨t151, A350, H⟩ := H
  replace H : (if t151 = true then (some (([] : List Int), 2)) else ((synth_Says_2.f ((rd_T87 l0_2 x32_2).f1)).bind fun t153 => (if t153 = true then (some (([] : List Int), 2)) else (synth_Says.l0 k2 l1 (l0_2.length : Int) (wrap64 (x32_2 + 1)) a0_0 a0_1 l0_2 l0_3 (l0_2.length : Int))))) = some (r1, r2) := H
  have A35 := Aside0.mk A350
  clear A350
  by_cases c36 : t151 = true
  ·subst c36
   have H1 : (some (([] : List Int), 2)) = some (r1, r2) := by rw [if_pos rfl] at H; exact H
   clear H
   have H := H1
   clear H1
   simp only [Option.some.injEq, Prod.mk.injEq] at H
   obtain ⟨rfl, rfl⟩ := H
   have hnb37 := NB144_145.out
   have hnc37 := NB145_144.out
   have hcz38_0 : wr.cell? ⟨gb144, 0, none⟩ = some (.bool a0_0) := (blk_cell BK144.out 0).trans rfl
   have hcz38_1 : wr.cell? ⟨gb144, 1, none⟩ = some (.int .i64 a0_1) := (blk_cell BK144.out 1).trans rfl
   have hcz38_2 : wr.cell? ⟨gb144, 2, none⟩ = some (.slice A0_2 l0_2.length c0_2) := (blk_cell BK144.out 2).trans rfl
   have hcz38_3 : wr.cell? ⟨gb144, 3, none⟩ = some (.slice A0_3 l0_3.length c0_3) := (blk_cell BK144.out 3).trans rfl
   have hfz38_0 := blk_frozen BK144.out 0
   have hfz38_1 := blk_frozen BK144.out 1
   have hfz38_2 := blk_frozen BK144.out 2
   have hfz38_3 := blk_frozen BK144.out 3
   have p146 : 0 ≤ (x32_2 : Int) := of_decide_eq_true (by first | (with_reducible assumption) | assumption)
   have q146 : x32_2 < (l0_3.length : Int) := of_decide_eq_true (by first | (with_reducible assumption) | assumption)
   obtain ⟨ad146, e146, hx146_0, hx146_1⟩ := at_T87 HR0_3.out x32_2 p146 q146
   cases e146
   replace hx146_0 := (HB.out.cell (World.block_lt_of_cell? w _ hx146_0)).trans hx146_0
   replace hx146_1 := (HB.out.cell (World.block_lt_of_cell? w _ hx146_1)).trans hx146_1
   replace p146 := eq_true p146
   replace q146 := eq_true q146
   have hcz39_0 : wr.cell? ⟨gb145, 0, none⟩ = some (.int .i64 (l0_2.length : Int)) := (blk_cell BK145.out 0).trans rfl
   have hfz39_0 := blk_frozen BK145.out 0
   go_wp2_with (first | (go_at_call 54; (with_reducible refine (synth_Says_1.calls ((rd_T87 l0_3 x32_2).f0) gb145 (l0_2.length : Int) false _ ?side1 A24.out).mono ?_); (case side1 => exact (by (with_reducible repeat (first | refine blk_drewN ?_ _ | refine blk_drew ?_ | refine blk_alloc ?_ _)); exact BK145.out)); rintro e w' ⟨rfl, ⟨nd, rfl⟩⟩; have p148 : 0 ≤ (x32_2 : Int) := of_decide_eq_true (by first | (with_reducible assumption) | assumption); have q148 : x32_2 < (l0_3.length : Int) := of_decide_eq_true (by first | (with_reducible assumption) | assumption); obtain ⟨ad148, e148, hx148_0, hx148_1⟩ := at_T87 HR0_3.out x32_2 p148 q148; obtain rfl : ad146 = ad148 := (by injection e148); replace hx148_0 := (HB.out.cell (World.block_lt_of_cell? w _ hx148_0)).trans hx148_0; replace hx148_1 := (HB.out.cell (World.block_lt_of_cell? w _ hx148_1)).trans hx148_1; replace p148 := eq_true p148; replace q148 := eq_true q148) | (go_at_call 54; (with_reducible refine (synth_Says_1.calls ((rd_T87 l0_3 x32_2).f1) gb145 (l0_2.length : Int) false _ ?side1 A29.out).mono ?_); (case side1 => exact (by (with_reducible repeat (first | refine blk_drewN ?_ _ | refine blk_drew ?_ | refine blk_alloc ?_ _)); exact BK145.out)); rintro e w' ⟨rfl, ⟨nd, rfl⟩⟩; have p150 : 0 ≤ (x32_2 : Int) := of_decide_eq_true (by first | (with_reducible assumption) | assumption); have q150 : x32_2 < (l0_2.length : Int) := of_decide_eq_true (by first | (with_reducible assumption) | assumption); obtain ⟨ad150, e150, hx150_0, hx150_1⟩ := at_T87 HR0_2.out x32_2 p150 q150; cases e150; replace hx150_0 := (HB.out.cell (World.block_lt_of_cell? w _ hx150_0)).trans hx150_0; replace hx150_1 := (HB.out.cell (World.block_lt_of_cell? w _ hx150_1)).trans hx150_1; replace p150 := eq_true p150; replace q150 := eq_true q150) | (go_at_call 55; (with_reducible refine (synth_Says_2.calls ((rd_T87 l0_2 x32_2).f0) true _ A35.out).mono ?_); rintro e w' ⟨rfl, ⟨nd, rfl⟩⟩))
   go_ret2
   exact ⟨_, by first | rfl | (simp [errW_none, errW_some] <;> rfl) | (simp [*, errW_none, errW_some] <;> rfl), by first | exact Kd.R_nil _ _ _ _ _ | exact Kd.N_nil _ _ _ _ _ | exact Kd.V_nil _ _ _ _ _ | exact Kd.Q_nil _ _ _ _ _ | exact Kd.S_nil _ _ _ _ _, by repeat (first | (with_reducible first | exact HB.out | apply below_alloc | apply pw_below_drewN | apply below_drew1 | refine below_set ?_ GE144.out | refine below_set ?_ GE145.out) | exact HB.out)⟩
  ·replace c36 := Bool.eq_false_iff.mpr c36
   subst c36
   have H1 : ((synth_Says_2.f ((rd_T87 l0_2 x32_2).f1)).bind fun t153 => (if t153 = true then (some (([] : List Int), 2)) else (synth_Says.l0 k2 l1 (l0_2.length : Int) (wrap64 (x32_2 + 1)) a0_0 a0_1 l0_2 l0_3 (l0_2.length : Int)))) = some (r1, r2) := by rw [if_neg (show ¬ (false = true) by decide)] at H; exact H
   clear H
   have H := H1
   clear H1
   replace H := Option.bind_eq_some_iff.mp H
   obtain ⟨t153, A400, H⟩ := H
   replace H : (if t153 = true then (some (([] : List Int), 2)) else (synth_Says.l0 k2 l1 (l0_2.length : Int) (wrap64 (x32_2 + 1)) a0_0 a0_1 l0_2 l0_3 (l0_2.length : Int))) = some (r1, r2) := H
   have A40 := Aside0.mk A400
   clear A400
   by_cases c41 : t153 = true
   ·subst c41
    have H1 : (some (([] : List Int), 2)) = some (r1, r2) := by rw [if_pos rfl] at H; exact H
    clear H
    have H := H1
    clear H1
    simp only [Option.some.injEq, Prod.mk.injEq] at H
    obtain ⟨rfl, rfl⟩ := H
    have hnb42 := NB144_145.out
    have hnc42 := NB145_144.out
    have hcz43_0 : wr.cell? ⟨gb144, 0, none⟩ = some (.bool a0_0) := (blk_cell BK144.out 0).trans rfl
    have hcz43_1 : wr.cell? ⟨gb144, 1, none⟩ = some (.int .i64 a0_1) := (blk_cell BK144.out 1).trans rfl
    have hcz43_2 : wr.cell? ⟨gb144, 2, none⟩ = some (.slice A0_2 l0_2.length c0_2) := (blk_cell BK144.out 2).trans rfl
    have hcz43_3 : wr.cell? ⟨gb144, 3, none⟩ = some (.slice A0_3 l0_3.length c0_3) := (blk_cell BK144.out 3).trans rfl
    have hfz43_0 := blk_frozen BK144.out 0
    have hfz43_1 := blk_frozen BK144.out 1
    have hfz43_2 := blk_frozen BK144.out 2
    have hfz43_3 := blk_frozen BK144.out 3
    have p146 : 0 ≤ (x32_2 : Int) := of_decide_eq_true (by first | (with_reducible assumption) | assumption)
    have q146 : x32_2 < (l0_3.length : Int) := of_decide_eq_true (by first | (with_reducible assumption) | assumption)
    obtain ⟨ad146, e146, hx146_0, hx146_1⟩ := at_T87 HR0_3.out x32_2 p146 q146
    cases e146
    replace hx146_0 := (HB.out.cell (World.block_lt_of_cell? w _ hx146_0)).trans hx146_0
    replace hx146_1 := (HB.out.cell (World.block_lt_of_cell? w _ hx146_1)).trans hx146_1
    replace p146 := eq_true p146
    replace q146 := eq_true q146
    have hcz44_0 : wr.cell? ⟨gb145, 0, none⟩ = some (.int .i64 (l0_2.length : Int)) := (blk_cell BK145.out 0).trans rfl
    have hfz44_0 := blk_frozen BK145.out 0
    go_wp2_with (first | (go_at_call 54; (with_reducible refine (synth_Says_1.calls ((rd_T87 l0_3 x32_2).f0) gb145 (l0_2.length : Int) false _ ?side1 A24.out).mono ?_); (case side1 => exact (by (with_reducible repeat (first | refine blk_drewN ?_ _ | refine blk_drew ?_ | refine blk_alloc ?_ _)); exact BK145.out)); rintro e w' ⟨rfl, ⟨nd, rfl⟩⟩; have p148 : 0 ≤ (x32_2 : Int) := of_decide_eq_true (by first | (with_reducible assumption) | assumption); have q148 : x32_2 < (l0_3.length : Int) := of_decide_eq_true (by first | (with_reducible assumption) | assumption); obtain ⟨ad148, e148, hx148_0, hx148_1⟩ := at_T87 HR0_3.out x32_2 p148 q148; obtain rfl : ad146 = ad148 := (by injection e148); replace hx148_0 := (HB.out.cell (World.block_lt_of_cell? w _ hx148_0)).trans hx148_0; replace hx148_1 := (HB.out.cell (World.block_lt_of_cell? w _ hx148_1)).trans hx148_1; replace p148 := eq_true p148; replace q148 := eq_true q148) | (go_at_call 54; (with_reducible refine (synth_Says_1.calls ((rd_T87 l0_3 x32_2).f1) gb145 (l0_2.length : Int) false _ ?side1 A29.out).mono ?_); (case side1 => exact (by (with_reducible repeat (first | refine blk_drewN ?_ _ | refine blk_drew ?_ | refine blk_alloc ?_ _)); exact BK145.out)); rintro e w' ⟨rfl, ⟨nd, rfl⟩⟩; have p150 : 0 ≤ (x32_2 : Int) := of_decide_eq_true (by first | (with_reducible assumption) | assumption); have q150 : x32_2 < (l0_2.length : Int) := of_decide_eq_true (by first | (with_reducible assumption) | assumption); obtain ⟨ad150, e150, hx150_0, hx150_1⟩ := at_T87 HR0_2.out x32_2 p150 q150; cases e150; replace hx150_0 := (HB.out.cell (World.block_lt_of_cell? w _ hx150_0)).trans hx150_0; replace hx150_1 := (HB.out.cell (World.block_lt_of_cell? w _ hx150_1)).trans hx150_1; replace p150 := eq_true p150; replace q150 := eq_true q150) | (go_at_call 55; (with_reducible refine (synth_Says_2.calls ((rd_T87 l0_2 x32_2).f0) false _ A35.out).mono ?_); rintro e w' ⟨rfl, ⟨nd, rfl⟩⟩; have p152 : 0 ≤ (x32_2 : Int) := of_decide_eq_true (by first | (with_reducible assumption) | assumption); have q152 : x32_2 < (l0_2.length : Int) := of_decide_eq_true (by first | (with_reducible assumption) | assumption); obtain ⟨ad152, e152, hx152_0, hx152_1⟩ := at_T87 HR0_2.out x32_2 p152 q152; obtain rfl : ad150 = ad152 := (by injection e152); replace hx152_0 := (HB.out.cell (World.block_lt_of_cell? w _ hx152_0)).trans hx152_0; replace hx152_1 := (HB.out.cell (World.block_lt_of_cell? w _ hx152_1)).trans hx152_1; replace p152 := eq_true p152; replace q152 := eq_true q152) | (go_at_call 55; (with_reducible refine (synth_Says_2.calls ((rd_T87 l0_2 x32_2).f1) true _ A40.out).mono ?_); rintro e w' ⟨rfl, ⟨nd, rfl⟩⟩))
    go_ret2
    exact ⟨_, by first | rfl | (simp [errW_none, errW_some] <;> rfl) | (simp [*, errW_none, errW_some] <;> rfl), by first | exact Kd.R_nil _ _ _ _ _ | exact Kd.N_nil _ _ _ _ _ | exact Kd.V_nil _ _ _ _ _ | exact Kd.Q_nil _ _ _ _ _ | exact Kd.S_nil _ _ _ _ _, by repeat (first | (with_reducible first | exact HB.out | apply below_alloc | apply pw_below_drewN | apply below_drew1 | refine below_set ?_ GE144.out | refine below_set ?_ GE145.out) | exact HB.out)⟩
   ·replace c41 := Bool.eq_false_iff.mpr c41
    subst c41
    have H1 : (synth_Says.l0 k2 l1 (l0_2.length : Int) (wrap64 (x32_2 + 1)) a0_0 a0_1 l0_2 l0_3 (l0_2.length : Int)) = some (r1, r2) := by rw [if_neg (show ¬ (false = true) by decide)] at H; exact H
    clear H
    have H := H1
    clear H1
    have H' := Aside0.mk H
    clear H
    have hnb45 := NB144_145.out
    have hnc45 := NB145_144.out
    have hcz46_0 : wr.cell? ⟨gb144, 0, none⟩ = some (.bool a0_0) := (blk_cell BK144.out 0).trans rfl
    have hcz46_1 : wr.cell? ⟨gb144, 1, none⟩ = some (.int .i64 a0_1) := (blk_cell BK144.out 1).trans rfl
    have hcz46_2 : wr.cell? ⟨gb144, 2, none⟩ = some (.slice A0_2 l0_2.length c0_2) := (blk_cell BK144.out 2).trans rfl
    have hcz46_3 : wr.cell? ⟨gb144, 3, none⟩ = some (.slice A0_3 l0_3.length c0_3) := (blk_cell BK144.out 3).trans rfl
    have hfz46_0 := blk_frozen BK144.out 0
    have hfz46_1 := blk_frozen BK144.out 1
    have hfz46_2 := blk_frozen BK144.out 2
    have hfz46_3 := blk_frozen BK144.out 3
    have p146 : 0 ≤ (x32_2 : Int) := of_decide_eq_true (by first | (with_reducible assumption) | assumption)
    have q146 : x32_2 < (l0_3.length : Int) := of_decide_eq_true (by first | (with_reducible assumption) | assumption)
    obtain ⟨ad146, e146, hx146_0, hx146_1⟩ := at_T87 HR0_3.out x32_2 p146 q146
    cases e146
    replace hx146_0 := (HB.out.cell (World.block_lt_of_cell? w _ hx146_0)).trans hx146_0
    replace hx146_1 := (HB.out.cell (World.block_lt_of_cell? w _ hx146_1)).trans hx146_1
    replace p146 := eq_true p146
    replace q146 := eq_true q146
    have hcz47_0 : wr.cell? ⟨gb145, 0, none⟩ = some (.int .i64 (l0_2.length : Int)) := (blk_cell BK145.out 0).trans rfl
    have hfz47_0 := blk_frozen BK145.out 0
    go_wp2_with (first | (go_at_call 54; (with_reducible refine (synth_Says_1.calls ((rd_T87 l0_3 x32_2).f0) gb145 (l0_2.length : Int) false _ ?side1 A24.out).mono ?_); (case side1 => exact (by (with_reducible repeat (first | refine blk_drewN ?_ _ | refine blk_drew ?_ | refine blk_alloc ?_ _)); exact BK145.out)); rintro e w' ⟨rfl, ⟨nd, rfl⟩⟩; have p148 : 0 ≤ (x32_2 : Int) := of_decide_eq_true (by first | (with_reducible assumption) | assumption); have q148 : x32_2 < (l0_3.length : Int) := of_decide_eq_true (by first | (with_reducible assumption) | assumption); obtain ⟨ad148, e148, hx148_0, hx148_1⟩ := at_T87 HR0_3.out x32_2 p148 q148; obtain rfl : ad146 = ad148 := (by injection e148); replace hx148_0 := (HB.out.cell (World.block_lt_of_cell? w _ hx148_0)).trans hx148_0; replace hx148_1 := (HB.out.cell (World.block_lt_of_cell? w _ hx148_1)).trans hx148_1; replace p148 := eq_true p148; replace q148 := eq_true q148) | (go_at_call 54; (with_reducible refine (synth_Says_1.calls ((rd_T87 l0_3 x32_2).f1) gb145 (l0_2.length : Int) false _ ?side1 A29.out).mono ?_); (case side1 => exact (by (with_reducible repeat (first | refine blk_drewN ?_ _ | refine blk_drew ?_ | refine blk_alloc ?_ _)); exact BK145.out)); rintro e w' ⟨rfl, ⟨nd, rfl⟩⟩; have p150 : 0 ≤ (x32_2 : Int) := of_decide_eq_true (by first | (with_reducible assumption) | assumption); have q150 : x32_2 < (l0_2.length : Int) := of_decide_eq_true (by first | (with_reducible assumption) | assumption); obtain ⟨ad150, e150, hx150_0, hx150_1⟩ := at_T87 HR0_2.out x32_2 p150 q150; cases e150; replace hx150_0 := (HB.out.cell (World.block_lt_of_cell? w _ hx150_0)).trans hx150_0; replace hx150_1 := (HB.out.cell (World.block_lt_of_cell? w _ hx150_1)).trans hx150_1; replace p150 := eq_true p150; replace q150 := eq_true q150) | (go_at_call 55; (with_reducible refine (synth_Says_2.calls ((rd_T87 l0_2 x32_2).f0) false _ A35.out).mono ?_); rintro e w' ⟨rfl, ⟨nd, rfl⟩⟩; have p152 : 0 ≤ (x32_2 : Int) := of_decide_eq_true (by first | (with_reducible assumption) | assumption); have q152 : x32_2 < (l0_2.length : Int) := of_decide_eq_true (by first | (with_reducible assumption) | assumption); obtain ⟨ad152, e152, hx152_0, hx152_1⟩ := at_T87 HR0_2.out x32_2 p152 q152; obtain rfl : ad150 = ad152 := (by injection e152); replace hx152_0 := (HB.out.cell (World.block_lt_of_cell? w _ hx152_0)).trans hx152_0; replace hx152_1 := (HB.out.cell (World.block_lt_of_cell? w _ hx152_1)).trans hx152_1; replace p152 := eq_true p152; replace q152 := eq_true q152) | (go_at_call 55; (with_reducible refine (synth_Says_2.calls ((rd_T87 l0_2 x32_2).f1) false _ A40.out).mono ?_); rintro e w' ⟨rfl, ⟨nd, rfl⟩⟩))
    go_roundg k2
    case measure => have := HJ2.out; have := HK2.out; omega
    case rel => exact ⟨(wrap64 (x32_2 + 1)), (by first | rfl | (simp; done) | (simp [*]; done)), H', ⟨by have := HJ2.out; have := HK2.out; omega⟩, ⟨by (with_reducible repeat (first | refine blk_drewN ?_ _ | refine blk_drew ?_ | refine blk_alloc ?_ _)); exact BK144.out⟩, ⟨by (with_reducible repeat (first | refine blk_drewN ?_ _ | refine blk_drew ?_ | refine blk_alloc ?_ _)); exact BK145.out⟩, ⟨by repeat (first | (with_reducible first | exact HB.out | apply below_alloc | apply pw_below_drewN | apply below_drew1 | refine below_set ?_ GE144.out | refine below_set ?_ GE145.out) | exact HB.out)⟩⟩
 ·rw [if_neg c34] at H
  exact absurd H (by simp))
  ·rw [if_neg c23] at H
   exact absurd H (by simp)
 ·rw [if_neg c22] at H
  exact absurd H (by simp))
      ·(
 rw [if_neg c21] at H
 have c21b0 : decide (x32_2 < (l0_2.length : Int)) = false := decide_eq_false c21
 clear c21
 replace H := Option.bind_eq_some_iff.mp H
 obtain ⟨t154, A480, H⟩ := H
 replace H : (if t154 = true then (some (([] : List Int), 2)) else (if a0_0 = true then ((slices_ContainsFunc__synth_Says_3.f k2 l0_2).bind fun t155 => (synth_Says.j2 k2 l1 t155 a0_0 a0_1 l0_2 l0_3)) else (synth_Says.j2 k2 l1 false a0_0 a0_1 l0_2 l0_3))) = some (r1, r2) := H
 have A48 := Aside0.mk A480
 clear A480
 by_cases c49 : t154 = true
 ·subst c49
  have H1 : (some (([] : List Int), 2)) = some (r1, r2) := by rw [if_pos rfl] at H; exact H
  clear H
  have H := H1
  clear H1
  simp only [Option.some.injEq, Prod.mk.injEq] at H
  obtain ⟨rfl, rfl⟩ := H
  have hnb50 := NB144_145.out
  have hnc50 := NB145_144.out
  have hcz51_0 : wr.cell? ⟨gb144, 0, none⟩ = some (.bool a0_0) := (blk_cell BK144.out 0).trans rfl
  have hcz51_1 : wr.cell? ⟨gb144, 1, none⟩ = some (.int .i64 a0_1) := (blk_cell BK144.out 1).trans rfl
  have hcz51_2 : wr.cell? ⟨gb144, 2, none⟩ = some (.slice A0_2 l0_2.length c0_2) := (blk_cell BK144.out 2).trans rfl
  have hcz51_3 : wr.cell? ⟨gb144, 3, none⟩ = some (.slice A0_3 l0_3.length c0_3) := (blk_cell BK144.out 3).trans rfl
  have hfz51_0 := blk_frozen BK144.out 0
  have hfz51_1 := blk_frozen BK144.out 1
  have hfz51_2 := blk_frozen BK144.out 2
  have hfz51_3 := blk_frozen BK144.out 3
  have hcz52_0 : wr.cell? ⟨gb145, 0, none⟩ = some (.int .i64 (l0_2.length : Int)) := (blk_cell BK145.out 0).trans rfl
  have hfz52_0 := blk_frozen BK145.out 0
  go_wp2_with (first | (go_at_call 54; (with_reducible refine (synth_Says_1.calls a0_1 gb145 (l0_2.length : Int) true _ ?side1 A48.out).mono ?_); (case side1 => exact (by (with_reducible repeat (first | refine blk_drewN ?_ _ | refine blk_drew ?_ | refine blk_alloc ?_ _)); exact BK145.out)); rintro e w' ⟨rfl, ⟨nd, rfl⟩⟩))
  go_ret2
  exact ⟨_, by first | rfl | (simp [errW_none, errW_some] <;> rfl) | (simp [*, errW_none, errW_some] <;> rfl), by first | exact Kd.R_nil _ _ _ _ _ | exact Kd.N_nil _ _ _ _ _ | exact Kd.V_nil _ _ _ _ _ | exact Kd.Q_nil _ _ _ _ _ | exact Kd.S_nil _ _ _ _ _, by repeat (first | (with_reducible first | exact HB.out | apply below_alloc | apply pw_below_drewN | apply below_drew1 | refine below_set ?_ GE144.out | refine below_set ?_ GE145.out) | exact HB.out)⟩
 ·replace c49 := Bool.eq_false_iff.mpr c49
  subst c49
  have H1 : (if a0_0 = true then ((slices_ContainsFunc__synth_Says_3.f k2 l0_2).bind fun t155 => (synth_Says.j2 k2 l1 t155 a0_0 a0_1 l0_2 l0_3)) else (synth_Says.j2 k2 l1 false a0_0 a0_1 l0_2 l0_3)) = some (r1, r2) := by rw [if_neg (show ¬ (false = true) by decide)] at H; exact H
  clear H
  have H := H1
  clear H1
  have HC53 := Aside0.mk H
  clear H
  have hnb54 := NB144_145.out
  have hnc54 := NB145_144.out
  have hcz55_0 : wr.cell? ⟨gb144, 0, none⟩ = some (.bool a0_0) := (blk_cell BK144.out 0).trans rfl
  have hcz55_1 : wr.cell? ⟨gb144, 1, none⟩ = some (.int .i64 a0_1) := (blk_cell BK144.out 1).trans rfl
  have hcz55_2 : wr.cell? ⟨gb144, 2, none⟩ = some (.slice A0_2 l0_2.length c0_2) := (blk_cell BK144.out 2).trans rfl
  have hcz55_3 : wr.cell? ⟨gb144, 3, none⟩ = some (.slice A0_3 l0_3.length c0_3) := (blk_cell BK144.out 3).trans rfl
  have hfz55_0 := blk_frozen BK144.out 0
  have hfz55_1 := blk_frozen BK144.out 1
  have hfz55_2 := blk_frozen BK144.out 2
  have hfz55_3 := blk_frozen BK144.out 3
  have hcz56_0 : wr.cell? ⟨gb145, 0, none⟩ = some (.int .i64 (l0_2.length : Int)) := (blk_cell BK145.out 0).trans rfl
  have hfz56_0 := blk_frozen BK145.out 0
  go_upto_region 14 with (first | (go_at_call 54; (with_reducible refine (synth_Says_1.calls a0_1 gb145 (l0_2.length : Int) false _ ?side1 A48.out).mono ?_); (case side1 => exact (by (with_reducible repeat (first | refine blk_drewN ?_ _ | refine blk_drew ?_ | refine blk_alloc ?_ _)); exact BK145.out)); rintro e w' ⟨rfl, ⟨nd, rfl⟩⟩))
  (try simp only [Act.put, List.setIfInBounds_toArray, List.set_cons_zero, List.set_cons_succ])
  go_cut [84] (fun v84 wc => ∃ (kq : Nat) (x84_52 : Bool), v84 = .bool x84_52 ∧ Aside0 (synth_Says.j2 kq l1 x84_52 a0_0 a0_1 l0_2 l0_3 = some (r1, r2)) ∧ Aside0 (kq ≤ k2) ∧ Aside0 (wc.heap[gb144]? = some (.cells #[.bool a0_0, .int .i64 a0_1, (.slice A0_2 l0_2.length c0_2), (.slice A0_3 l0_3.length c0_3)] 42 (0, 0))) ∧ Aside0 (wc.heap[gb145]? = some (.cells #[.int .i64 (l0_2.length : Int)] 3 (0, 0))) ∧ Aside0 (Below w.heap.size w wc))
  case first =>
   have H := HC53.out
   clear HC53
   by_cases c57 : a0_0 = true
   ·subst c57
    have H1 : ((slices_ContainsFunc__synth_Says_3.f k2 l0_2).bind fun t155 => (synth_Says.j2 k2 l1 t155 true a0_1 l0_2 l0_3)) = some (r1, r2) := by rw [if_pos rfl] at H; exact H
    clear H
    have H := H1
    clear H1
    replace H := Option.bind_eq_some_iff.mp H
    obtain ⟨t155, A580, H⟩ := H
    replace H : (synth_Says.j2 k2 l1 t155 true a0_1 l0_2 l0_3) = some (r1, r2) := H
    have A58 := Aside0.mk A580
    clear A580
    have H' := Aside0.mk H
    clear H
    have hnb59 := NB144_145.out
    have hnc59 := NB145_144.out
    have hcz60_0 : wr.cell? ⟨gb144, 0, none⟩ = some (.bool true) := (blk_cell BK144.out 0).trans rfl
    have hcz60_1 : wr.cell? ⟨gb144, 1, none⟩ = some (.int .i64 a0_1) := (blk_cell BK144.out 1).trans rfl
    have hcz60_2 : wr.cell? ⟨gb144, 2, none⟩ = some (.slice A0_2 l0_2.length c0_2) := (blk_cell BK144.out 2).trans rfl
    have hcz60_3 : wr.cell? ⟨gb144, 3, none⟩ = some (.slice A0_3 l0_3.length c0_3) := (blk_cell BK144.out 3).trans rfl
    have hfz60_0 := blk_frozen BK144.out 0
    have hfz60_1 := blk_frozen BK144.out 1
    have hfz60_2 := blk_frozen BK144.out 2
    have hfz60_3 := blk_frozen BK144.out 3
    go_wp2_with (first | (go_at_call 56; (with_reducible refine (slices_ContainsFunc__synth_Says_3.calls k2 _ _ l0_2 t155 _ ?side1 ?side2 A58.out).mono ?_); (case side1 => repeat (first | exact (Kd.C_below HR0_2.out HB.out) | (with_reducible refine Kd.C_alloc ?_ _) | (with_reducible refine Kd.C_drewN ?_ _) | (with_reducible refine Kd.C_drew ?_))); (case side2 => exact HC0_2.out); rintro e w61 ⟨rfl, hb⟩; have n0_ := Aside0.mk (blk_below (g := gb144) (o := .cells #[.bool true, .int .i64 a0_1, .slice A0_2 l0_2.length c0_2, .slice A0_3 l0_3.length c0_3] 42 (0, 0)) (by (with_reducible repeat (first | refine blk_drewN ?_ _ | refine blk_drew ?_ | refine blk_alloc ?_ _)); exact BK144.out) hb); have n1_ := Aside0.mk (blk_below (g := gb145) (o := .cells #[.int .i64 (l0_2.length : Int)] 3 (0, 0)) (by (with_reducible repeat (first | refine blk_drewN ?_ _ | refine blk_drew ?_ | refine blk_alloc ?_ _)); exact BK145.out) hb); have n2_ := Aside0.mk (below_step (by repeat (first | (with_reducible first | exact HB.out | apply below_alloc | apply pw_below_drewN | apply below_drew1 | refine below_set ?_ GE144.out | refine below_set ?_ GE145.out) | exact HB.out)) hb); clear BK144; clear BK145; clear HB; have BK144 := n0_; have BK145 := n1_; have HB := n2_; clear n0_ n1_ n2_; (try clear hb); (try clear hb2); (try clear hk); (try clear hi)))
    go_meet
    case rel => exact ⟨_, (t155), (by first | rfl | (simp; done) | (simp [*]; done)), H', ⟨by have := HJ2.out; have := HK2.out; first | omega | exact Nat.le_refl _⟩, ⟨by (with_reducible repeat (first | refine blk_drewN ?_ _ | refine blk_drew ?_ | refine blk_alloc ?_ _)); exact BK144.out⟩, ⟨by (with_reducible repeat (first | refine blk_drewN ?_ _ | refine blk_drew ?_ | refine blk_alloc ?_ _)); exact BK145.out⟩, ⟨by repeat (first | (with_reducible first | exact HB.out | apply below_alloc | apply pw_below_drewN | apply below_drew1 | refine below_set ?_ GE144.out | refine below_set ?_ GE145.out) | exact HB.out)⟩⟩
   ·replace c57 := Bool.eq_false_iff.mpr c57
    subst c57
    have H1 : (synth_Says.j2 k2 l1 false false a0_1 l0_2 l0_3) = some (r1, r2) := by rw [if_neg (show ¬ (false = true) by decide)] at H; exact H
    clear H
    have H := H1
    clear H1
    have H' := Aside0.mk H
    clear H
    have hnb62 := NB144_145.out
    have hnc62 := NB145_144.out
    have hcz63_0 : wr.cell? ⟨gb144, 0, none⟩ = some (.bool false) := (blk_cell BK144.out 0).trans rfl
    have hcz63_1 : wr.cell? ⟨gb144, 1, none⟩ = some (.int .i64 a0_1) := (blk_cell BK144.out 1).trans rfl
    have hcz63_2 : wr.cell? ⟨gb144, 2, none⟩ = some (.slice A0_2 l0_2.length c0_2) := (blk_cell BK144.out 2).trans rfl
    have hcz63_3 : wr.cell? ⟨gb144, 3, none⟩ = some (.slice A0_3 l0_3.length c0_3) := (blk_cell BK144.out 3).trans rfl
    have hfz63_0 := blk_frozen BK144.out 0
    have hfz63_1 := blk_frozen BK144.out 1
    have hfz63_2 := blk_frozen BK144.out 2
    have hfz63_3 := blk_frozen BK144.out 3
    go_wp2
    go_meet
    case rel => exact ⟨_, (false), (by first | rfl | (simp; done) | (simp [*]; done)), H', ⟨by have := HJ2.out; have := HK2.out; first | omega | exact Nat.le_refl _⟩, ⟨by (with_reducible repeat (first | refine blk_drewN ?_ _ | refine blk_drew ?_ | refine blk_alloc ?_ _)); exact BK144.out⟩, ⟨by (with_reducible repeat (first | refine blk_drewN ?_ _ | refine blk_drew ?_ | refine blk_alloc ?_ _)); exact BK145.out⟩, ⟨by repeat (first | (with_reducible first | exact HB.out | apply below_alloc | apply pw_below_drewN | apply below_drew1 | refine below_set ?_ GE144.out | refine below_set ?_ GE145.out) | exact HB.out)⟩⟩
  case rest =>
   clear HC53
   try clear c1
   try clear p1
   try clear q1
   try clear hx1
   try clear c2
   try clear p2
   try clear c3
   try clear c4
   try clear c5
   try clear c6
   try clear p6
   try clear c7
   try clear c9
   try clear c9b0
   try clear c9b1
   try clear c10
   try clear c12
   try clear c12b0
   try clear c12b1
   try clear c13
   try clear p14
   try clear q14
   try clear hx14
   try clear c15
   try clear p15
   try clear q15
   try clear hx15
   try clear c18
   try clear c19
   try clear c21
   try clear c21b0
   try clear c22
   try clear c22b0
   try clear c23
   try clear c23b0
   try clear c24
   try clear c25
   try clear c26
   try clear c30
   try clear c31
   try clear c34
   try clear c34b0
   try clear c36
   try clear c37
   try clear c41
   try clear c42
   try clear c45
   try clear c49
   try clear c50
   try clear c54
   try clear c57
   try clear c59
   try clear c62
   try clear hcz11_0
   try clear hcz14_0
   try clear hcz16_0
   try clear hcz17_0
   try clear hcz17_1
   try clear hcz17_2
   try clear hcz17_3
   try clear hcz20_0
   try clear hcz27_0
   try clear hcz27_1
   try clear hcz27_2
   try clear hcz27_3
   try clear hcz28_0
   try clear hcz32_0
   try clear hcz32_1
   try clear hcz32_2
   try clear hcz32_3
   try clear hcz33_0
   try clear hcz38_0
   try clear hcz38_1
   try clear hcz38_2
   try clear hcz38_3
   try clear hcz39_0
   try clear hcz43_0
   try clear hcz43_1
   try clear hcz43_2
   try clear hcz43_3
   try clear hcz44_0
   try clear hcz46_0
   try clear hcz46_1
   try clear hcz46_2
   try clear hcz46_3
   try clear hcz47_0
   try clear hcz51_0
   try clear hcz51_1
   try clear hcz51_2
   try clear hcz51_3
   try clear hcz52_0
   try clear hcz55_0
   try clear hcz55_1
   try clear hcz55_2
   try clear hcz55_3
   try clear hcz56_0
   try clear hcz5_0
   try clear hcz5_1
   try clear hcz5_2
   try clear hcz5_3
   try clear hcz60_0
   try clear hcz60_1
   try clear hcz60_2
   try clear hcz60_3
   try clear hcz63_0
   try clear hcz63_1
   try clear hcz63_2
   try clear hcz63_3
   try clear hcz8_0
   try clear hfz11_0
   try clear hfz14_0
   try clear hfz16_0
   try clear hfz17_0
   try clear hfz17_1
   try clear hfz17_2
   try clear hfz17_3
   try clear hfz20_0
   try clear hfz27_0
   try clear hfz27_1
   try clear hfz27_2
   try clear hfz27_3
   try clear hfz28_0
   try clear hfz32_0
   try clear hfz32_1
   try clear hfz32_2
   try clear hfz32_3
   try clear hfz33_0
   try clear hfz38_0
   try clear hfz38_1
   try clear hfz38_2
   try clear hfz38_3
   try clear hfz39_0
   try clear hfz43_0
   try clear hfz43_1
   try clear hfz43_2
   try clear hfz43_3
   try clear hfz44_0
   try clear hfz46_0
   try clear hfz46_1
   try clear hfz46_2
   try clear hfz46_3
   try clear hfz47_0
   try clear hfz51_0
   try clear hfz51_1
   try clear hfz51_2
   try clear hfz51_3
   try clear hfz52_0
   try clear hfz55_0
   try clear hfz55_1
   try clear hfz55_2
   try clear hfz55_3
   try clear hfz56_0
   try clear hfz5_0
   try clear hfz5_1
   try clear hfz5_2
   try clear hfz5_3
   try clear hfz60_0
   try clear hfz60_1
   try clear hfz60_2
   try clear hfz60_3
   try clear hfz63_0
   try clear hfz63_1
   try clear hfz63_2
   try clear hfz63_3
   try clear hfz8_0
   try clear hx146_0
   try clear hx146_1
   try clear hx148_0
   try clear hx148_1
   try clear hx150_0
   try clear hx150_1
   try clear hx152_0
   try clear hx152_1
   try clear p146
   try clear p148
   try clear p150
   try clear p152
   try clear p2
   try clear q146
   try clear q148
   try clear q150
   try clear q152
   obtain ⟨kq, x84_52, rfl, HA, HJ52, BK144, BK145, HB⟩ := hcut
   cases kq with
   | zero => exact absurd HA.out (by simp [synth_Says.j2])
   | succ kj52 =>
    have H := HA.out
    clear HA
    simp only [synth_Says.j2] at H
    by_cases c64 : x84_52 = true
    ·(
 subst c64
 have H1 : (some (([] : List Int), 3)) = some (r1, r2) := by rw [if_pos rfl] at H; exact H
 clear H
 have H := H1
 clear H1
 simp only [Option.some.injEq, Prod.mk.injEq] at H
 obtain ⟨rfl, rfl⟩ := H
 go_wp2
 go_ret2
 exact ⟨_, by first | rfl | (simp [errW_none, errW_some] <;> rfl) | (simp [*, errW_none, errW_some] <;> rfl), by first | exact Kd.R_nil _ _ _ _ _ | exact Kd.N_nil _ _ _ _ _ | exact Kd.V_nil _ _ _ _ _ | exact Kd.Q_nil _ _ _ _ _ | exact Kd.S_nil _ _ _ _ _, by repeat (first | (with_reducible first | exact HB.out | apply below_alloc | apply pw_below_drewN | apply below_drew1 | refine below_set ?_ GE144.out | refine below_set ?_ GE145.out) | exact HB.out)⟩)
    ·(
 replace c64 := Bool.eq_false_iff.mpr c64
 subst c64
 have H1 : (if (l1.length : Int) > 60 then (some (([] : List Int), 1)) else ((slices_ContainsFunc__synth_Says_2.f kj52 l1).bind fun t156 => (if t156 = true then (some (([] : List Int), 2)) else (synth_Says.l1 kj52 ([] : List Int) a0_1 l1 (l1.length : Int) 0 a0_0 a0_1 l0_2 l0_3)))) = some (r1, r2) := by rw [if_neg (show ¬ (false = true) by decide)] at H; exact H
 clear H
 have H := H1
 clear H1
 by_cases c65 : (l1.length : Int) > 60
 ·rw [if_pos c65] at H
  have c65b0 : decide (60 < (l1.length : Int)) = true := decide_eq_true c65
  have c65b1 : decide (60 < l1.length) = true := decide_eq_true (by omega)
  clear c65
  simp only [Option.some.injEq, Prod.mk.injEq] at H
  obtain ⟨rfl, rfl⟩ := H
  go_wp2
  go_ret2
  exact ⟨_, by first | rfl | (simp [errW_none, errW_some] <;> rfl) | (simp [*, errW_none, errW_some] <;> rfl), by first | exact Kd.R_nil _ _ _ _ _ | exact Kd.N_nil _ _ _ _ _ | exact Kd.V_nil _ _ _ _ _ | exact Kd.Q_nil _ _ _ _ _ | exact Kd.S_nil _ _ _ _ _, by repeat (first | (with_reducible first | exact HB.out | apply below_alloc | apply pw_below_drewN | apply below_drew1 | refine below_set ?_ GE144.out | refine below_set ?_ GE145.out) | exact HB.out)⟩
 ·rw [if_neg c65] at H
  have c65b0 : decide (60 < (l1.length : Int)) = false := decide_eq_false c65
  have c65b1 : decide (60 < l1.length) = false := decide_eq_false (by omega)
  clear c65
  replace H := Option.bind_eq_some_iff.mp H
  obtain ⟨t156, A660, H⟩ := H
  replace H : (if t156 = true then (some (([] : List Int), 2)) else (synth_Says.l1 kj52 ([] : List Int) a0_1 l1 (l1.length : Int) 0 a0_0 a0_1 l0_2 l0_3)) = some (r1, r2) := H
  have A66 := Aside0.mk A660
  clear A660
  by_cases c67 : t156 = true
  ·subst c67
   have H1 : (some (([] : List Int), 2)) = some (r1, r2) := by rw [if_pos rfl] at H; exact H
   clear H
   have H := H1
   clear H1
   simp only [Option.some.injEq, Prod.mk.injEq] at H
   obtain ⟨rfl, rfl⟩ := H
   go_wp2_with (first | ((with_reducible refine gate_callee (f := 58) rfl ?_); refine goesL_ (some 90) rfl rfl Try.func58 (by kernel_rfl) rfl #[.slice A1 l1.length c1, .func (.func 55) #[] #[]] rfl (by (try simp only [List.map_toArray, List.map_cons, List.map_nil]); first | done | rfl | (simp only [List.length_drop, List.length_take]; rfl)) ?_; (with_reducible refine (slices_ContainsFunc__synth_Says_2.calls kj52 _ _ l1 true _ ?side1 ?side2 A66.out).mono ?_); (case side1 => repeat (first | exact (Kd.C_below HR1.out HB.out) | (with_reducible refine Kd.C_alloc ?_ _) | (with_reducible refine Kd.C_drewN ?_ _) | (with_reducible refine Kd.C_drew ?_))); (case side2 => exact HC1.out); rintro e w68 ⟨rfl, hb⟩; refine ⟨_, rfl, ?_⟩; have n0_ := Aside0.mk (blk_below (g := gb144) (o := .cells #[.bool a0_0, .int .i64 a0_1, .slice A0_2 l0_2.length c0_2, .slice A0_3 l0_3.length c0_3] 42 (0, 0)) (by (with_reducible repeat (first | refine blk_drewN ?_ _ | refine blk_drew ?_ | refine blk_alloc ?_ _)); exact BK144.out) hb); have n1_ := Aside0.mk (blk_below (g := gb145) (o := .cells #[.int .i64 (l0_2.length : Int)] 3 (0, 0)) (by (with_reducible repeat (first | refine blk_drewN ?_ _ | refine blk_drew ?_ | refine blk_alloc ?_ _)); exact BK145.out) hb); have n2_ := Aside0.mk (below_step (by repeat (first | (with_reducible first | exact HB.out | apply below_alloc | apply pw_below_drewN | apply below_drew1 | refine below_set ?_ GE144.out | refine below_set ?_ GE145.out) | exact HB.out)) hb); clear BK144; clear BK145; clear HB; have BK144 := n0_; have BK145 := n1_; have HB := n2_; clear n0_ n1_ n2_; (try clear hb); (try clear hb2); (try clear hk); (try clear hi)))
   go_ret2
   exact ⟨_, by first | rfl | (simp [errW_none, errW_some] <;> rfl) | (simp [*, errW_none, errW_some] <;> rfl), by first | exact Kd.R_nil _ _ _ _ _ | exact Kd.N_nil _ _ _ _ _ | exact Kd.V_nil _ _ _ _ _ | exact Kd.Q_nil _ _ _ _ _ | exact Kd.S_nil _ _ _ _ _, by repeat (first | (with_reducible first | exact HB.out | apply below_alloc | apply pw_below_drewN | apply below_drew1 | refine below_set ?_ GE144.out | refine below_set ?_ GE145.out) | exact HB.out)⟩
  ·replace c67 := Bool.eq_false_iff.mpr c67
   subst c67
   have H1 : (synth_Says.l1 kj52 ([] : List Int) a0_1 l1 (l1.length : Int) 0 a0_0 a0_1 l0_2 l0_3) = some (r1, r2) := by rw [if_neg (show ¬ (false = true) by decide)] at H; exact H
   clear H
   have H := H1
   clear H1
   have H' := Aside0.mk H
   clear H
   go_wp2_with (first | ((with_reducible refine gate_callee (f := 58) rfl ?_); refine goesL_ (some 90) rfl rfl Try.func58 (by kernel_rfl) rfl #[.slice A1 l1.length c1, .func (.func 55) #[] #[]] rfl (by (try simp only [List.map_toArray, List.map_cons, List.map_nil]); first | done | rfl | (simp only [List.length_drop, List.length_take]; rfl)) ?_; (with_reducible refine (slices_ContainsFunc__synth_Says_2.calls kj52 _ _ l1 false _ ?side1 ?side2 A66.out).mono ?_); (case side1 => repeat (first | exact (Kd.C_below HR1.out HB.out) | (with_reducible refine Kd.C_alloc ?_ _) | (with_reducible refine Kd.C_drewN ?_ _) | (with_reducible refine Kd.C_drew ?_))); (case side2 => exact HC1.out); rintro e w69 ⟨rfl, hb⟩; refine ⟨_, rfl, ?_⟩; have n0_ := Aside0.mk (blk_below (g := gb144) (o := .cells #[.bool a0_0, .int .i64 a0_1, .slice A0_2 l0_2.length c0_2, .slice A0_3 l0_3.length c0_3] 42 (0, 0)) (by (with_reducible repeat (first | refine blk_drewN ?_ _ | refine blk_drew ?_ | refine blk_alloc ?_ _)); exact BK144.out) hb); have n1_ := Aside0.mk (blk_below (g := gb145) (o := .cells #[.int .i64 (l0_2.length : Int)] 3 (0, 0)) (by (with_reducible repeat (first | refine blk_drewN ?_ _ | refine blk_drew ?_ | refine blk_alloc ?_ _)); exact BK145.out) hb); have n2_ := Aside0.mk (below_step (by repeat (first | (with_reducible first | exact HB.out | apply below_alloc | apply pw_below_drewN | apply below_drew1 | refine below_set ?_ GE144.out | refine below_set ?_ GE145.out) | exact HB.out)) hb); clear BK144; clear BK145; clear HB; have BK144 := n0_; have BK145 := n1_; have HB := n2_; clear n0_ n1_ n2_; (try clear hb); (try clear hb2); (try clear hk); (try clear hi); have hnb70 := NB144_145.out; have hnc70 := NB145_144.out; have hcz71_0 : w69.cell? ⟨gb144, 0, none⟩ = some (.bool a0_0) := (blk_cell BK144.out 0).trans rfl; have hcz71_1 : w69.cell? ⟨gb144, 1, none⟩ = some (.int .i64 a0_1) := (blk_cell BK144.out 1).trans rfl; have hcz71_2 : w69.cell? ⟨gb144, 2, none⟩ = some (.slice A0_2 l0_2.length c0_2) := (blk_cell BK144.out 2).trans rfl; have hcz71_3 : w69.cell? ⟨gb144, 3, none⟩ = some (.slice A0_3 l0_3.length c0_3) := (blk_cell BK144.out 3).trans rfl; have hfz71_0 := blk_frozen BK144.out 0; have hfz71_1 := blk_frozen BK144.out 1; have hfz71_2 := blk_frozen BK144.out 2; have hfz71_3 := blk_frozen BK144.out 3))
   go_loopg [10, 11, 95] kj52 (fun kq v10 v11 v95 w' => ∃ (x10_4 : List Int) (x11_4 : Int) (x95_4 : Int), v11 = .int .i64 x11_4 ∧ v95 = .int .i64 x95_4 ∧ Aside0 (synth_Says.l1 kq x10_4 x11_4 l1 (l1.length : Int) x95_4 a0_0 a0_1 l0_2 l0_3 = some (r1, r2)) ∧ Aside0 (kq ≤ kj52) ∧ Aside0 (Kd.R (Kd.int .i64) 3 w' w.heap.size (fun k_ => k_ ≠ gb145) v10 x10_4) ∧ Aside0 (w'.heap[gb144]? = some (.cells #[.bool a0_0, .int .i64 a0_1, (.slice A0_2 l0_2.length c0_2), (.slice A0_3 l0_3.length c0_3)] 42 (0, 0))) ∧ Aside0 (w'.heap[gb145]? = some (.cells #[.int .i64 (l0_2.length : Int)] 3 (0, 0))) ∧ Aside0 (Below w.heap.size w w'))
   case atStart => exact ⟨(([] : List Int)), (a0_1), (0), (by first | rfl | (simp; done) | (simp [*]; done)), (by first | rfl | (simp; done) | (simp [*]; done)), H', ⟨Nat.le_refl _⟩, ⟨by first | exact Kd.R_nil _ _ _ _ _ | exact Kd.N_nil _ _ _ _ _ | exact Kd.V_nil _ _ _ _ _ | exact Kd.Q_nil _ _ _ _ _ | exact Kd.S_nil _ _ _ _ _⟩, ⟨by (with_reducible repeat (first | refine blk_drewN ?_ _ | refine blk_drew ?_ | refine blk_alloc ?_ _)); exact BK144.out⟩, ⟨by (with_reducible repeat (first | refine blk_drewN ?_ _ | refine blk_drew ?_ | refine blk_alloc ?_ _)); exact BK145.out⟩, ⟨by repeat (first | (with_reducible first | exact HB.out | apply below_alloc | apply pw_below_drewN | apply below_drew1 | refine below_set ?_ GE144.out | refine below_set ?_ GE145.out) | exact HB.out)⟩⟩
   case round =>
    clear H'
    try clear c1
    try clear p1
    try clear q1
    try clear hx1
    try clear c2
    try clear p2
    try clear c3
    try clear c4
    try clear c5
    try clear c6
    try clear p6
    try clear c7
    try clear c9
    try clear c9b0
    try clear c9b1
    try clear c10
    try clear c12
    try clear c12b0
    try clear c12b1
    try clear c13
    try clear p14
    try clear q14
    try clear hx14
    try clear c15
    try clear p15
    try clear q15
    try clear hx15
    try clear c18
    try clear c19
    try clear c21
    try clear c21b0
    try clear c22
    try clear c22b0
    try clear c23
    try clear c23b0
    try clear c24
    try clear c25
    try clear c26
    try clear c30
    try clear c31
    try clear c34
    try clear c34b0
    try clear c36
    try clear c37
    try clear c41
    try clear c42
    try clear c45
    try clear c49
    try clear c50
    try clear c54
    try clear c57
    try clear c58
    try clear c59
    try clear c62
    try clear c64
    try clear p64
    try clear c65
    try clear c65b0
    try clear c65b1
    try clear c67
    try clear c70
    try clear hcz11_0
    try clear hcz14_0
    try clear hcz16_0
    try clear hcz17_0
    try clear hcz17_1
    try clear hcz17_2
    try clear hcz17_3
    try clear hcz20_0
    try clear hcz27_0
    try clear hcz27_1
    try clear hcz27_2
    try clear hcz27_3
    try clear hcz28_0
    try clear hcz32_0
    try clear hcz32_1
    try clear hcz32_2
    try clear hcz32_3
    try clear hcz33_0
    try clear hcz38_0
    try clear hcz38_1
    try clear hcz38_2
    try clear hcz38_3
    try clear hcz39_0
    try clear hcz43_0
    try clear hcz43_1
    try clear hcz43_2
    try clear hcz43_3
    try clear hcz44_0
    try clear hcz46_0
    try clear hcz46_1
    try clear hcz46_2
    try clear hcz46_3
    try clear hcz47_0
    try clear hcz51_0
    try clear hcz51_1
    try clear hcz51_2
    try clear hcz51_3
    try clear hcz52_0
    try clear hcz55_0
    try clear hcz55_1
    try clear hcz55_2
    try clear hcz55_3
    try clear hcz56_0
    try clear hcz5_0
    try clear hcz5_1
    try clear hcz5_2
    try clear hcz5_3
    try clear hcz60_0
    try clear hcz60_1
    try clear hcz60_2
    try clear hcz60_3
    try clear hcz63_0
    try clear hcz63_1
    try clear hcz63_2
    try clear hcz63_3
    try clear hcz71_0
    try clear hcz71_1
    try clear hcz71_2
    try clear hcz71_3
    try clear hcz8_0
    try clear hfz11_0
    try clear hfz14_0
    try clear hfz16_0
    try clear hfz17_0
    try clear hfz17_1
    try clear hfz17_2
    try clear hfz17_3
    try clear hfz20_0
    try clear hfz27_0
    try clear hfz27_1
    try clear hfz27_2
    try clear hfz27_3
    try clear hfz28_0
    try clear hfz32_0
    try clear hfz32_1
    try clear hfz32_2
    try clear hfz32_3
    try clear hfz33_0
    try clear hfz38_0
    try clear hfz38_1
    try clear hfz38_2
    try clear hfz38_3
    try clear hfz39_0
    try clear hfz43_0
    try clear hfz43_1
    try clear hfz43_2
    try clear hfz43_3
    try clear hfz44_0
    try clear hfz46_0
    try clear hfz46_1
    try clear hfz46_2
    try clear hfz46_3
    try clear hfz47_0
    try clear hfz51_0
    try clear hfz51_1
    try clear hfz51_2
    try clear hfz51_3
    try clear hfz52_0
    try clear hfz55_0
    try clear hfz55_1
    try clear hfz55_2
    try clear hfz55_3
    try clear hfz56_0
    try clear hfz5_0
    try clear hfz5_1
    try clear hfz5_2
    try clear hfz5_3
    try clear hfz60_0
    try clear hfz60_1
    try clear hfz60_2
    try clear hfz60_3
    try clear hfz63_0
    try clear hfz63_1
    try clear hfz63_2
    try clear hfz63_3
    try clear hfz71_0
    try clear hfz71_1
    try clear hfz71_2
    try clear hfz71_3
    try clear hfz8_0
    try clear hx146_0
    try clear hx146_1
    try clear hx148_0
    try clear hx148_1
    try clear hx150_0
    try clear hx150_1
    try clear hx152_0
    try clear hx152_1
    try clear p1
    try clear p14
    try clear p146
    try clear p148
    try clear p15
    try clear p150
    try clear p152
    try clear p2
    try clear p6
    try clear q1
    try clear q14
    try clear q146
    try clear q148
    try clear q15
    try clear q150
    try clear q152
    obtain ⟨x10_4, x11_4, x95_4, rfl, rfl, HA, HK4, HO_10, BK144, BK145, HB⟩ := hrel
    cases gk with
    | zero => exact absurd HA.out (by simp [synth_Says.l1])
    | succ k4 =>
     have H := HA.out
     clear HA
     simp only [synth_Says.l1] at H
     by_cases c72 : x95_4 < (l1.length : Int)
     ·(
 rw [if_pos c72] at H
 have c72b0 : decide (x95_4 < (l1.length : Int)) = true := decide_eq_true c72
 clear c72
 by_cases c73 : 0 ≤ x95_4
 ·rw [if_pos c73] at H
  have c73b0 : decide (0 ≤ x95_4) = true := decide_eq_true c73
  clear c73
  by_cases c74 : x95_4 < (l1.length : Int)
  ·rw [if_pos c74] at H
   have c74b0 : decide (x95_4 < (l1.length : Int)) = true := decide_eq_true c74
   clear c74
   by_cases c75 : 0 ≤ x11_4
   ·rw [if_pos c75] at H
    have c75b0 : decide (0 ≤ x11_4) = true := decide_eq_true c75
    clear c75
    by_cases c76 : x11_4 < (l0_2.length : Int)
    ·(
 rw [if_pos c76] at H
 have c76b0 : decide (x11_4 < (l0_2.length : Int)) = true := decide_eq_true c76
 clear c76
 by_cases c77 : 0 ≤ (rd l1 x95_4)
 ·rw [if_pos c77] at H
  have c77b0 : decide (0 ≤ (rd l1 x95_4)) = true := decide_eq_true c77
  clear c77
  by_cases c78 : (rd l1 x95_4) < 2
  ·rw [if_pos c78] at H
   have c78b0 : decide ((rd l1 x95_4) < 2) = true := decide_eq_true c78
   clear c78
   by_cases c80 : x10_4.length < 17592186044416
   ·rw [if_pos c80] at H
    have LMc80 := Aside0.mk c80
    clear c80
    obtain ⟨y159, hy159⟩ : ∃ y_ : List Int, y_ = (x10_4 ++ [(asel2 (rd l1 x95_4) ((rd_T87 l0_2 x11_4).f0) ((rd_T87 l0_2 x11_4).f1))]) := ⟨_, rfl⟩
    replace H : (if x11_4 < (l0_3.length : Int) then (synth_Says.l1 k4 y159 (asel2 (rd l1 x95_4) ((rd_T87 l0_3 x11_4).f0) ((rd_T87 l0_3 x11_4).f1)) l1 (l1.length : Int) (wrap64 (x95_4 + 1)) a0_0 a0_1 l0_2 l0_3) else (none)) = some (r1, r2) := by first | (rw [hy159]; with_reducible exact H) | (have H2_ := (Option.bind_some _ _).symm.trans H; rw [hy159]; with_reducible exact H2_) | (have H2_ := (Option.bind_some _ _).symm.trans H; with_reducible exact H2_) | with_reducible exact H | (rw [hy159]; exact H) | exact H
    have Ny159 := Aside0.mk hy159
    clear hy159
    by_cases c81 : x11_4 < (l0_3.length : Int)
    ·(
 rw [if_pos c81] at H
 have c81b0 : decide (x11_4 < (l0_3.length : Int)) = true := decide_eq_true c81
 clear c81
 have H' := Aside0.mk H
 clear H
 have p157 : 0 ≤ (x95_4 : Int) := of_decide_eq_true (by first | (with_reducible assumption) | assumption)
 have q157 : x95_4 < (l1.length : Int) := of_decide_eq_true (by first | (with_reducible assumption) | assumption)
 obtain ⟨ad157, e157, hx157_0⟩ := Kd.at_int HR1.out x95_4 p157 q157
 cases e157
 replace hx157_0 := (HB.out.cell (World.block_lt_of_cell? w _ hx157_0)).trans hx157_0
 replace p157 := eq_true p157
 replace q157 := eq_true q157
 have hnb83 := NB144_145.out
 have hnc83 := NB145_144.out
 have hcz84_0 : wr.cell? ⟨gb144, 0, none⟩ = some (.bool a0_0) := (blk_cell BK144.out 0).trans rfl
 have hcz84_1 : wr.cell? ⟨gb144, 1, none⟩ = some (.int .i64 a0_1) := (blk_cell BK144.out 1).trans rfl
 have hcz84_2 : wr.cell? ⟨gb144, 2, none⟩ = some (.slice A0_2 l0_2.length c0_2) := (blk_cell BK144.out 2).trans rfl
 have hcz84_3 : wr.cell? ⟨gb144, 3, none⟩ = some (.slice A0_3 l0_3.length c0_3) := (blk_cell BK144.out 3).trans rfl
 have hfz84_0 := blk_frozen BK144.out 0
 have hfz84_1 := blk_frozen BK144.out 1
 have hfz84_2 := blk_frozen BK144.out 2
 have hfz84_3 := blk_frozen BK144.out 3
 have p158 : 0 ≤ (x11_4 : Int) := of_decide_eq_true (by first | (with_reducible assumption) | assumption)
 have q158 : x11_4 < (l0_2.length : Int) := of_decide_eq_true (by first | (with_reducible assumption) | assumption)
 obtain ⟨ad158, e158, hx158_0, hx158_1⟩ := at_T87 HR0_2.out x11_4 p158 q158
 cases e158
 replace hx158_0 := (HB.out.cell (World.block_lt_of_cell? w _ hx158_0)).trans hx158_0
 replace hx158_1 := (HB.out.cell (World.block_lt_of_cell? w _ hx158_1)).trans hx158_1
 replace p158 := eq_true p158
 replace q158 := eq_true q158
 have pd158 : 0 ≤ ((rd l1 x95_4) : Int) := of_decide_eq_true (by first | (with_reducible assumption) | assumption)
 have qd158 : ((rd l1 x95_4) : Int) < 2 := of_decide_eq_true (by first | (with_reducible assumption) | assumption)
 have hd158 := dyn2_2 hx158_0 hx158_1 pd158 qd158
 replace pd158 := eq_true pd158
 replace qd158 := eq_true qd158
 go_wp2_with (first | ((with_reducible refine gate_builtin (b := .append) (xs := #[.tmp 99, .tmp 107]) rfl ?_); (try (refine gate_guard (by rfl) ?_; dsimp only)); at_builtin; refine Kd.R_append (Kd.int .i64) (w0 := w) w.heap.size rfl (.tmp 99) (.tmp 107) 26 3 (.int .i64 0) 8 rfl Try.underlying26 info3 rfl (by decide) (by omega) u10 x10_4 (asel2 (rd l1 x95_4) ((rd_T87 l0_2 x11_4).f0) ((rd_T87 l0_2 x11_4).f1)) [.int .i64 (asel2 (rd l1 x95_4) ((rd_T87 l0_2 x11_4).f0) ((rd_T87 l0_2 x11_4).f1))] (fun k_ => k_ ≠ gb145) (fun _ => False) rfl rfl ?aP (fun _ hk => hk.elim) ?aF ?aO ?aB ?aS ?aL ?_; (case aP => exact rfl); (case aB => exact (by repeat (first | (with_reducible first | exact HB.out | apply below_alloc | apply pw_below_drewN | apply below_drew1 | refine below_set ?_ GE144.out | refine below_set ?_ GE145.out) | exact HB.out))); (case aF => exact (fun k_ hk => Kd.freshB (g := gb145) (o := .cells #[.int .i64 (l0_2.length : Int)] 3 (0, 0)) (by (with_reducible repeat (first | refine blk_drewN ?_ _ | refine blk_drew ?_ | refine blk_alloc ?_ _)); exact BK145.out) k_ hk)); (case aO => exact (by (with_reducible repeat (first | apply Kd.R_alloc | apply Kd.R_drewN | apply Kd.R_drew)); exact HO_10.out)); (case aS => exact (below_size (by repeat (first | (with_reducible first | exact HB.out | apply below_alloc | apply pw_below_drewN | apply below_drew1 | refine below_set ?_ GE144.out | refine below_set ?_ GE145.out) | exact HB.out)))); (case aL => have := LMc80.out; omega); intro v160 w85 ho hb hg hat; rw [← Ny159.out] at ho; have n0_ := Aside0.mk (blk_grown (g := gb144) (o := .cells #[.bool a0_0, .int .i64 a0_1, .slice (some ad158) l0_2.length c0_2, .slice A0_3 l0_3.length c0_3] 42 (0, 0)) (by (with_reducible repeat (first | refine blk_drewN ?_ _ | refine blk_drew ?_ | refine blk_alloc ?_ _)); exact BK144.out) hg (Kd.R_ne HO_10.out BK144.out (by decide))); have n1_ := Aside0.mk (blk_grown (g := gb145) (o := .cells #[.int .i64 (l0_2.length : Int)] 3 (0, 0)) (by (with_reducible repeat (first | refine blk_drewN ?_ _ | refine blk_drew ?_ | refine blk_alloc ?_ _)); exact BK145.out) hg (Kd.R_away HO_10.out (fun _ hk => hk))); have n2_ := Aside0.mk (hb); have n3_ := Aside0.mk (ho); clear BK144; clear BK145; clear HB; clear HO_10; have BK144 := n0_; have BK145 := n1_; have HB := n2_; have HO161 := n3_; clear n0_ n1_ n2_ n3_; clear ho hb hg hat; have hcz86_0 : w85.cell? ⟨gb144, 0, none⟩ = some (.bool a0_0) := (blk_cell BK144.out 0).trans rfl; have hcz86_1 : w85.cell? ⟨gb144, 1, none⟩ = some (.int .i64 a0_1) := (blk_cell BK144.out 1).trans rfl; have hcz86_2 : w85.cell? ⟨gb144, 2, none⟩ = some (.slice (some ad158) l0_2.length c0_2) := (blk_cell BK144.out 2).trans rfl; have hcz86_3 : w85.cell? ⟨gb144, 3, none⟩ = some (.slice A0_3 l0_3.length c0_3) := (blk_cell BK144.out 3).trans rfl; have hfz86_0 := blk_frozen BK144.out 0; have hfz86_1 := blk_frozen BK144.out 1; have hfz86_2 := blk_frozen BK144.out 2; have hfz86_3 := blk_frozen BK144.out 3; have p162 : 0 ≤ (x11_4 : Int) := of_decide_eq_true (by first | (with_reducible assumption) | assumption); have q162 : x11_4 < (l0_3.length : Int) := of_decide_eq_true (by first | (with_reducible assumption) | assumption); obtain ⟨ad162, e162, hx162_0, hx162_1⟩ := at_T87 HR0_3.out x11_4 p162 q162; cases e162; replace hx162_0 := (HB.out.cell (World.block_lt_of_cell? w _ hx162_0)).trans hx162_0; replace hx162_1 := (HB.out.cell (World.block_lt_of_cell? w _ hx162_1)).trans hx162_1; replace p162 := eq_true p162; replace q162 := eq_true q162; have pd162 : 0 ≤ ((rd l1 x95_4) : Int) := of_decide_eq_true (by first | (with_reducible assumption) | assumption); have qd162 : ((rd l1 x95_4) : Int) < 2 := of_decide_eq_true (by first | (with_reducible assumption) | assumption); have hd162 := dyn2_2 hx162_0 hx162_1 pd162 qd162; replace pd162 := eq_true pd162; replace qd162 := eq_true qd162))
 go_roundg k4
 case measure => have := HJ2.out; have := HK2.out; have := HJ52.out; have := HK4.out; omega
 case rel => exact ⟨(y159), ((asel2 (rd l1 x95_4) ((rd_T87 l0_3 x11_4).f0) ((rd_T87 l0_3 x11_4).f1))), (wrap64 (x95_4 + 1)), (by first | rfl | (simp; done) | (simp [*]; done)), (by first | rfl | (simp; done) | (simp [*]; done)), H', ⟨by have := HJ2.out; have := HK2.out; have := HJ52.out; have := HK4.out; omega⟩, ⟨by (with_reducible repeat (first | apply Kd.R_alloc | apply Kd.R_drewN | apply Kd.R_drew)); exact HO161.out⟩, ⟨by (with_reducible repeat (first | refine blk_drewN ?_ _ | refine blk_drew ?_ | refine blk_alloc ?_ _)); exact BK144.out⟩, ⟨by (with_reducible repeat (first | refine blk_drewN ?_ _ | refine blk_drew ?_ | refine blk_alloc ?_ _)); exact BK145.out⟩, ⟨by repeat (first | (with_reducible first | exact HB.out | apply below_alloc | apply pw_below_drewN | apply below_drew1 | refine below_set ?_ GE144.out | refine below_set ?_ GE145.out) | exact HB.out)⟩⟩)
    ·(
 rw [if_neg c81] at H
 exact absurd H (by simp))
   ·rw [if_neg c80] at H
    exact absurd H (by simp)
  ·rw [if_neg c78] at H
   exact absurd H (by simp)
 ·rw [if_neg c77] at H
  exact absurd H (by simp))
    ·(
 rw [if_neg c76] at H
 exact absurd H (by simp))
   ·rw [if_neg c75] at H
    exact absurd H (by simp)
  ·rw [if_neg c74] at H
   exact absurd H (by simp)
 ·rw [if_neg c73] at H
  exact absurd H (by simp))
     ·(
 rw [if_neg c72] at H
 have c72b0 : decide (x95_4 < (l1.length : Int)) = false := decide_eq_false c72
 clear c72
 simp only [Option.some.injEq, Prod.mk.injEq] at H
 obtain ⟨rfl, rfl⟩ := H
 go_wp2
 go_ret2
 exact ⟨_, by first | rfl | (simp [errW_none, errW_some] <;> rfl) | (simp [*, errW_none, errW_some] <;> rfl), by (with_reducible repeat (first | apply Kd.R_alloc | apply Kd.R_drewN | apply Kd.R_drew)); exact Kd.R_mono HO_10.out (fun _ hk => trivial), by repeat (first | (with_reducible first | exact HB.out | apply below_alloc | apply pw_below_drewN | apply below_drew1 | refine below_set ?_ GE144.out | refine below_set ?_ GE145.out) | exact HB.out)⟩)))
end Go.Proofs.Ythbdmfhobienaaa.PSynthSays
