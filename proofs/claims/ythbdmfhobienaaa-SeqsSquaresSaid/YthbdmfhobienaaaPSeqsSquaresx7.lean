-- Printed over the kit's print by a program of this session (wip/hprint.py), with contracts of its own hand.
import Derived.Test.YthbdmfhobienaaaPSeqsSquaresx0
import Derived.Test.YthbdmfhobienaaaPSeqsSquaresx1
import Derived.Test.YthbdmfhobienaaaPSeqsSquaresx2
import Derived.Test.YthbdmfhobienaaaPSeqsSquaresx5
import Derived.Test.YthbdmfhobienaaaPSeqsSquaresx6
namespace Go.Proofs.Ythbdmfhobienaaa.PSeqsSquares
open Go.RowKit Go.Proofs.YthbdmfhobienaaaW.PrintWords Go.Proofs.YthbdmfhobienaaaW.PrintLast Go.Proofs.YthbdmfhobienaaaW.PrintMore
attribute [local go_sem] max2_int min2_int max_two min_two max_three min_three max_four min_four   -- for this text's walks alone
set_option linter.unusedVariables false
set_option linter.unusedSimpArgs false

/-! ### evermorelaw_SeqsSquares: function 13 -/
mutual
def evermorelaw_SeqsSquares.j0 : Nat → Int → Int → Int → Bool → Int → Int → Bool → Int → List (List Int) → List Int → Option (Bool)
  | 0, _, _, _, _, _, _, _, _, _, _ => none
  | k + 1, x1, x5, x6, x7, x8, x9, x33, x149000, x149001, x149002 => if x33 = true then (evermorelaw_SeqsSquares.j1 k x1 x5 x6 x7 x8 2 x149000 x149001 x149002) else (evermorelaw_SeqsSquares.j1 k x1 x5 x6 x7 x8 x9 x149000 x149001 x149002)
def evermorelaw_SeqsSquares.j1 : Nat → Int → Int → Int → Bool → Int → Int → Int → List (List Int) → List Int → Option (Bool)
  | 0, _, _, _, _, _, _, _, _, _ => none
  | k + 1, x1, x5, x6, x7, x8, x9, x149000, x149001, x149002 => if x9 = 0 then ((evermoreref23_Row.f k x149000 x149001 x149002 x1).bind fun t154 => (evermorelaw_SeqsSquares.l0 k x1 x5 x6 x7 x8 t154 0)) else (if x8 = x9 then (if x7 = true then (some false) else (if x5 = 0 then (some (x6 == 0)) else (some false))) else (some false))
def evermorelaw_SeqsSquares.l0 : Nat → Int → Int → Int → Bool → Int → List Int → Int → Option (Bool)
  | 0, _, _, _, _, _, _, _ => none
  | k + 1, x1, x5, x6, x7, x8, x10, x11 => if x11 < x1 then (evermorelaw_SeqsSquares.l1 k x1 x5 x6 x7 x8 x10 x11 1) else (if x8 = 0 then (if x7 = true then (some false) else (if x5 = 0 then (some (x6 == 0)) else (some false))) else (some false))
def evermorelaw_SeqsSquares.l1 : Nat → Int → Int → Int → Bool → Int → List Int → Int → Int → Option (Bool)
  | 0, _, _, _, _, _, _, _, _ => none
  | k + 1, x1, x5, x6, x7, x8, x10, x11, x12 => if (wrap64 (x11 + (wrap64 (2 * x12)))) ≤ x1 then (if 0 ≤ x11 then (if x11 ≤ (wrap64 (x11 + x12)) then (if (wrap64 (x11 + x12)) ≤ (x10.length : Int) then (if 0 ≤ (wrap64 (x11 + x12)) then (if (wrap64 (x11 + x12)) ≤ (wrap64 (x11 + (wrap64 (2 * x12)))) then (if (wrap64 (x11 + (wrap64 (2 * x12)))) ≤ (x10.length : Int) then ((evermoreref1_Words.f k ((x10.take ((wrap64 (x11 + x12)) : Int).toNat).drop (x11 : Int).toNat) ((x10.take ((wrap64 (x11 + (wrap64 (2 * x12)))) : Int).toNat).drop ((wrap64 (x11 + x12)) : Int).toNat)).bind fun t165 => (if t165 = true then (if x8 = 0 then (if x7 = true then (if x5 = x11 then (some (x6 == x12)) else (some false)) else (some false)) else (some false)) else (evermorelaw_SeqsSquares.l1 k x1 x5 x6 x7 x8 x10 x11 (wrap64 (x12 + 1))))) else (none)) else (none)) else (none)) else (none)) else (none)) else (none)) else (evermorelaw_SeqsSquares.l0 k x1 x5 x6 x7 x8 x10 (wrap64 (x11 + 1)))
end
def evermorelaw_SeqsSquares.f (k : Nat) (a0_0 : Int) (l0_1 : List (List Int)) (l0_2 : List Int) (a1 : Int) : Option (Bool) := (seqs_Square.f k a0_0 l0_1 l0_2 a1).bind fun bt149 => ((evermoreref23_Check.f k a0_0 l0_1 l0_2).bind fun t153 => (if t153 = 0 then (if a1 < 0 then (evermorelaw_SeqsSquares.j0 k a1 bt149.1 bt149.2.1 bt149.2.2.1 bt149.2.2.2 t153 true a0_0 l0_1 l0_2) else (evermorelaw_SeqsSquares.j0 k a1 bt149.1 bt149.2.1 bt149.2.2.1 bt149.2.2.2 t153 (decide (a1 > 400)) a0_0 l0_1 l0_2)) else (evermorelaw_SeqsSquares.j0 k a1 bt149.1 bt149.2.1 bt149.2.2.1 bt149.2.2.2 t153 false a0_0 l0_1 l0_2)))
theorem evermorelaw_SeqsSquares.mono_l : ∀ k, (∀ y0 y1 y2 y3 y4 y5 y6 y7 y8 y9, LeO (evermorelaw_SeqsSquares.j0 k y0 y1 y2 y3 y4 y5 y6 y7 y8 y9) (evermorelaw_SeqsSquares.j0 (k + 1) y0 y1 y2 y3 y4 y5 y6 y7 y8 y9)) ∧ (∀ y0 y1 y2 y3 y4 y5 y6 y7 y8, LeO (evermorelaw_SeqsSquares.j1 k y0 y1 y2 y3 y4 y5 y6 y7 y8) (evermorelaw_SeqsSquares.j1 (k + 1) y0 y1 y2 y3 y4 y5 y6 y7 y8)) ∧ (∀ y0 y1 y2 y3 y4 y5 y6, LeO (evermorelaw_SeqsSquares.l0 k y0 y1 y2 y3 y4 y5 y6) (evermorelaw_SeqsSquares.l0 (k + 1) y0 y1 y2 y3 y4 y5 y6)) ∧ (∀ y0 y1 y2 y3 y4 y5 y6 y7, LeO (evermorelaw_SeqsSquares.l1 k y0 y1 y2 y3 y4 y5 y6 y7) (evermorelaw_SeqsSquares.l1 (k + 1) y0 y1 y2 y3 y4 y5 y6 y7))
  | 0 => ⟨fun _ _ _ _ _ _ _ _ _ _ r h => by simp [evermorelaw_SeqsSquares.j0] at h, fun _ _ _ _ _ _ _ _ _ r h => by simp [evermorelaw_SeqsSquares.j1] at h, fun _ _ _ _ _ _ _ r h => by simp [evermorelaw_SeqsSquares.l0] at h, fun _ _ _ _ _ _ _ _ r h => by simp [evermorelaw_SeqsSquares.l1] at h⟩
  | k + 1 => by
    obtain ⟨ih0, ih1, ih2, ih3⟩ := evermorelaw_SeqsSquares.mono_l k
    refine ⟨?_, ?_, ?_, ?_⟩
    · intro y0 y1 y2 y3 y4 y5 y6 y7 y8 y9
      unfold evermorelaw_SeqsSquares.j0
      repeat' first
      | (with_reducible exact ih0 _ _ _ _ _ _ _ _ _ _)
      | (with_reducible exact ih1 _ _ _ _ _ _ _ _ _)
      | (with_reducible exact ih2 _ _ _ _ _ _ _)
      | (with_reducible exact ih3 _ _ _ _ _ _ _ _)
      | (with_reducible exact evermoreref1_Words.mono _ _ _)
      | (with_reducible exact evermoreref23_Check.mono _ _ _ _)
      | (with_reducible exact evermoreref23_Row.mono _ _ _ _ _)
      | (with_reducible exact seqs_Square.mono _ _ _ _ _)
      | (with_reducible exact LeO.refl _)
      | (with_reducible exact LeO.none _)
      | (with_reducible refine LeO.ite ?_ ?_)
      | (with_reducible refine LeO.bind ?_ (fun _ => ?_))
      | exact ih0 _ _ _ _ _ _ _ _ _ _
      | exact ih1 _ _ _ _ _ _ _ _ _
      | exact ih2 _ _ _ _ _ _ _
      | exact ih3 _ _ _ _ _ _ _ _
      | exact evermoreref1_Words.mono _ _ _
      | exact evermoreref23_Check.mono _ _ _ _
      | exact evermoreref23_Row.mono _ _ _ _ _
      | exact seqs_Square.mono _ _ _ _ _
      | exact LeO.none _
      | refine LeO.ite ?_ ?_
      | refine LeO.bind ?_ (fun _ => ?_)
    · intro y0 y1 y2 y3 y4 y5 y6 y7 y8
      unfold evermorelaw_SeqsSquares.j1
      repeat' first
      | (with_reducible exact ih0 _ _ _ _ _ _ _ _ _ _)
      | (with_reducible exact ih1 _ _ _ _ _ _ _ _ _)
      | (with_reducible exact ih2 _ _ _ _ _ _ _)
      | (with_reducible exact ih3 _ _ _ _ _ _ _ _)
      | (with_reducible exact evermoreref1_Words.mono _ _ _)
      | (with_reducible exact evermoreref23_Check.mono _ _ _ _)
      | (with_reducible exact evermoreref23_Row.mono _ _ _ _ _)
      | (with_reducible exact seqs_Square.mono _ _ _ _ _)
      | (with_reducible exact LeO.refl _)
      | (with_reducible exact LeO.none _)
      | (with_reducible refine LeO.ite ?_ ?_)
      | (with_reducible refine LeO.bind ?_ (fun _ => ?_))
      | exact ih0 _ _ _ _ _ _ _ _ _ _
      | exact ih1 _ _ _ _ _ _ _ _ _
      | exact ih2 _ _ _ _ _ _ _
      | exact ih3 _ _ _ _ _ _ _ _
      | exact evermoreref1_Words.mono _ _ _
      | exact evermoreref23_Check.mono _ _ _ _
      | exact evermoreref23_Row.mono _ _ _ _ _
      | exact seqs_Square.mono _ _ _ _ _
      | exact LeO.none _
      | refine LeO.ite ?_ ?_
      | refine LeO.bind ?_ (fun _ => ?_)
    · intro y0 y1 y2 y3 y4 y5 y6
      unfold evermorelaw_SeqsSquares.l0
      repeat' first
      | (with_reducible exact ih0 _ _ _ _ _ _ _ _ _ _)
      | (with_reducible exact ih1 _ _ _ _ _ _ _ _ _)
      | (with_reducible exact ih2 _ _ _ _ _ _ _)
      | (with_reducible exact ih3 _ _ _ _ _ _ _ _)
      | (with_reducible exact evermoreref1_Words.mono _ _ _)
      | (with_reducible exact evermoreref23_Check.mono _ _ _ _)
      | (with_reducible exact evermoreref23_Row.mono _ _ _ _ _)
      | (with_reducible exact seqs_Square.mono _ _ _ _ _)
      | (with_reducible exact LeO.refl _)
      | (with_reducible exact LeO.none _)
      | (with_reducible refine LeO.ite ?_ ?_)
      | (with_reducible refine LeO.bind ?_ (fun _ => ?_))
      | exact ih0 _ _ _ _ _ _ _ _ _ _
      | exact ih1 _ _ _ _ _ _ _ _ _
      | exact ih2 _ _ _ _ _ _ _
      | exact ih3 _ _ _ _ _ _ _ _
      | exact evermoreref1_Words.mono _ _ _
      | exact evermoreref23_Check.mono _ _ _ _
      | exact evermoreref23_Row.mono _ _ _ _ _
      | exact seqs_Square.mono _ _ _ _ _
      | exact LeO.none _
      | refine LeO.ite ?_ ?_
      | refine LeO.bind ?_ (fun _ => ?_)
    · intro y0 y1 y2 y3 y4 y5 y6 y7
      unfold evermorelaw_SeqsSquares.l1
      repeat' first
      | (with_reducible exact ih0 _ _ _ _ _ _ _ _ _ _)
      | (with_reducible exact ih1 _ _ _ _ _ _ _ _ _)
      | (with_reducible exact ih2 _ _ _ _ _ _ _)
      | (with_reducible exact ih3 _ _ _ _ _ _ _ _)
      | (with_reducible exact evermoreref1_Words.mono _ _ _)
      | (with_reducible exact evermoreref23_Check.mono _ _ _ _)
      | (with_reducible exact evermoreref23_Row.mono _ _ _ _ _)
      | (with_reducible exact seqs_Square.mono _ _ _ _ _)
      | (with_reducible exact LeO.refl _)
      | (with_reducible exact LeO.none _)
      | (with_reducible refine LeO.ite ?_ ?_)
      | (with_reducible refine LeO.bind ?_ (fun _ => ?_))
      | exact ih0 _ _ _ _ _ _ _ _ _ _
      | exact ih1 _ _ _ _ _ _ _ _ _
      | exact ih2 _ _ _ _ _ _ _
      | exact ih3 _ _ _ _ _ _ _ _
      | exact evermoreref1_Words.mono _ _ _
      | exact evermoreref23_Check.mono _ _ _ _
      | exact evermoreref23_Row.mono _ _ _ _ _
      | exact seqs_Square.mono _ _ _ _ _
      | exact LeO.none _
      | refine LeO.ite ?_ ?_
      | refine LeO.bind ?_ (fun _ => ?_)
theorem evermorelaw_SeqsSquares.mono : ∀ a0 a1 a2 a3 k, LeO (evermorelaw_SeqsSquares.f k a0 a1 a2 a3) (evermorelaw_SeqsSquares.f (k + 1) a0 a1 a2 a3) := by
  intro a0 a1 a2 a3 k
  obtain ⟨ih0, ih1, ih2, ih3⟩ := evermorelaw_SeqsSquares.mono_l k
  unfold evermorelaw_SeqsSquares.f
  repeat' first
      | (with_reducible exact ih0 _ _ _ _ _ _ _ _ _ _)
      | (with_reducible exact ih1 _ _ _ _ _ _ _ _ _)
      | (with_reducible exact ih2 _ _ _ _ _ _ _)
      | (with_reducible exact ih3 _ _ _ _ _ _ _ _)
      | (with_reducible exact evermoreref1_Words.mono _ _ _)
      | (with_reducible exact evermoreref23_Check.mono _ _ _ _)
      | (with_reducible exact evermoreref23_Row.mono _ _ _ _ _)
      | (with_reducible exact seqs_Square.mono _ _ _ _ _)
      | (with_reducible exact LeO.refl _)
      | (with_reducible exact LeO.none _)
      | (with_reducible refine LeO.ite ?_ ?_)
      | (with_reducible refine LeO.bind ?_ (fun _ => ?_))
      | exact ih0 _ _ _ _ _ _ _ _ _ _
      | exact ih1 _ _ _ _ _ _ _ _ _
      | exact ih2 _ _ _ _ _ _ _
      | exact ih3 _ _ _ _ _ _ _ _
      | exact evermoreref1_Words.mono _ _ _
      | exact evermoreref23_Check.mono _ _ _ _
      | exact evermoreref23_Row.mono _ _ _ _ _
      | exact seqs_Square.mono _ _ _ _ _
      | exact LeO.none _
      | refine LeO.ite ?_ ?_
      | refine LeO.bind ?_ (fun _ => ?_)
set_option maxHeartbeats 8000000 in
set_option maxRecDepth 100000 in
theorem evermorelaw_SeqsSquares.calls (k : Nat) (a0_0 : Int) (A0_1 : Option Addr) (c0_1 : Nat) (l0_1 : List (List Int)) (A0_2 : Option Addr) (c0_2 : Nat) (l0_2 : List Int) (a1 : Int) (r : Bool) (w : World) (hr0_1 : Kd.C (Kd.slice 3 (Kd.int .i64)) w A0_1 l0_1.length l0_1) (hc0_1 : l0_1.length ≤ c0_1) (hr0_2 : Kd.C (Kd.int .i64) w A0_2 l0_2.length l0_2) (hc0_2 : l0_2.length ≤ c0_2) (h : evermorelaw_SeqsSquares.f k a0_0 l0_1 l0_2 a1 = some r) :
    Calls Try.prog 13 #[.agg #[.int .i64 a0_0, .slice A0_1 l0_1.length c0_1, .slice A0_2 l0_2.length c0_2], .int .i64 a1] w fun e w' => e = .returned (.bool r) ∧ Below w.heap.size w w' := by
  have hu47 := Try.underlying47
  have HR0_1 := Aside0.mk hr0_1
  have HC0_1 := Aside0.mk hc0_1
  clear hr0_1 hc0_1
  have HR0_2 := Aside0.mk hr0_2
  have HC0_2 := Aside0.mk hc0_2
  clear hr0_2 hc0_2
  have HB := Aside0.mk (Below.refl w.heap.size w)
  have H : ((seqs_Square.f k a0_0 l0_1 l0_2 a1).bind fun bt149 => ((evermoreref23_Check.f k a0_0 l0_1 l0_2).bind fun t153 => (if t153 = 0 then (if a1 < 0 then (evermorelaw_SeqsSquares.j0 k a1 bt149.1 bt149.2.1 bt149.2.2.1 bt149.2.2.2 t153 true a0_0 l0_1 l0_2) else (evermorelaw_SeqsSquares.j0 k a1 bt149.1 bt149.2.1 bt149.2.2.1 bt149.2.2.2 t153 (decide (a1 > 400)) a0_0 l0_1 l0_2)) else (evermorelaw_SeqsSquares.j0 k a1 bt149.1 bt149.2.1 bt149.2.2.1 bt149.2.2.2 t153 false a0_0 l0_1 l0_2)))) = some r := h
  clear h
  replace H := Option.bind_eq_some_iff.mp H
  obtain ⟨⟨t149, t150, t151, t152⟩, A30, H⟩ := H
  replace H : ((evermoreref23_Check.f k a0_0 l0_1 l0_2).bind fun t153 => (if t153 = 0 then (if a1 < 0 then (evermorelaw_SeqsSquares.j0 k a1 t149 t150 t151 t152 t153 true a0_0 l0_1 l0_2) else (evermorelaw_SeqsSquares.j0 k a1 t149 t150 t151 t152 t153 (decide (a1 > 400)) a0_0 l0_1 l0_2)) else (evermorelaw_SeqsSquares.j0 k a1 t149 t150 t151 t152 t153 false a0_0 l0_1 l0_2))) = some r := H
  have A3 := Aside0.mk A30
  clear A30
  replace H := Option.bind_eq_some_iff.mp H
  obtain ⟨t153, A40, H⟩ := H
  replace H : (if t153 = 0 then (if a1 < 0 then (evermorelaw_SeqsSquares.j0 k a1 t149 t150 t151 t152 t153 true a0_0 l0_1 l0_2) else (evermorelaw_SeqsSquares.j0 k a1 t149 t150 t151 t152 t153 (decide (a1 > 400)) a0_0 l0_1 l0_2)) else (evermorelaw_SeqsSquares.j0 k a1 t149 t150 t151 t152 t153 false a0_0 l0_1 l0_2)) = some r := H
  have A4 := Aside0.mk A40
  clear A40
  have HC5 := Aside0.mk H
  clear H
  go_enter Try.func13, Try.ntmps13
  go_upto_region 3 with (first | ((with_reducible refine gate_dst (N := 2) rfl ?_); refine box_event ?hg (N := 2) ?hd (cs := #[.int .i64 a0_0, .slice A0_1 l0_1.length c0_1, .slice A0_2 l0_2.length c0_2]) (t := 47) ?hr ?_; (case hd => rfl); (case hg => rfl); (case hr => first | (go_simp; done) | (go_simp; rfl)); intro gb148 hg w6 hbox hb; have n0_ := Aside0.mk (below_step (by repeat (first | (with_reducible first | exact HB.out | apply below_alloc | apply pw_below_drewN | apply below_drew1) | exact HB.out)) hb); have n1_ := Aside0.mk (hbox); have n2_ := Aside0.mk ((by rw [hg]; exact (below_size (by repeat (first | (with_reducible first | exact HB.out | apply below_alloc | apply pw_below_drewN | apply below_drew1) | exact HB.out))) : w.heap.size ≤ gb148)); have n3_ := Aside0.mk ((by rw [hg]; exact (below_size (by repeat (first | (with_reducible first | exact HB.out | apply below_alloc | apply pw_below_drewN | apply below_drew1) | exact HB.out))) : w.heap.size ≤ gb148)); clear HB; have HB := n0_; have BK148 := n1_; have GW148 := n2_; have GE148 := n3_; clear n0_ n1_ n2_ n3_; clear hb hbox hg; have hcz7_0 : w6.cell? ⟨gb148, 0, none⟩ = some (.int .i64 a0_0) := (blk_cell BK148.out 0).trans rfl; have hcz7_1 : w6.cell? ⟨gb148, 1, none⟩ = some (.slice A0_1 l0_1.length c0_1) := (blk_cell BK148.out 1).trans rfl; have hcz7_2 : w6.cell? ⟨gb148, 2, none⟩ = some (.slice A0_2 l0_2.length c0_2) := (blk_cell BK148.out 2).trans rfl; have hfz7_0 := blk_frozen BK148.out 0; have hfz7_1 := blk_frozen BK148.out 1; have hfz7_2 := blk_frozen BK148.out 2) | (go_at_call 48; (with_reducible refine (seqs_Square.calls k a0_0 _ _ l0_1 _ _ l0_2 a1 t149 t150 t151 t152 _ ?side1 ?side2 ?side3 ?side4 A3.out).mono ?_); (case side1 => repeat (first | exact (Kd.C_below HR0_1.out HB.out) | (with_reducible refine Kd.C_alloc ?_ _) | (with_reducible refine Kd.C_drewN ?_ _) | (with_reducible refine Kd.C_drew ?_))); (case side2 => exact HC0_1.out); (case side3 => repeat (first | exact (Kd.C_below HR0_2.out HB.out) | (with_reducible refine Kd.C_alloc ?_ _) | (with_reducible refine Kd.C_drewN ?_ _) | (with_reducible refine Kd.C_drew ?_))); (case side4 => exact HC0_2.out); rintro e w8 ⟨rfl, hb⟩; have n0_ := Aside0.mk (blk_below (g := gb148) (o := .cells #[.int .i64 a0_0, .slice A0_1 l0_1.length c0_1, .slice A0_2 l0_2.length c0_2] 47 (0, 0)) (by (with_reducible repeat (first | refine blk_drewN ?_ _ | refine blk_drew ?_ | refine blk_alloc ?_ _)); exact BK148.out) hb); have n1_ := Aside0.mk (below_step (by repeat (first | (with_reducible first | exact HB.out | apply below_alloc | apply pw_below_drewN | apply below_drew1 | refine below_set ?_ GE148.out) | exact HB.out)) hb); clear BK148; clear HB; have BK148 := n0_; have HB := n1_; clear n0_ n1_; (try clear hb); (try clear hb2); (try clear hk); (try clear hi); have hcz9_0 : w8.cell? ⟨gb148, 0, none⟩ = some (.int .i64 a0_0) := (blk_cell BK148.out 0).trans rfl; have hcz9_1 : w8.cell? ⟨gb148, 1, none⟩ = some (.slice A0_1 l0_1.length c0_1) := (blk_cell BK148.out 1).trans rfl; have hcz9_2 : w8.cell? ⟨gb148, 2, none⟩ = some (.slice A0_2 l0_2.length c0_2) := (blk_cell BK148.out 2).trans rfl; have hfz9_0 := blk_frozen BK148.out 0; have hfz9_1 := blk_frozen BK148.out 1; have hfz9_2 := blk_frozen BK148.out 2) | (go_at_call 27; (with_reducible refine (evermoreref23_Check.calls k a0_0 _ _ l0_1 _ _ l0_2 t153 _ ?side1 ?side2 ?side3 ?side4 A4.out).mono ?_); (case side1 => repeat (first | exact (Kd.C_below HR0_1.out HB.out) | (with_reducible refine Kd.C_alloc ?_ _) | (with_reducible refine Kd.C_drewN ?_ _) | (with_reducible refine Kd.C_drew ?_))); (case side2 => exact HC0_1.out); (case side3 => repeat (first | exact (Kd.C_below HR0_2.out HB.out) | (with_reducible refine Kd.C_alloc ?_ _) | (with_reducible refine Kd.C_drewN ?_ _) | (with_reducible refine Kd.C_drew ?_))); (case side4 => exact HC0_2.out); rintro e w10 ⟨rfl, hb⟩; have n0_ := Aside0.mk (blk_below (g := gb148) (o := .cells #[.int .i64 a0_0, .slice A0_1 l0_1.length c0_1, .slice A0_2 l0_2.length c0_2] 47 (0, 0)) (by (with_reducible repeat (first | refine blk_drewN ?_ _ | refine blk_drew ?_ | refine blk_alloc ?_ _)); exact BK148.out) hb); have n1_ := Aside0.mk (below_step (by repeat (first | (with_reducible first | exact HB.out | apply below_alloc | apply pw_below_drewN | apply below_drew1 | refine below_set ?_ GE148.out) | exact HB.out)) hb); clear BK148; clear HB; have BK148 := n0_; have HB := n1_; clear n0_ n1_; (try clear hb); (try clear hb2); (try clear hk); (try clear hi)))
  repeat (go_quiet (first | ((with_reducible refine gate_dst (N := 2) rfl ?_); refine box_event ?hg (N := 2) ?hd (cs := #[.int .i64 a0_0, .slice A0_1 l0_1.length c0_1, .slice A0_2 l0_2.length c0_2]) (t := 47) ?hr ?_; (case hd => rfl); (case hg => rfl); (case hr => first | (go_simp; done) | (go_simp; rfl)); intro gb148 hg w6 hbox hb; have n0_ := Aside0.mk (below_step (by repeat (first | (with_reducible first | exact HB.out | apply below_alloc | apply pw_below_drewN | apply below_drew1) | exact HB.out)) hb); have n1_ := Aside0.mk (hbox); have n2_ := Aside0.mk ((by rw [hg]; exact (below_size (by repeat (first | (with_reducible first | exact HB.out | apply below_alloc | apply pw_below_drewN | apply below_drew1) | exact HB.out))) : w.heap.size ≤ gb148)); have n3_ := Aside0.mk ((by rw [hg]; exact (below_size (by repeat (first | (with_reducible first | exact HB.out | apply below_alloc | apply pw_below_drewN | apply below_drew1) | exact HB.out))) : w.heap.size ≤ gb148)); clear HB; have HB := n0_; have BK148 := n1_; have GW148 := n2_; have GE148 := n3_; clear n0_ n1_ n2_ n3_; clear hb hbox hg; have hcz7_0 : w6.cell? ⟨gb148, 0, none⟩ = some (.int .i64 a0_0) := (blk_cell BK148.out 0).trans rfl; have hcz7_1 : w6.cell? ⟨gb148, 1, none⟩ = some (.slice A0_1 l0_1.length c0_1) := (blk_cell BK148.out 1).trans rfl; have hcz7_2 : w6.cell? ⟨gb148, 2, none⟩ = some (.slice A0_2 l0_2.length c0_2) := (blk_cell BK148.out 2).trans rfl; have hfz7_0 := blk_frozen BK148.out 0; have hfz7_1 := blk_frozen BK148.out 1; have hfz7_2 := blk_frozen BK148.out 2) | (go_at_call 48; (with_reducible refine (seqs_Square.calls k a0_0 _ _ l0_1 _ _ l0_2 a1 t149 t150 t151 t152 _ ?side1 ?side2 ?side3 ?side4 A3.out).mono ?_); (case side1 => repeat (first | exact (Kd.C_below HR0_1.out HB.out) | (with_reducible refine Kd.C_alloc ?_ _) | (with_reducible refine Kd.C_drewN ?_ _) | (with_reducible refine Kd.C_drew ?_))); (case side2 => exact HC0_1.out); (case side3 => repeat (first | exact (Kd.C_below HR0_2.out HB.out) | (with_reducible refine Kd.C_alloc ?_ _) | (with_reducible refine Kd.C_drewN ?_ _) | (with_reducible refine Kd.C_drew ?_))); (case side4 => exact HC0_2.out); rintro e w8 ⟨rfl, hb⟩; have n0_ := Aside0.mk (blk_below (g := gb148) (o := .cells #[.int .i64 a0_0, .slice A0_1 l0_1.length c0_1, .slice A0_2 l0_2.length c0_2] 47 (0, 0)) (by (with_reducible repeat (first | refine blk_drewN ?_ _ | refine blk_drew ?_ | refine blk_alloc ?_ _)); exact BK148.out) hb); have n1_ := Aside0.mk (below_step (by repeat (first | (with_reducible first | exact HB.out | apply below_alloc | apply pw_below_drewN | apply below_drew1 | refine below_set ?_ GE148.out) | exact HB.out)) hb); clear BK148; clear HB; have BK148 := n0_; have HB := n1_; clear n0_ n1_; (try clear hb); (try clear hb2); (try clear hk); (try clear hi); have hcz9_0 : w8.cell? ⟨gb148, 0, none⟩ = some (.int .i64 a0_0) := (blk_cell BK148.out 0).trans rfl; have hcz9_1 : w8.cell? ⟨gb148, 1, none⟩ = some (.slice A0_1 l0_1.length c0_1) := (blk_cell BK148.out 1).trans rfl; have hcz9_2 : w8.cell? ⟨gb148, 2, none⟩ = some (.slice A0_2 l0_2.length c0_2) := (blk_cell BK148.out 2).trans rfl; have hfz9_0 := blk_frozen BK148.out 0; have hfz9_1 := blk_frozen BK148.out 1; have hfz9_2 := blk_frozen BK148.out 2) | (go_at_call 27; (with_reducible refine (evermoreref23_Check.calls k a0_0 _ _ l0_1 _ _ l0_2 t153 _ ?side1 ?side2 ?side3 ?side4 A4.out).mono ?_); (case side1 => repeat (first | exact (Kd.C_below HR0_1.out HB.out) | (with_reducible refine Kd.C_alloc ?_ _) | (with_reducible refine Kd.C_drewN ?_ _) | (with_reducible refine Kd.C_drew ?_))); (case side2 => exact HC0_1.out); (case side3 => repeat (first | exact (Kd.C_below HR0_2.out HB.out) | (with_reducible refine Kd.C_alloc ?_ _) | (with_reducible refine Kd.C_drewN ?_ _) | (with_reducible refine Kd.C_drew ?_))); (case side4 => exact HC0_2.out); rintro e w10 ⟨rfl, hb⟩; have n0_ := Aside0.mk (blk_below (g := gb148) (o := .cells #[.int .i64 a0_0, .slice A0_1 l0_1.length c0_1, .slice A0_2 l0_2.length c0_2] 47 (0, 0)) (by (with_reducible repeat (first | refine blk_drewN ?_ _ | refine blk_drew ?_ | refine blk_alloc ?_ _)); exact BK148.out) hb); have n1_ := Aside0.mk (below_step (by repeat (first | (with_reducible first | exact HB.out | apply below_alloc | apply pw_below_drewN | apply below_drew1 | refine below_set ?_ GE148.out) | exact HB.out)) hb); clear BK148; clear HB; have BK148 := n0_; have HB := n1_; clear n0_ n1_; (try clear hb); (try clear hb2); (try clear hk); (try clear hi))); go_upto_region 3 with (first | ((with_reducible refine gate_dst (N := 2) rfl ?_); refine box_event ?hg (N := 2) ?hd (cs := #[.int .i64 a0_0, .slice A0_1 l0_1.length c0_1, .slice A0_2 l0_2.length c0_2]) (t := 47) ?hr ?_; (case hd => rfl); (case hg => rfl); (case hr => first | (go_simp; done) | (go_simp; rfl)); intro gb148 hg w6 hbox hb; have n0_ := Aside0.mk (below_step (by repeat (first | (with_reducible first | exact HB.out | apply below_alloc | apply pw_below_drewN | apply below_drew1) | exact HB.out)) hb); have n1_ := Aside0.mk (hbox); have n2_ := Aside0.mk ((by rw [hg]; exact (below_size (by repeat (first | (with_reducible first | exact HB.out | apply below_alloc | apply pw_below_drewN | apply below_drew1) | exact HB.out))) : w.heap.size ≤ gb148)); have n3_ := Aside0.mk ((by rw [hg]; exact (below_size (by repeat (first | (with_reducible first | exact HB.out | apply below_alloc | apply pw_below_drewN | apply below_drew1) | exact HB.out))) : w.heap.size ≤ gb148)); clear HB; have HB := n0_; have BK148 := n1_; have GW148 := n2_; have GE148 := n3_; clear n0_ n1_ n2_ n3_; clear hb hbox hg; have hcz7_0 : w6.cell? ⟨gb148, 0, none⟩ = some (.int .i64 a0_0) := (blk_cell BK148.out 0).trans rfl; have hcz7_1 : w6.cell? ⟨gb148, 1, none⟩ = some (.slice A0_1 l0_1.length c0_1) := (blk_cell BK148.out 1).trans rfl; have hcz7_2 : w6.cell? ⟨gb148, 2, none⟩ = some (.slice A0_2 l0_2.length c0_2) := (blk_cell BK148.out 2).trans rfl; have hfz7_0 := blk_frozen BK148.out 0; have hfz7_1 := blk_frozen BK148.out 1; have hfz7_2 := blk_frozen BK148.out 2) | (go_at_call 48; (with_reducible refine (seqs_Square.calls k a0_0 _ _ l0_1 _ _ l0_2 a1 t149 t150 t151 t152 _ ?side1 ?side2 ?side3 ?side4 A3.out).mono ?_); (case side1 => repeat (first | exact (Kd.C_below HR0_1.out HB.out) | (with_reducible refine Kd.C_alloc ?_ _) | (with_reducible refine Kd.C_drewN ?_ _) | (with_reducible refine Kd.C_drew ?_))); (case side2 => exact HC0_1.out); (case side3 => repeat (first | exact (Kd.C_below HR0_2.out HB.out) | (with_reducible refine Kd.C_alloc ?_ _) | (with_reducible refine Kd.C_drewN ?_ _) | (with_reducible refine Kd.C_drew ?_))); (case side4 => exact HC0_2.out); rintro e w8 ⟨rfl, hb⟩; have n0_ := Aside0.mk (blk_below (g := gb148) (o := .cells #[.int .i64 a0_0, .slice A0_1 l0_1.length c0_1, .slice A0_2 l0_2.length c0_2] 47 (0, 0)) (by (with_reducible repeat (first | refine blk_drewN ?_ _ | refine blk_drew ?_ | refine blk_alloc ?_ _)); exact BK148.out) hb); have n1_ := Aside0.mk (below_step (by repeat (first | (with_reducible first | exact HB.out | apply below_alloc | apply pw_below_drewN | apply below_drew1 | refine below_set ?_ GE148.out) | exact HB.out)) hb); clear BK148; clear HB; have BK148 := n0_; have HB := n1_; clear n0_ n1_; (try clear hb); (try clear hb2); (try clear hk); (try clear hi); have hcz9_0 : w8.cell? ⟨gb148, 0, none⟩ = some (.int .i64 a0_0) := (blk_cell BK148.out 0).trans rfl; have hcz9_1 : w8.cell? ⟨gb148, 1, none⟩ = some (.slice A0_1 l0_1.length c0_1) := (blk_cell BK148.out 1).trans rfl; have hcz9_2 : w8.cell? ⟨gb148, 2, none⟩ = some (.slice A0_2 l0_2.length c0_2) := (blk_cell BK148.out 2).trans rfl; have hfz9_0 := blk_frozen BK148.out 0; have hfz9_1 := blk_frozen BK148.out 1; have hfz9_2 := blk_frozen BK148.out 2) | (go_at_call 27; (with_reducible refine (evermoreref23_Check.calls k a0_0 _ _ l0_1 _ _ l0_2 t153 _ ?side1 ?side2 ?side3 ?side4 A4.out).mono ?_); (case side1 => repeat (first | exact (Kd.C_below HR0_1.out HB.out) | (with_reducible refine Kd.C_alloc ?_ _) | (with_reducible refine Kd.C_drewN ?_ _) | (with_reducible refine Kd.C_drew ?_))); (case side2 => exact HC0_1.out); (case side3 => repeat (first | exact (Kd.C_below HR0_2.out HB.out) | (with_reducible refine Kd.C_alloc ?_ _) | (with_reducible refine Kd.C_drewN ?_ _) | (with_reducible refine Kd.C_drew ?_))); (case side4 => exact HC0_2.out); rintro e w10 ⟨rfl, hb⟩; have n0_ := Aside0.mk (blk_below (g := gb148) (o := .cells #[.int .i64 a0_0, .slice A0_1 l0_1.length c0_1, .slice A0_2 l0_2.length c0_2] 47 (0, 0)) (by (with_reducible repeat (first | refine blk_drewN ?_ _ | refine blk_drew ?_ | refine blk_alloc ?_ _)); exact BK148.out) hb); have n1_ := Aside0.mk (below_step (by repeat (first | (with_reducible first | exact HB.out | apply below_alloc | apply pw_below_drewN | apply below_drew1 | refine below_set ?_ GE148.out) | exact HB.out)) hb); clear BK148; clear HB; have BK148 := n0_; have HB := n1_; clear n0_ n1_; (try clear hb); (try clear hb2); (try clear hk); (try clear hi))))
  (try simp only [Act.put, List.setIfInBounds_toArray, List.set_cons_zero, List.set_cons_succ])
  go_cut [33] (fun v33 wc => ∃ (kq : Nat) (x33_4 : Bool), v33 = .bool x33_4 ∧ Aside0 (evermorelaw_SeqsSquares.j0 kq a1 t149 t150 t151 t152 t153 x33_4 a0_0 l0_1 l0_2 = some r) ∧ Aside0 (kq ≤ k) ∧ Aside0 (wc.heap[gb148]? = some (.cells #[.int .i64 a0_0, (.slice A0_1 l0_1.length c0_1), (.slice A0_2 l0_2.length c0_2)] 47 (0, 0))) ∧ Aside0 (Below w.heap.size w wc))
  case first =>
    have H := HC5.out
    clear HC5
    by_cases c11 : t153 = 0
    · rw [if_pos c11] at H
      have c11b0 : (t153 == 0) = true := beq_iff_eq.mpr c11
      have c11b1 : (t153 != 0) = false := bne_eq_false_iff_eq.mpr c11
      clear c11
      (first | rw [c11b0] | (simp only [i64_w, i32_w]; rw [c11b0]) | skip)
      by_cases c12 : a1 < 0
      · rw [if_pos c12] at H
        have c12b0 : decide (a1 < 0) = true := decide_eq_true c12
        clear c12
        have H' := Aside0.mk H
        clear H
        go_wp2
        repeat (go_quiet (fail); try go_wp2)
        go_meet
        case rel => exact ⟨_, (true), (by first | rfl | (simp; done) | (simp [*]; done)), H', ⟨by first | omega | exact Nat.le_refl _⟩, ⟨by (with_reducible repeat (first | refine blk_drewN ?_ _ | refine blk_drew ?_ | refine blk_alloc ?_ _)); exact BK148.out⟩, ⟨by repeat (first | (with_reducible first | exact HB.out | apply below_alloc | apply pw_below_drewN | apply below_drew1 | refine below_set ?_ GE148.out) | exact HB.out)⟩⟩
      · rw [if_neg c12] at H
        have c12b0 : decide (a1 < 0) = false := decide_eq_false c12
        clear c12
        have H' := Aside0.mk H
        clear H
        go_wp2
        repeat (go_quiet (fail); try go_wp2)
        go_meet
        case rel => exact ⟨_, (decide (a1 > 400)), (by first | rfl | (simp; done) | (simp [*]; done)), H', ⟨by first | omega | exact Nat.le_refl _⟩, ⟨by (with_reducible repeat (first | refine blk_drewN ?_ _ | refine blk_drew ?_ | refine blk_alloc ?_ _)); exact BK148.out⟩, ⟨by repeat (first | (with_reducible first | exact HB.out | apply below_alloc | apply pw_below_drewN | apply below_drew1 | refine below_set ?_ GE148.out) | exact HB.out)⟩⟩
    · rw [if_neg c11] at H
      have c11b0 : (t153 == 0) = false := beq_eq_false_iff_ne.mpr c11
      have c11b1 : (t153 != 0) = true := bne_iff_ne.mpr c11
      (first | rw [c11b0] | (simp only [i64_w, i32_w]; rw [c11b0]) | skip)
      have H' := Aside0.mk H
      clear H
      go_wp2
      repeat (go_quiet (fail); try go_wp2)
      go_meet
      case rel => exact ⟨_, (false), (by first | rfl | (simp; done) | (simp [*]; done)), H', ⟨by first | omega | exact Nat.le_refl _⟩, ⟨by (with_reducible repeat (first | refine blk_drewN ?_ _ | refine blk_drew ?_ | refine blk_alloc ?_ _)); exact BK148.out⟩, ⟨by repeat (first | (with_reducible first | exact HB.out | apply below_alloc | apply pw_below_drewN | apply below_drew1 | refine below_set ?_ GE148.out) | exact HB.out)⟩⟩
  case rest =>
    clear HC5
    try clear c1
    try clear p2
    try clear c11
    try clear c11b0
    try clear c11b1
    try clear c12
    try clear c12b0
    try clear hcz7_0
    try clear hcz7_1
    try clear hcz7_2
    try clear hcz9_0
    try clear hcz9_1
    try clear hcz9_2
    try clear hfz7_0
    try clear hfz7_1
    try clear hfz7_2
    try clear hfz9_0
    try clear hfz9_1
    try clear hfz9_2
    obtain ⟨kq, x33_4, rfl, HA, HJ4, BK148, HB⟩ := hcut
    cases kq with
    | zero => exact absurd HA.out (by simp [evermorelaw_SeqsSquares.j0])
    | succ kj4 =>
      have H := HA.out
      clear HA
      simp only [evermorelaw_SeqsSquares.j0] at H
      have HC13 := Aside0.mk H
      clear H
      go_upto_if 33 with (fail)
      repeat (go_quiet (fail); go_upto_if 33 with (fail))
      go_cut [9] (fun v9 wc => ∃ (kq : Nat) (x9_12 : Int), v9 = .int .i64 x9_12 ∧ Aside0 (evermorelaw_SeqsSquares.j1 kq a1 t149 t150 t151 t152 x9_12 a0_0 l0_1 l0_2 = some r) ∧ Aside0 (kq ≤ kj4) ∧ Aside0 (wc.heap[gb148]? = some (.cells #[.int .i64 a0_0, (.slice A0_1 l0_1.length c0_1), (.slice A0_2 l0_2.length c0_2)] 47 (0, 0))) ∧ Aside0 (Below w.heap.size w wc))
      case first =>
        have H := HC13.out
        clear HC13
        by_cases c14 : x33_4 = true
        · subst c14
          have H1 : (evermorelaw_SeqsSquares.j1 kj4 a1 t149 t150 t151 t152 2 a0_0 l0_1 l0_2) = some r := by rw [if_pos rfl] at H; exact H
          clear H
          have H := H1
          clear H1
          have H' := Aside0.mk H
          clear H
          go_wp2
          repeat (go_quiet (fail); try go_wp2)
          go_meet
          case rel => exact ⟨_, (2), (by first | rfl | (simp; done) | (simp [*]; done)), H', ⟨by have := HJ4.out; first | omega | exact Nat.le_refl _⟩, ⟨by (with_reducible repeat (first | refine blk_drewN ?_ _ | refine blk_drew ?_ | refine blk_alloc ?_ _)); exact BK148.out⟩, ⟨by repeat (first | (with_reducible first | exact HB.out | apply below_alloc | apply pw_below_drewN | apply below_drew1 | refine below_set ?_ GE148.out) | exact HB.out)⟩⟩
        · replace c14 := Bool.eq_false_iff.mpr c14
          subst c14
          have H1 : (evermorelaw_SeqsSquares.j1 kj4 a1 t149 t150 t151 t152 t153 a0_0 l0_1 l0_2) = some r := by rw [if_neg (show ¬ (false = true) by decide)] at H; exact H
          clear H
          have H := H1
          clear H1
          have H' := Aside0.mk H
          clear H
          go_wp2
          repeat (go_quiet (fail); try go_wp2)
          go_meet
          case rel => exact ⟨_, (t153), (by first | rfl | (simp; done) | (simp [*]; done)), H', ⟨by have := HJ4.out; first | omega | exact Nat.le_refl _⟩, ⟨by (with_reducible repeat (first | refine blk_drewN ?_ _ | refine blk_drew ?_ | refine blk_alloc ?_ _)); exact BK148.out⟩, ⟨by repeat (first | (with_reducible first | exact HB.out | apply below_alloc | apply pw_below_drewN | apply below_drew1 | refine below_set ?_ GE148.out) | exact HB.out)⟩⟩
      case rest =>
        clear HC13
        try clear c1
        try clear p2
        try clear c11
        try clear c11b0
        try clear c11b1
        try clear c12
        try clear c12b0
        try clear c13
        try clear c14
        try clear hcz7_0
        try clear hcz7_1
        try clear hcz7_2
        try clear hcz9_0
        try clear hcz9_1
        try clear hcz9_2
        try clear hfz7_0
        try clear hfz7_1
        try clear hfz7_2
        try clear hfz9_0
        try clear hfz9_1
        try clear hfz9_2
        try clear p2
        obtain ⟨kq, x9_12, rfl, HA, HJ12, BK148, HB⟩ := hcut
        cases kq with
        | zero => exact absurd HA.out (by simp [evermorelaw_SeqsSquares.j1])
        | succ kj12 =>
          have H := HA.out
          clear HA
          simp only [evermorelaw_SeqsSquares.j1] at H
          by_cases c15 : x9_12 = 0
          · rw [if_pos c15] at H
            have c15b0 : (x9_12 == 0) = true := beq_iff_eq.mpr c15
            have c15b1 : (x9_12 != 0) = false := bne_eq_false_iff_eq.mpr c15
            clear c15
            replace H := Option.bind_eq_some_iff.mp H
            obtain ⟨t154, A160, H⟩ := H
            replace H : (evermorelaw_SeqsSquares.l0 kj12 a1 t149 t150 t151 t152 t154 0) = some r := H
            have A16 := Aside0.mk A160
            clear A160
            have H' := Aside0.mk H
            clear H
            have hcz17_0 : wc.cell? ⟨gb148, 0, none⟩ = some (.int .i64 a0_0) := (blk_cell BK148.out 0).trans rfl
            have hcz17_1 : wc.cell? ⟨gb148, 1, none⟩ = some (.slice A0_1 l0_1.length c0_1) := (blk_cell BK148.out 1).trans rfl
            have hcz17_2 : wc.cell? ⟨gb148, 2, none⟩ = some (.slice A0_2 l0_2.length c0_2) := (blk_cell BK148.out 2).trans rfl
            have hfz17_0 := blk_frozen BK148.out 0
            have hfz17_1 := blk_frozen BK148.out 1
            have hfz17_2 := blk_frozen BK148.out 2
            go_wp2_with (first | (go_at_call 49; (with_reducible refine (evermoreref23_Row.calls kj12 a0_0 _ _ l0_1 _ _ l0_2 a1 t154 _ ?side1 ?side2 ?side3 ?side4 A16.out).mono ?_); (case side1 => repeat (first | exact (Kd.C_below HR0_1.out HB.out) | (with_reducible refine Kd.C_alloc ?_ _) | (with_reducible refine Kd.C_drewN ?_ _) | (with_reducible refine Kd.C_drew ?_))); (case side2 => exact HC0_1.out); (case side3 => repeat (first | exact (Kd.C_below HR0_2.out HB.out) | (with_reducible refine Kd.C_alloc ?_ _) | (with_reducible refine Kd.C_drewN ?_ _) | (with_reducible refine Kd.C_drew ?_))); (case side4 => exact HC0_2.out); rintro e w18 ⟨v155, rfl, ho0, hb⟩; have n0_ := Aside0.mk (Kd.R_lower ho0 (below_size (by repeat (first | (with_reducible first | exact HB.out | apply below_alloc | apply pw_below_drewN | apply below_drew1 | refine below_set ?_ GE148.out) | exact HB.out)))); have n1_ := Aside0.mk (blk_below (g := gb148) (o := .cells #[.int .i64 a0_0, .slice A0_1 l0_1.length c0_1, .slice A0_2 l0_2.length c0_2] 47 (0, 0)) (by (with_reducible repeat (first | refine blk_drewN ?_ _ | refine blk_drew ?_ | refine blk_alloc ?_ _)); exact BK148.out) hb); have n2_ := Aside0.mk (below_step (by repeat (first | (with_reducible first | exact HB.out | apply below_alloc | apply pw_below_drewN | apply below_drew1 | refine below_set ?_ GE148.out) | exact HB.out)) hb); clear BK148; clear HB; have HO156 := n0_; have BK148 := n1_; have HB := n2_; clear n0_ n1_ n2_; (try clear hb); (try clear hb2); (try clear hk); (try clear hi); (try clear ho0)))
            repeat (go_quiet (first | (go_at_call 49; (with_reducible refine (evermoreref23_Row.calls kj12 a0_0 _ _ l0_1 _ _ l0_2 a1 t154 _ ?side1 ?side2 ?side3 ?side4 A16.out).mono ?_); (case side1 => repeat (first | exact (Kd.C_below HR0_1.out HB.out) | (with_reducible refine Kd.C_alloc ?_ _) | (with_reducible refine Kd.C_drewN ?_ _) | (with_reducible refine Kd.C_drew ?_))); (case side2 => exact HC0_1.out); (case side3 => repeat (first | exact (Kd.C_below HR0_2.out HB.out) | (with_reducible refine Kd.C_alloc ?_ _) | (with_reducible refine Kd.C_drewN ?_ _) | (with_reducible refine Kd.C_drew ?_))); (case side4 => exact HC0_2.out); rintro e w18 ⟨v155, rfl, ho0, hb⟩; have n0_ := Aside0.mk (Kd.R_lower ho0 (below_size (by repeat (first | (with_reducible first | exact HB.out | apply below_alloc | apply pw_below_drewN | apply below_drew1 | refine below_set ?_ GE148.out) | exact HB.out)))); have n1_ := Aside0.mk (blk_below (g := gb148) (o := .cells #[.int .i64 a0_0, .slice A0_1 l0_1.length c0_1, .slice A0_2 l0_2.length c0_2] 47 (0, 0)) (by (with_reducible repeat (first | refine blk_drewN ?_ _ | refine blk_drew ?_ | refine blk_alloc ?_ _)); exact BK148.out) hb); have n2_ := Aside0.mk (below_step (by repeat (first | (with_reducible first | exact HB.out | apply below_alloc | apply pw_below_drewN | apply below_drew1 | refine below_set ?_ GE148.out) | exact HB.out)) hb); clear BK148; clear HB; have HO156 := n0_; have BK148 := n1_; have HB := n2_; clear n0_ n1_ n2_; (try clear hb); (try clear hb2); (try clear hk); (try clear hi); (try clear ho0))); try go_wp2_with (first | (go_at_call 49; (with_reducible refine (evermoreref23_Row.calls kj12 a0_0 _ _ l0_1 _ _ l0_2 a1 t154 _ ?side1 ?side2 ?side3 ?side4 A16.out).mono ?_); (case side1 => repeat (first | exact (Kd.C_below HR0_1.out HB.out) | (with_reducible refine Kd.C_alloc ?_ _) | (with_reducible refine Kd.C_drewN ?_ _) | (with_reducible refine Kd.C_drew ?_))); (case side2 => exact HC0_1.out); (case side3 => repeat (first | exact (Kd.C_below HR0_2.out HB.out) | (with_reducible refine Kd.C_alloc ?_ _) | (with_reducible refine Kd.C_drewN ?_ _) | (with_reducible refine Kd.C_drew ?_))); (case side4 => exact HC0_2.out); rintro e w18 ⟨v155, rfl, ho0, hb⟩; have n0_ := Aside0.mk (Kd.R_lower ho0 (below_size (by repeat (first | (with_reducible first | exact HB.out | apply below_alloc | apply pw_below_drewN | apply below_drew1 | refine below_set ?_ GE148.out) | exact HB.out)))); have n1_ := Aside0.mk (blk_below (g := gb148) (o := .cells #[.int .i64 a0_0, .slice A0_1 l0_1.length c0_1, .slice A0_2 l0_2.length c0_2] 47 (0, 0)) (by (with_reducible repeat (first | refine blk_drewN ?_ _ | refine blk_drew ?_ | refine blk_alloc ?_ _)); exact BK148.out) hb); have n2_ := Aside0.mk (below_step (by repeat (first | (with_reducible first | exact HB.out | apply below_alloc | apply pw_below_drewN | apply below_drew1 | refine below_set ?_ GE148.out) | exact HB.out)) hb); clear BK148; clear HB; have HO156 := n0_; have BK148 := n1_; have HB := n2_; clear n0_ n1_ n2_; (try clear hb); (try clear hb2); (try clear hk); (try clear hi); (try clear ho0))))
            go_loopg [11] kj12 (fun kq v11 w' => ∃ (x11_3 : Int), v11 = .int .i64 x11_3 ∧ Aside0 (evermorelaw_SeqsSquares.l0 kq a1 t149 t150 t151 t152 t154 x11_3 = some r) ∧ Aside0 (kq ≤ kj12) ∧ Aside0 (Kd.R (Kd.int .i64) 3 w' w.heap.size (fun _ => True) v155 t154) ∧ Aside0 (w'.heap[gb148]? = some (.cells #[.int .i64 a0_0, (.slice A0_1 l0_1.length c0_1), (.slice A0_2 l0_2.length c0_2)] 47 (0, 0))) ∧ Aside0 (Below w.heap.size w w'))
            case atStart => exact ⟨(0), (by first | rfl | (simp; done) | (simp [*]; done)), H', ⟨Nat.le_refl _⟩, ⟨by (with_reducible repeat (first | apply Kd.R_alloc | apply Kd.R_drewN | apply Kd.R_drew)); exact HO156.out⟩, ⟨by (with_reducible repeat (first | refine blk_drewN ?_ _ | refine blk_drew ?_ | refine blk_alloc ?_ _)); exact BK148.out⟩, ⟨by repeat (first | (with_reducible first | exact HB.out | apply below_alloc | apply pw_below_drewN | apply below_drew1 | refine below_set ?_ GE148.out) | exact HB.out)⟩⟩
            case round =>
              clear H'
              try clear c1
              try clear p2
              try clear c11
              try clear c11b0
              try clear c11b1
              try clear c12
              try clear c12b0
              try clear c13
              try clear c14
              try clear c15
              try clear c15b0
              try clear c15b1
              try clear hcz17_0
              try clear hcz17_1
              try clear hcz17_2
              try clear hcz7_0
              try clear hcz7_1
              try clear hcz7_2
              try clear hcz9_0
              try clear hcz9_1
              try clear hcz9_2
              try clear hfz17_0
              try clear hfz17_1
              try clear hfz17_2
              try clear hfz7_0
              try clear hfz7_1
              try clear hfz7_2
              try clear hfz9_0
              try clear hfz9_1
              try clear hfz9_2
              try clear p2
              obtain ⟨x11_3, rfl, HA, HK3, HO_10, BK148, HB⟩ := hrel
              cases gk with
              | zero => exact absurd HA.out (by simp [evermorelaw_SeqsSquares.l0])
              | succ k3 =>
                have H := HA.out
                clear HA
                simp only [evermorelaw_SeqsSquares.l0] at H
                by_cases c19 : x11_3 < a1
                · rw [if_pos c19] at H
                  have c19b0 : decide (x11_3 < a1) = true := decide_eq_true c19
                  clear c19
                  have H' := Aside0.mk H
                  clear H
                  go_wp2
                  repeat (go_quiet (fail); try go_wp2)
                  go_loopg [12] k3 (fun kq v12 w' => ∃ (x12_4 : Int), v12 = .int .i64 x12_4 ∧ Aside0 (evermorelaw_SeqsSquares.l1 kq a1 t149 t150 t151 t152 t154 x11_3 x12_4 = some r) ∧ Aside0 (kq ≤ k3) ∧ Aside0 (Kd.R (Kd.int .i64) 3 w' w.heap.size (fun _ => True) v155 t154) ∧ Aside0 (w'.heap[gb148]? = some (.cells #[.int .i64 a0_0, (.slice A0_1 l0_1.length c0_1), (.slice A0_2 l0_2.length c0_2)] 47 (0, 0))) ∧ Aside0 (Below w.heap.size w w'))
                  case atStart => exact ⟨(1), (by first | rfl | (simp; done) | (simp [*]; done)), H', ⟨Nat.le_refl _⟩, ⟨by (with_reducible repeat (first | apply Kd.R_alloc | apply Kd.R_drewN | apply Kd.R_drew)); exact HO_10.out⟩, ⟨by (with_reducible repeat (first | refine blk_drewN ?_ _ | refine blk_drew ?_ | refine blk_alloc ?_ _)); exact BK148.out⟩, ⟨by repeat (first | (with_reducible first | exact HB.out | apply below_alloc | apply pw_below_drewN | apply below_drew1 | refine below_set ?_ GE148.out) | exact HB.out)⟩⟩
                  case round =>
                    clear H'
                    try clear c1
                    try clear p2
                    try clear c11
                    try clear c11b0
                    try clear c11b1
                    try clear c12
                    try clear c12b0
                    try clear c13
                    try clear c14
                    try clear c15
                    try clear c15b0
                    try clear c15b1
                    try clear c19
                    try clear c19b0
                    try clear hcz17_0
                    try clear hcz17_1
                    try clear hcz17_2
                    try clear hcz7_0
                    try clear hcz7_1
                    try clear hcz7_2
                    try clear hcz9_0
                    try clear hcz9_1
                    try clear hcz9_2
                    try clear hfz17_0
                    try clear hfz17_1
                    try clear hfz17_2
                    try clear hfz7_0
                    try clear hfz7_1
                    try clear hfz7_2
                    try clear hfz9_0
                    try clear hfz9_1
                    try clear hfz9_2
                    try clear p2
                    obtain ⟨x12_4, rfl, HA, HK4, HO_10, BK148, HB⟩ := hrel
                    cases gk with
                    | zero => exact absurd HA.out (by simp [evermorelaw_SeqsSquares.l1])
                    | succ k4 =>
                      have H := HA.out
                      clear HA
                      simp only [evermorelaw_SeqsSquares.l1] at H
                      by_cases c20 : (wrap64 (x11_3 + (wrap64 (2 * x12_4)))) ≤ a1
                      · rw [if_pos c20] at H
                        have c20b0 : decide ((wrap64 (x11_3 + (wrap64 (2 * x12_4)))) ≤ a1) = true := decide_eq_true c20
                        clear c20
                        by_cases c21 : 0 ≤ x11_3
                        · rw [if_pos c21] at H
                          have c21b0 := eq_true c21
                          have c21b1 : decide (0 ≤ x11_3) = true := decide_eq_true c21
                          clear c21
                          by_cases c22 : x11_3 ≤ (wrap64 (x11_3 + x12_4))
                          · rw [if_pos c22] at H
                            have c22b0 := eq_true c22
                            have c22b1 : decide (x11_3 ≤ (wrap64 (x11_3 + x12_4))) = true := decide_eq_true c22
                            by_cases c23 : (wrap64 (x11_3 + x12_4)) ≤ (t154.length : Int)
                            · rw [if_pos c23] at H
                              have c23b0 := eq_true c23
                              have c23b1 : decide ((wrap64 (x11_3 + x12_4)) ≤ (t154.length : Int)) = true := decide_eq_true c23
                              obtain ⟨y157, hy157⟩ : ∃ y_ : List Int, y_ = ((t154.take ((wrap64 (x11_3 + x12_4)) : Int).toNat).drop (x11_3 : Int).toNat) := ⟨_, rfl⟩
                              replace H : (if 0 ≤ (wrap64 (x11_3 + x12_4)) then (if (wrap64 (x11_3 + x12_4)) ≤ (wrap64 (x11_3 + (wrap64 (2 * x12_4)))) then (if (wrap64 (x11_3 + (wrap64 (2 * x12_4)))) ≤ (t154.length : Int) then ((evermoreref1_Words.f k4 y157 ((t154.take ((wrap64 (x11_3 + (wrap64 (2 * x12_4)))) : Int).toNat).drop ((wrap64 (x11_3 + x12_4)) : Int).toNat)).bind fun t165 => (if t165 = true then (if t152 = 0 then (if t151 = true then (if t149 = x11_3 then (some (t150 == x12_4)) else (some false)) else (some false)) else (some false)) else (evermorelaw_SeqsSquares.l1 k4 a1 t149 t150 t151 t152 t154 x11_3 (wrap64 (x12_4 + 1))))) else (none)) else (none)) else (none)) = some r := by first | (rw [hy157]; with_reducible exact H) | (have H2_ := (Option.bind_some _ _).symm.trans H; rw [hy157]; with_reducible exact H2_) | (have H2_ := (Option.bind_some _ _).symm.trans H; with_reducible exact H2_) | with_reducible exact H | (rw [hy157]; exact H) | exact H
                              have Ny157 := Aside0.mk hy157
                              clear hy157
                              obtain ⟨ji24, hji24⟩ : ∃ j_ : Int, (wrap64 (x11_3 + x12_4)) = j_ := ⟨_, rfl⟩
                              replace H : (if 0 ≤ (ji24) then (if (ji24) ≤ (wrap64 (x11_3 + (wrap64 (2 * x12_4)))) then (if (wrap64 (x11_3 + (wrap64 (2 * x12_4)))) ≤ (t154.length : Int) then ((evermoreref1_Words.f k4 y157 ((t154.take ((wrap64 (x11_3 + (wrap64 (2 * x12_4)))) : Int).toNat).drop ((ji24) : Int).toNat)).bind fun t165 => (if t165 = true then (if t152 = 0 then (if t151 = true then (if t149 = x11_3 then (some (t150 == x12_4)) else (some false)) else (some false)) else (some false)) else (evermorelaw_SeqsSquares.l1 k4 a1 t149 t150 t151 t152 t154 x11_3 (wrap64 (x12_4 + 1))))) else (none)) else (none)) else (none)) = some r := by first | (rw [hji24] at H; exact H) | (simp only [hji24] at H ⊢; exact H)
                              (try rw [hji24] at c22b0)
                              (try rw [hji24] at c22b1)
                              (try rw [hji24] at c22)
                              (try rw [hji24] at c23b0)
                              (try rw [hji24] at c23b1)
                              (try rw [hji24] at c23)
                              (try rw [hji24] at Ny157)
                              have hji24w : (IntKind.i64.wrap (x11_3 + x12_4)) = ji24 := (i64_w _).trans hji24
                              by_cases c25 : 0 ≤ (ji24)
                              · rw [if_pos c25] at H
                                have c25b0 := eq_true c25
                                have c25b1 : decide (0 ≤ (ji24)) = true := decide_eq_true c25
                                clear c25
                                by_cases c26 : (ji24) ≤ (wrap64 (x11_3 + (wrap64 (2 * x12_4))))
                                · rw [if_pos c26] at H
                                  have c26b0 := eq_true c26
                                  have c26b1 : decide ((ji24) ≤ (wrap64 (x11_3 + (wrap64 (2 * x12_4))))) = true := decide_eq_true c26
                                  by_cases c27 : (wrap64 (x11_3 + (wrap64 (2 * x12_4)))) ≤ (t154.length : Int)
                                  · rw [if_pos c27] at H
                                    have c27b0 := eq_true c27
                                    have c27b1 : decide ((wrap64 (x11_3 + (wrap64 (2 * x12_4)))) ≤ (t154.length : Int)) = true := decide_eq_true c27
                                    obtain ⟨y161, hy161⟩ : ∃ y_ : List Int, y_ = ((t154.take ((wrap64 (x11_3 + (wrap64 (2 * x12_4)))) : Int).toNat).drop ((ji24) : Int).toNat) := ⟨_, rfl⟩
                                    replace H : ((evermoreref1_Words.f k4 y157 y161).bind fun t165 => (if t165 = true then (if t152 = 0 then (if t151 = true then (if t149 = x11_3 then (some (t150 == x12_4)) else (some false)) else (some false)) else (some false)) else (evermorelaw_SeqsSquares.l1 k4 a1 t149 t150 t151 t152 t154 x11_3 (wrap64 (x12_4 + 1))))) = some r := by first | (rw [hy161]; with_reducible exact H) | (have H2_ := (Option.bind_some _ _).symm.trans H; rw [hy161]; with_reducible exact H2_) | (have H2_ := (Option.bind_some _ _).symm.trans H; with_reducible exact H2_) | with_reducible exact H | (rw [hy161]; exact H) | exact H
                                    have Ny161 := Aside0.mk hy161
                                    clear hy161
                                    replace H := Option.bind_eq_some_iff.mp H
                                    obtain ⟨t165, A280, H⟩ := H
                                    replace H : (if t165 = true then (if t152 = 0 then (if t151 = true then (if t149 = x11_3 then (some (t150 == x12_4)) else (some false)) else (some false)) else (some false)) else (evermorelaw_SeqsSquares.l1 k4 a1 t149 t150 t151 t152 t154 x11_3 (wrap64 (x12_4 + 1)))) = some r := H
                                    have A28 := Aside0.mk A280
                                    clear A280
                                    by_cases c29 : t165 = true
                                    · subst c29
                                      have H1 : (if t152 = 0 then (if t151 = true then (if t149 = x11_3 then (some (t150 == x12_4)) else (some false)) else (some false)) else (some false)) = some r := by rw [if_pos rfl] at H; exact H
                                      clear H
                                      have H := H1
                                      clear H1
                                      by_cases c30 : t152 = 0
                                      · rw [if_pos c30] at H
                                        have c30b0 : (t152 == 0) = true := beq_iff_eq.mpr c30
                                        have c30b1 : (t152 != 0) = false := bne_eq_false_iff_eq.mpr c30
                                        clear c30
                                        by_cases c31 : t151 = true
                                        · subst c31
                                          have H1 : (if t149 = x11_3 then (some (t150 == x12_4)) else (some false)) = some r := by rw [if_pos rfl] at H; exact H
                                          clear H
                                          have H := H1
                                          clear H1
                                          by_cases c32 : t149 = x11_3
                                          · rw [if_pos c32] at H
                                            have c32b0 : (t149 == x11_3) = true := beq_iff_eq.mpr c32
                                            have c32b1 : (t149 != x11_3) = false := bne_eq_false_iff_eq.mpr c32
                                            clear c32
                                            obtain rfl := Option.some.inj H
                                            obtain ⟨Ao34, co34, eo34⟩ := Kd.R_slice HO_10.out
                                            subst eo34
                                            have q33 : ((ji24) : Int) ≤ ((t154.length : Int) : Int) := of_decide_eq_true (by first | (with_reducible assumption) | assumption)
                                            obtain ⟨i033, hi033, _, hsz33, _⟩ := info_parts info3
                                            have hroom33 : t154.length ≤ co34 := (Kd.R_reads' HO_10.out).2.1
                                            have hC33 : Kd.C (Kd.int .i64) _ Ao34 t154.length t154 := (Kd.R_reads' HO_10.out).2.2
                                            have ql33 : (x11_3 : Int) ≤ ((ji24) : Int) := of_decide_eq_true (by first | (with_reducible assumption) | assumption)
                                            have q033 : (0 : Int) ≤ (x11_3 : Int) := of_decide_eq_true (by first | (with_reducible assumption) | assumption)
                                            have hcut33 := cut_mid (P := Try.prog) 26 3 .i64 .i64 Try.underlying26 hi033 1 hsz33 Ao34 t154.length co34 x11_3 (ji24) q033 ql33 q33 hroom33
                                            have hr33 := Kd.C_mid (lo := (x11_3 : Int).toNat) (hi := ((ji24) : Int).toNat) (c := co34) hC33 (by omega) (by omega) hroom33
                                            obtain ⟨A33, hA33⟩ : ∃ A1, A1 = (if co34 = (x11_3 : Int).toNat then Ao34 else (Ao34 : Option Addr).map (·.add ((x11_3 : Int).toNat * 1))) := ⟨_, rfl⟩
                                            obtain ⟨c33, hc33⟩ : ∃ c1, c1 = co34 - (x11_3 : Int).toNat := ⟨_, rfl⟩
                                            have hy33 : y157.length = ((ji24) : Int).toNat - (x11_3 : Int).toNat := (by rw [Ny157.out, List.length_drop, List.length_take] <;> omega)
                                            rw [show ((t154).take ((ji24) : Int).toNat).drop (x11_3 : Int).toNat = y157 from Ny157.out.symm] at hr33
                                            replace hr33 : Kd.C (Kd.int .i64) _ A33 y157.length y157 := (by rw [hA33]; exact hr33)
                                            rw [← hy33, ← hA33, ← hc33] at hcut33
                                            have HR160 := Aside0.mk hr33
                                            have HC160 := Aside0.mk (show y157.length ≤ c33 from by rw [hy33, hc33]; exact Nat.sub_le_sub_right (Nat.le_trans (by omega) hroom33) _)
                                            clear hr33 hC33 hroom33 hi033 hsz33 hc33
                                            have KY33 := Aside0.mk hy33
                                            have KA33 := Aside0.mk hA33
                                            clear hy33 hA33
                                            have KL33 := Aside0.mk (show ((ji24) : Int).toNat ≤ t154.length from by omega)
                                            have KM33 := Aside0.mk (show (x11_3 : Int).toNat ≤ ((ji24) : Int).toNat from by omega)
                                            replace q33 := eq_true q33
                                            have q35 : ((wrap64 (x11_3 + (wrap64 (2 * x12_4)))) : Int) ≤ ((t154.length : Int) : Int) := of_decide_eq_true (by first | (with_reducible assumption) | assumption)
                                            obtain ⟨i035, hi035, _, hsz35, _⟩ := info_parts info3
                                            have hroom35 : t154.length ≤ co34 := (Kd.R_reads' HO_10.out).2.1
                                            have hC35 : Kd.C (Kd.int .i64) _ Ao34 t154.length t154 := (Kd.R_reads' HO_10.out).2.2
                                            have ql35 : ((ji24) : Int) ≤ ((wrap64 (x11_3 + (wrap64 (2 * x12_4)))) : Int) := of_decide_eq_true (by first | (with_reducible assumption) | assumption)
                                            have q035 : (0 : Int) ≤ ((ji24) : Int) := of_decide_eq_true (by first | (with_reducible assumption) | assumption)
                                            have hcut35 := cut_mid (P := Try.prog) 26 3 .i64 .i64 Try.underlying26 hi035 1 hsz35 Ao34 t154.length co34 (ji24) (wrap64 (x11_3 + (wrap64 (2 * x12_4)))) q035 ql35 q35 hroom35
                                            have hr35 := Kd.C_mid (lo := ((ji24) : Int).toNat) (hi := ((wrap64 (x11_3 + (wrap64 (2 * x12_4)))) : Int).toNat) (c := co34) hC35 (by omega) (by omega) hroom35
                                            obtain ⟨A35, hA35⟩ : ∃ A1, A1 = (if co34 = ((ji24) : Int).toNat then Ao34 else (Ao34 : Option Addr).map (·.add (((ji24) : Int).toNat * 1))) := ⟨_, rfl⟩
                                            obtain ⟨c35, hc35⟩ : ∃ c1, c1 = co34 - ((ji24) : Int).toNat := ⟨_, rfl⟩
                                            have hy35 : y161.length = ((wrap64 (x11_3 + (wrap64 (2 * x12_4)))) : Int).toNat - ((ji24) : Int).toNat := (by rw [Ny161.out, List.length_drop, List.length_take] <;> omega)
                                            rw [show ((t154).take ((wrap64 (x11_3 + (wrap64 (2 * x12_4)))) : Int).toNat).drop ((ji24) : Int).toNat = y161 from Ny161.out.symm] at hr35
                                            replace hr35 : Kd.C (Kd.int .i64) _ A35 y161.length y161 := (by rw [hA35]; exact hr35)
                                            rw [← hy35, ← hA35, ← hc35] at hcut35
                                            have HR164 := Aside0.mk hr35
                                            have HC164 := Aside0.mk (show y161.length ≤ c35 from by rw [hy35, hc35]; exact Nat.sub_le_sub_right (Nat.le_trans (by omega) hroom35) _)
                                            clear hr35 hC35 hroom35 hi035 hsz35 hc35
                                            have KY35 := Aside0.mk hy35
                                            have KA35 := Aside0.mk hA35
                                            clear hy35 hA35
                                            have KL35 := Aside0.mk (show ((wrap64 (x11_3 + (wrap64 (2 * x12_4)))) : Int).toNat ≤ t154.length from by omega)
                                            have KM35 := Aside0.mk (show ((ji24) : Int).toNat ≤ ((wrap64 (x11_3 + (wrap64 (2 * x12_4)))) : Int).toNat from by omega)
                                            replace q35 := eq_true q35
                                            go_wp2_with (first | (go_at_call 16; (with_reducible refine (evermoreref1_Words.calls k4 _ _ y157 _ _ y161 true _ ?side1 ?side2 ?side3 ?side4 A28.out).mono ?_); (case side1 => repeat (first | exact (by repeat (first | (with_reducible exact HR160.out) | (with_reducible refine Kd.C_alloc ?_ _) | (with_reducible refine Kd.C_drewN ?_ _) | (with_reducible refine Kd.C_drew ?_) | exact HR160.out)) | (with_reducible refine Kd.C_alloc ?_ _) | (with_reducible refine Kd.C_drewN ?_ _) | (with_reducible refine Kd.C_drew ?_))); (case side2 => exact HC160.out); (case side3 => repeat (first | exact (by repeat (first | (with_reducible exact HR164.out) | (with_reducible refine Kd.C_alloc ?_ _) | (with_reducible refine Kd.C_drewN ?_ _) | (with_reducible refine Kd.C_drew ?_) | exact HR164.out)) | (with_reducible refine Kd.C_alloc ?_ _) | (with_reducible refine Kd.C_drewN ?_ _) | (with_reducible refine Kd.C_drew ?_))); (case side4 => exact HC164.out); rintro e w' ⟨rfl, ⟨nd, rfl⟩⟩; (try first | exact ⟨rfl, _, World.drewN_drewN _ _ _⟩ | exact ⟨rfl, _, Eq.trans (World.drewN_drewN _ _ _) (congrArg (World.drewN _) (Nat.add_assoc _ _ _))⟩)))
                                            repeat (go_quiet (first | (go_at_call 16; (with_reducible refine (evermoreref1_Words.calls k4 _ _ y157 _ _ y161 true _ ?side1 ?side2 ?side3 ?side4 A28.out).mono ?_); (case side1 => repeat (first | exact (by repeat (first | (with_reducible exact HR160.out) | (with_reducible refine Kd.C_alloc ?_ _) | (with_reducible refine Kd.C_drewN ?_ _) | (with_reducible refine Kd.C_drew ?_) | exact HR160.out)) | (with_reducible refine Kd.C_alloc ?_ _) | (with_reducible refine Kd.C_drewN ?_ _) | (with_reducible refine Kd.C_drew ?_))); (case side2 => exact HC160.out); (case side3 => repeat (first | exact (by repeat (first | (with_reducible exact HR164.out) | (with_reducible refine Kd.C_alloc ?_ _) | (with_reducible refine Kd.C_drewN ?_ _) | (with_reducible refine Kd.C_drew ?_) | exact HR164.out)) | (with_reducible refine Kd.C_alloc ?_ _) | (with_reducible refine Kd.C_drewN ?_ _) | (with_reducible refine Kd.C_drew ?_))); (case side4 => exact HC164.out); rintro e w' ⟨rfl, ⟨nd, rfl⟩⟩; (try first | exact ⟨rfl, _, World.drewN_drewN _ _ _⟩ | exact ⟨rfl, _, Eq.trans (World.drewN_drewN _ _ _) (congrArg (World.drewN _) (Nat.add_assoc _ _ _))⟩))); try go_wp2_with (first | (go_at_call 16; (with_reducible refine (evermoreref1_Words.calls k4 _ _ y157 _ _ y161 true _ ?side1 ?side2 ?side3 ?side4 A28.out).mono ?_); (case side1 => repeat (first | exact (by repeat (first | (with_reducible exact HR160.out) | (with_reducible refine Kd.C_alloc ?_ _) | (with_reducible refine Kd.C_drewN ?_ _) | (with_reducible refine Kd.C_drew ?_) | exact HR160.out)) | (with_reducible refine Kd.C_alloc ?_ _) | (with_reducible refine Kd.C_drewN ?_ _) | (with_reducible refine Kd.C_drew ?_))); (case side2 => exact HC160.out); (case side3 => repeat (first | exact (by repeat (first | (with_reducible exact HR164.out) | (with_reducible refine Kd.C_alloc ?_ _) | (with_reducible refine Kd.C_drewN ?_ _) | (with_reducible refine Kd.C_drew ?_) | exact HR164.out)) | (with_reducible refine Kd.C_alloc ?_ _) | (with_reducible refine Kd.C_drewN ?_ _) | (with_reducible refine Kd.C_drew ?_))); (case side4 => exact HC164.out); rintro e w' ⟨rfl, ⟨nd, rfl⟩⟩; (try first | exact ⟨rfl, _, World.drewN_drewN _ _ _⟩ | exact ⟨rfl, _, Eq.trans (World.drewN_drewN _ _ _) (congrArg (World.drewN _) (Nat.add_assoc _ _ _))⟩))))
                                            go_ret
                                            exact ⟨by first | rfl | (simp [errW_none, errW_some] <;> rfl) | (simp only [← hji24]; first | rfl | (simp [errW_none, errW_some] <;> rfl)) | (simp [*, errW_none, errW_some] <;> rfl), by repeat (first | (with_reducible first | exact HB.out | apply below_alloc | apply pw_below_drewN | apply below_drew1 | refine below_set ?_ GE148.out) | exact HB.out)⟩
                                          · rw [if_neg c32] at H
                                            have c32b0 : (t149 == x11_3) = false := beq_eq_false_iff_ne.mpr c32
                                            have c32b1 : (t149 != x11_3) = true := bne_iff_ne.mpr c32
                                            obtain rfl := Option.some.inj H
                                            obtain ⟨Ao37, co37, eo37⟩ := Kd.R_slice HO_10.out
                                            subst eo37
                                            have q36 : ((ji24) : Int) ≤ ((t154.length : Int) : Int) := of_decide_eq_true (by first | (with_reducible assumption) | assumption)
                                            obtain ⟨i036, hi036, _, hsz36, _⟩ := info_parts info3
                                            have hroom36 : t154.length ≤ co37 := (Kd.R_reads' HO_10.out).2.1
                                            have hC36 : Kd.C (Kd.int .i64) _ Ao37 t154.length t154 := (Kd.R_reads' HO_10.out).2.2
                                            have ql36 : (x11_3 : Int) ≤ ((ji24) : Int) := of_decide_eq_true (by first | (with_reducible assumption) | assumption)
                                            have q036 : (0 : Int) ≤ (x11_3 : Int) := of_decide_eq_true (by first | (with_reducible assumption) | assumption)
                                            have hcut36 := cut_mid (P := Try.prog) 26 3 .i64 .i64 Try.underlying26 hi036 1 hsz36 Ao37 t154.length co37 x11_3 (ji24) q036 ql36 q36 hroom36
                                            have hr36 := Kd.C_mid (lo := (x11_3 : Int).toNat) (hi := ((ji24) : Int).toNat) (c := co37) hC36 (by omega) (by omega) hroom36
                                            obtain ⟨A36, hA36⟩ : ∃ A1, A1 = (if co37 = (x11_3 : Int).toNat then Ao37 else (Ao37 : Option Addr).map (·.add ((x11_3 : Int).toNat * 1))) := ⟨_, rfl⟩
                                            obtain ⟨c36, hc36⟩ : ∃ c1, c1 = co37 - (x11_3 : Int).toNat := ⟨_, rfl⟩
                                            have hy36 : y157.length = ((ji24) : Int).toNat - (x11_3 : Int).toNat := (by rw [Ny157.out, List.length_drop, List.length_take] <;> omega)
                                            rw [show ((t154).take ((ji24) : Int).toNat).drop (x11_3 : Int).toNat = y157 from Ny157.out.symm] at hr36
                                            replace hr36 : Kd.C (Kd.int .i64) _ A36 y157.length y157 := (by rw [hA36]; exact hr36)
                                            rw [← hy36, ← hA36, ← hc36] at hcut36
                                            have HR160 := Aside0.mk hr36
                                            have HC160 := Aside0.mk (show y157.length ≤ c36 from by rw [hy36, hc36]; exact Nat.sub_le_sub_right (Nat.le_trans (by omega) hroom36) _)
                                            clear hr36 hC36 hroom36 hi036 hsz36 hc36
                                            have KY36 := Aside0.mk hy36
                                            have KA36 := Aside0.mk hA36
                                            clear hy36 hA36
                                            have KL36 := Aside0.mk (show ((ji24) : Int).toNat ≤ t154.length from by omega)
                                            have KM36 := Aside0.mk (show (x11_3 : Int).toNat ≤ ((ji24) : Int).toNat from by omega)
                                            replace q36 := eq_true q36
                                            have q38 : ((wrap64 (x11_3 + (wrap64 (2 * x12_4)))) : Int) ≤ ((t154.length : Int) : Int) := of_decide_eq_true (by first | (with_reducible assumption) | assumption)
                                            obtain ⟨i038, hi038, _, hsz38, _⟩ := info_parts info3
                                            have hroom38 : t154.length ≤ co37 := (Kd.R_reads' HO_10.out).2.1
                                            have hC38 : Kd.C (Kd.int .i64) _ Ao37 t154.length t154 := (Kd.R_reads' HO_10.out).2.2
                                            have ql38 : ((ji24) : Int) ≤ ((wrap64 (x11_3 + (wrap64 (2 * x12_4)))) : Int) := of_decide_eq_true (by first | (with_reducible assumption) | assumption)
                                            have q038 : (0 : Int) ≤ ((ji24) : Int) := of_decide_eq_true (by first | (with_reducible assumption) | assumption)
                                            have hcut38 := cut_mid (P := Try.prog) 26 3 .i64 .i64 Try.underlying26 hi038 1 hsz38 Ao37 t154.length co37 (ji24) (wrap64 (x11_3 + (wrap64 (2 * x12_4)))) q038 ql38 q38 hroom38
                                            have hr38 := Kd.C_mid (lo := ((ji24) : Int).toNat) (hi := ((wrap64 (x11_3 + (wrap64 (2 * x12_4)))) : Int).toNat) (c := co37) hC38 (by omega) (by omega) hroom38
                                            obtain ⟨A38, hA38⟩ : ∃ A1, A1 = (if co37 = ((ji24) : Int).toNat then Ao37 else (Ao37 : Option Addr).map (·.add (((ji24) : Int).toNat * 1))) := ⟨_, rfl⟩
                                            obtain ⟨c38, hc38⟩ : ∃ c1, c1 = co37 - ((ji24) : Int).toNat := ⟨_, rfl⟩
                                            have hy38 : y161.length = ((wrap64 (x11_3 + (wrap64 (2 * x12_4)))) : Int).toNat - ((ji24) : Int).toNat := (by rw [Ny161.out, List.length_drop, List.length_take] <;> omega)
                                            rw [show ((t154).take ((wrap64 (x11_3 + (wrap64 (2 * x12_4)))) : Int).toNat).drop ((ji24) : Int).toNat = y161 from Ny161.out.symm] at hr38
                                            replace hr38 : Kd.C (Kd.int .i64) _ A38 y161.length y161 := (by rw [hA38]; exact hr38)
                                            rw [← hy38, ← hA38, ← hc38] at hcut38
                                            have HR164 := Aside0.mk hr38
                                            have HC164 := Aside0.mk (show y161.length ≤ c38 from by rw [hy38, hc38]; exact Nat.sub_le_sub_right (Nat.le_trans (by omega) hroom38) _)
                                            clear hr38 hC38 hroom38 hi038 hsz38 hc38
                                            have KY38 := Aside0.mk hy38
                                            have KA38 := Aside0.mk hA38
                                            clear hy38 hA38
                                            have KL38 := Aside0.mk (show ((wrap64 (x11_3 + (wrap64 (2 * x12_4)))) : Int).toNat ≤ t154.length from by omega)
                                            have KM38 := Aside0.mk (show ((ji24) : Int).toNat ≤ ((wrap64 (x11_3 + (wrap64 (2 * x12_4)))) : Int).toNat from by omega)
                                            replace q38 := eq_true q38
                                            go_wp2_with (first | (go_at_call 16; (with_reducible refine (evermoreref1_Words.calls k4 _ _ y157 _ _ y161 true _ ?side1 ?side2 ?side3 ?side4 A28.out).mono ?_); (case side1 => repeat (first | exact (by repeat (first | (with_reducible exact HR160.out) | (with_reducible refine Kd.C_alloc ?_ _) | (with_reducible refine Kd.C_drewN ?_ _) | (with_reducible refine Kd.C_drew ?_) | exact HR160.out)) | (with_reducible refine Kd.C_alloc ?_ _) | (with_reducible refine Kd.C_drewN ?_ _) | (with_reducible refine Kd.C_drew ?_))); (case side2 => exact HC160.out); (case side3 => repeat (first | exact (by repeat (first | (with_reducible exact HR164.out) | (with_reducible refine Kd.C_alloc ?_ _) | (with_reducible refine Kd.C_drewN ?_ _) | (with_reducible refine Kd.C_drew ?_) | exact HR164.out)) | (with_reducible refine Kd.C_alloc ?_ _) | (with_reducible refine Kd.C_drewN ?_ _) | (with_reducible refine Kd.C_drew ?_))); (case side4 => exact HC164.out); rintro e w' ⟨rfl, ⟨nd, rfl⟩⟩; (try first | exact ⟨rfl, _, World.drewN_drewN _ _ _⟩ | exact ⟨rfl, _, Eq.trans (World.drewN_drewN _ _ _) (congrArg (World.drewN _) (Nat.add_assoc _ _ _))⟩)))
                                            repeat (go_quiet (first | (go_at_call 16; (with_reducible refine (evermoreref1_Words.calls k4 _ _ y157 _ _ y161 true _ ?side1 ?side2 ?side3 ?side4 A28.out).mono ?_); (case side1 => repeat (first | exact (by repeat (first | (with_reducible exact HR160.out) | (with_reducible refine Kd.C_alloc ?_ _) | (with_reducible refine Kd.C_drewN ?_ _) | (with_reducible refine Kd.C_drew ?_) | exact HR160.out)) | (with_reducible refine Kd.C_alloc ?_ _) | (with_reducible refine Kd.C_drewN ?_ _) | (with_reducible refine Kd.C_drew ?_))); (case side2 => exact HC160.out); (case side3 => repeat (first | exact (by repeat (first | (with_reducible exact HR164.out) | (with_reducible refine Kd.C_alloc ?_ _) | (with_reducible refine Kd.C_drewN ?_ _) | (with_reducible refine Kd.C_drew ?_) | exact HR164.out)) | (with_reducible refine Kd.C_alloc ?_ _) | (with_reducible refine Kd.C_drewN ?_ _) | (with_reducible refine Kd.C_drew ?_))); (case side4 => exact HC164.out); rintro e w' ⟨rfl, ⟨nd, rfl⟩⟩; (try first | exact ⟨rfl, _, World.drewN_drewN _ _ _⟩ | exact ⟨rfl, _, Eq.trans (World.drewN_drewN _ _ _) (congrArg (World.drewN _) (Nat.add_assoc _ _ _))⟩))); try go_wp2_with (first | (go_at_call 16; (with_reducible refine (evermoreref1_Words.calls k4 _ _ y157 _ _ y161 true _ ?side1 ?side2 ?side3 ?side4 A28.out).mono ?_); (case side1 => repeat (first | exact (by repeat (first | (with_reducible exact HR160.out) | (with_reducible refine Kd.C_alloc ?_ _) | (with_reducible refine Kd.C_drewN ?_ _) | (with_reducible refine Kd.C_drew ?_) | exact HR160.out)) | (with_reducible refine Kd.C_alloc ?_ _) | (with_reducible refine Kd.C_drewN ?_ _) | (with_reducible refine Kd.C_drew ?_))); (case side2 => exact HC160.out); (case side3 => repeat (first | exact (by repeat (first | (with_reducible exact HR164.out) | (with_reducible refine Kd.C_alloc ?_ _) | (with_reducible refine Kd.C_drewN ?_ _) | (with_reducible refine Kd.C_drew ?_) | exact HR164.out)) | (with_reducible refine Kd.C_alloc ?_ _) | (with_reducible refine Kd.C_drewN ?_ _) | (with_reducible refine Kd.C_drew ?_))); (case side4 => exact HC164.out); rintro e w' ⟨rfl, ⟨nd, rfl⟩⟩; (try first | exact ⟨rfl, _, World.drewN_drewN _ _ _⟩ | exact ⟨rfl, _, Eq.trans (World.drewN_drewN _ _ _) (congrArg (World.drewN _) (Nat.add_assoc _ _ _))⟩))))
                                            go_ret
                                            exact ⟨by first | rfl | (simp [errW_none, errW_some] <;> rfl) | (simp only [← hji24]; first | rfl | (simp [errW_none, errW_some] <;> rfl)) | (simp [*, errW_none, errW_some] <;> rfl), by repeat (first | (with_reducible first | exact HB.out | apply below_alloc | apply pw_below_drewN | apply below_drew1 | refine below_set ?_ GE148.out) | exact HB.out)⟩
                                        · replace c31 := Bool.eq_false_iff.mpr c31
                                          subst c31
                                          have H1 : (some false) = some r := by rw [if_neg (show ¬ (false = true) by decide)] at H; exact H
                                          clear H
                                          have H := H1
                                          clear H1
                                          obtain rfl := Option.some.inj H
                                          obtain ⟨Ao40, co40, eo40⟩ := Kd.R_slice HO_10.out
                                          subst eo40
                                          have q39 : ((ji24) : Int) ≤ ((t154.length : Int) : Int) := of_decide_eq_true (by first | (with_reducible assumption) | assumption)
                                          obtain ⟨i039, hi039, _, hsz39, _⟩ := info_parts info3
                                          have hroom39 : t154.length ≤ co40 := (Kd.R_reads' HO_10.out).2.1
                                          have hC39 : Kd.C (Kd.int .i64) _ Ao40 t154.length t154 := (Kd.R_reads' HO_10.out).2.2
                                          have ql39 : (x11_3 : Int) ≤ ((ji24) : Int) := of_decide_eq_true (by first | (with_reducible assumption) | assumption)
                                          have q039 : (0 : Int) ≤ (x11_3 : Int) := of_decide_eq_true (by first | (with_reducible assumption) | assumption)
                                          have hcut39 := cut_mid (P := Try.prog) 26 3 .i64 .i64 Try.underlying26 hi039 1 hsz39 Ao40 t154.length co40 x11_3 (ji24) q039 ql39 q39 hroom39
                                          have hr39 := Kd.C_mid (lo := (x11_3 : Int).toNat) (hi := ((ji24) : Int).toNat) (c := co40) hC39 (by omega) (by omega) hroom39
                                          obtain ⟨A39, hA39⟩ : ∃ A1, A1 = (if co40 = (x11_3 : Int).toNat then Ao40 else (Ao40 : Option Addr).map (·.add ((x11_3 : Int).toNat * 1))) := ⟨_, rfl⟩
                                          obtain ⟨c39, hc39⟩ : ∃ c1, c1 = co40 - (x11_3 : Int).toNat := ⟨_, rfl⟩
                                          have hy39 : y157.length = ((ji24) : Int).toNat - (x11_3 : Int).toNat := (by rw [Ny157.out, List.length_drop, List.length_take] <;> omega)
                                          rw [show ((t154).take ((ji24) : Int).toNat).drop (x11_3 : Int).toNat = y157 from Ny157.out.symm] at hr39
                                          replace hr39 : Kd.C (Kd.int .i64) _ A39 y157.length y157 := (by rw [hA39]; exact hr39)
                                          rw [← hy39, ← hA39, ← hc39] at hcut39
                                          have HR160 := Aside0.mk hr39
                                          have HC160 := Aside0.mk (show y157.length ≤ c39 from by rw [hy39, hc39]; exact Nat.sub_le_sub_right (Nat.le_trans (by omega) hroom39) _)
                                          clear hr39 hC39 hroom39 hi039 hsz39 hc39
                                          have KY39 := Aside0.mk hy39
                                          have KA39 := Aside0.mk hA39
                                          clear hy39 hA39
                                          have KL39 := Aside0.mk (show ((ji24) : Int).toNat ≤ t154.length from by omega)
                                          have KM39 := Aside0.mk (show (x11_3 : Int).toNat ≤ ((ji24) : Int).toNat from by omega)
                                          replace q39 := eq_true q39
                                          have q41 : ((wrap64 (x11_3 + (wrap64 (2 * x12_4)))) : Int) ≤ ((t154.length : Int) : Int) := of_decide_eq_true (by first | (with_reducible assumption) | assumption)
                                          obtain ⟨i041, hi041, _, hsz41, _⟩ := info_parts info3
                                          have hroom41 : t154.length ≤ co40 := (Kd.R_reads' HO_10.out).2.1
                                          have hC41 : Kd.C (Kd.int .i64) _ Ao40 t154.length t154 := (Kd.R_reads' HO_10.out).2.2
                                          have ql41 : ((ji24) : Int) ≤ ((wrap64 (x11_3 + (wrap64 (2 * x12_4)))) : Int) := of_decide_eq_true (by first | (with_reducible assumption) | assumption)
                                          have q041 : (0 : Int) ≤ ((ji24) : Int) := of_decide_eq_true (by first | (with_reducible assumption) | assumption)
                                          have hcut41 := cut_mid (P := Try.prog) 26 3 .i64 .i64 Try.underlying26 hi041 1 hsz41 Ao40 t154.length co40 (ji24) (wrap64 (x11_3 + (wrap64 (2 * x12_4)))) q041 ql41 q41 hroom41
                                          have hr41 := Kd.C_mid (lo := ((ji24) : Int).toNat) (hi := ((wrap64 (x11_3 + (wrap64 (2 * x12_4)))) : Int).toNat) (c := co40) hC41 (by omega) (by omega) hroom41
                                          obtain ⟨A41, hA41⟩ : ∃ A1, A1 = (if co40 = ((ji24) : Int).toNat then Ao40 else (Ao40 : Option Addr).map (·.add (((ji24) : Int).toNat * 1))) := ⟨_, rfl⟩
                                          obtain ⟨c41, hc41⟩ : ∃ c1, c1 = co40 - ((ji24) : Int).toNat := ⟨_, rfl⟩
                                          have hy41 : y161.length = ((wrap64 (x11_3 + (wrap64 (2 * x12_4)))) : Int).toNat - ((ji24) : Int).toNat := (by rw [Ny161.out, List.length_drop, List.length_take] <;> omega)
                                          rw [show ((t154).take ((wrap64 (x11_3 + (wrap64 (2 * x12_4)))) : Int).toNat).drop ((ji24) : Int).toNat = y161 from Ny161.out.symm] at hr41
                                          replace hr41 : Kd.C (Kd.int .i64) _ A41 y161.length y161 := (by rw [hA41]; exact hr41)
                                          rw [← hy41, ← hA41, ← hc41] at hcut41
                                          have HR164 := Aside0.mk hr41
                                          have HC164 := Aside0.mk (show y161.length ≤ c41 from by rw [hy41, hc41]; exact Nat.sub_le_sub_right (Nat.le_trans (by omega) hroom41) _)
                                          clear hr41 hC41 hroom41 hi041 hsz41 hc41
                                          have KY41 := Aside0.mk hy41
                                          have KA41 := Aside0.mk hA41
                                          clear hy41 hA41
                                          have KL41 := Aside0.mk (show ((wrap64 (x11_3 + (wrap64 (2 * x12_4)))) : Int).toNat ≤ t154.length from by omega)
                                          have KM41 := Aside0.mk (show ((ji24) : Int).toNat ≤ ((wrap64 (x11_3 + (wrap64 (2 * x12_4)))) : Int).toNat from by omega)
                                          replace q41 := eq_true q41
                                          go_wp2_with (first | (go_at_call 16; (with_reducible refine (evermoreref1_Words.calls k4 _ _ y157 _ _ y161 true _ ?side1 ?side2 ?side3 ?side4 A28.out).mono ?_); (case side1 => repeat (first | exact (by repeat (first | (with_reducible exact HR160.out) | (with_reducible refine Kd.C_alloc ?_ _) | (with_reducible refine Kd.C_drewN ?_ _) | (with_reducible refine Kd.C_drew ?_) | exact HR160.out)) | (with_reducible refine Kd.C_alloc ?_ _) | (with_reducible refine Kd.C_drewN ?_ _) | (with_reducible refine Kd.C_drew ?_))); (case side2 => exact HC160.out); (case side3 => repeat (first | exact (by repeat (first | (with_reducible exact HR164.out) | (with_reducible refine Kd.C_alloc ?_ _) | (with_reducible refine Kd.C_drewN ?_ _) | (with_reducible refine Kd.C_drew ?_) | exact HR164.out)) | (with_reducible refine Kd.C_alloc ?_ _) | (with_reducible refine Kd.C_drewN ?_ _) | (with_reducible refine Kd.C_drew ?_))); (case side4 => exact HC164.out); rintro e w' ⟨rfl, ⟨nd, rfl⟩⟩; (try first | exact ⟨rfl, _, World.drewN_drewN _ _ _⟩ | exact ⟨rfl, _, Eq.trans (World.drewN_drewN _ _ _) (congrArg (World.drewN _) (Nat.add_assoc _ _ _))⟩)))
                                          repeat (go_quiet (first | (go_at_call 16; (with_reducible refine (evermoreref1_Words.calls k4 _ _ y157 _ _ y161 true _ ?side1 ?side2 ?side3 ?side4 A28.out).mono ?_); (case side1 => repeat (first | exact (by repeat (first | (with_reducible exact HR160.out) | (with_reducible refine Kd.C_alloc ?_ _) | (with_reducible refine Kd.C_drewN ?_ _) | (with_reducible refine Kd.C_drew ?_) | exact HR160.out)) | (with_reducible refine Kd.C_alloc ?_ _) | (with_reducible refine Kd.C_drewN ?_ _) | (with_reducible refine Kd.C_drew ?_))); (case side2 => exact HC160.out); (case side3 => repeat (first | exact (by repeat (first | (with_reducible exact HR164.out) | (with_reducible refine Kd.C_alloc ?_ _) | (with_reducible refine Kd.C_drewN ?_ _) | (with_reducible refine Kd.C_drew ?_) | exact HR164.out)) | (with_reducible refine Kd.C_alloc ?_ _) | (with_reducible refine Kd.C_drewN ?_ _) | (with_reducible refine Kd.C_drew ?_))); (case side4 => exact HC164.out); rintro e w' ⟨rfl, ⟨nd, rfl⟩⟩; (try first | exact ⟨rfl, _, World.drewN_drewN _ _ _⟩ | exact ⟨rfl, _, Eq.trans (World.drewN_drewN _ _ _) (congrArg (World.drewN _) (Nat.add_assoc _ _ _))⟩))); try go_wp2_with (first | (go_at_call 16; (with_reducible refine (evermoreref1_Words.calls k4 _ _ y157 _ _ y161 true _ ?side1 ?side2 ?side3 ?side4 A28.out).mono ?_); (case side1 => repeat (first | exact (by repeat (first | (with_reducible exact HR160.out) | (with_reducible refine Kd.C_alloc ?_ _) | (with_reducible refine Kd.C_drewN ?_ _) | (with_reducible refine Kd.C_drew ?_) | exact HR160.out)) | (with_reducible refine Kd.C_alloc ?_ _) | (with_reducible refine Kd.C_drewN ?_ _) | (with_reducible refine Kd.C_drew ?_))); (case side2 => exact HC160.out); (case side3 => repeat (first | exact (by repeat (first | (with_reducible exact HR164.out) | (with_reducible refine Kd.C_alloc ?_ _) | (with_reducible refine Kd.C_drewN ?_ _) | (with_reducible refine Kd.C_drew ?_) | exact HR164.out)) | (with_reducible refine Kd.C_alloc ?_ _) | (with_reducible refine Kd.C_drewN ?_ _) | (with_reducible refine Kd.C_drew ?_))); (case side4 => exact HC164.out); rintro e w' ⟨rfl, ⟨nd, rfl⟩⟩; (try first | exact ⟨rfl, _, World.drewN_drewN _ _ _⟩ | exact ⟨rfl, _, Eq.trans (World.drewN_drewN _ _ _) (congrArg (World.drewN _) (Nat.add_assoc _ _ _))⟩))))
                                          go_ret
                                          exact ⟨by first | rfl | (simp [errW_none, errW_some] <;> rfl) | (simp only [← hji24]; first | rfl | (simp [errW_none, errW_some] <;> rfl)) | (simp [*, errW_none, errW_some] <;> rfl), by repeat (first | (with_reducible first | exact HB.out | apply below_alloc | apply pw_below_drewN | apply below_drew1 | refine below_set ?_ GE148.out) | exact HB.out)⟩
                                      · rw [if_neg c30] at H
                                        have c30b0 : (t152 == 0) = false := beq_eq_false_iff_ne.mpr c30
                                        have c30b1 : (t152 != 0) = true := bne_iff_ne.mpr c30
                                        obtain rfl := Option.some.inj H
                                        obtain ⟨Ao43, co43, eo43⟩ := Kd.R_slice HO_10.out
                                        subst eo43
                                        have q42 : ((ji24) : Int) ≤ ((t154.length : Int) : Int) := of_decide_eq_true (by first | (with_reducible assumption) | assumption)
                                        obtain ⟨i042, hi042, _, hsz42, _⟩ := info_parts info3
                                        have hroom42 : t154.length ≤ co43 := (Kd.R_reads' HO_10.out).2.1
                                        have hC42 : Kd.C (Kd.int .i64) _ Ao43 t154.length t154 := (Kd.R_reads' HO_10.out).2.2
                                        have ql42 : (x11_3 : Int) ≤ ((ji24) : Int) := of_decide_eq_true (by first | (with_reducible assumption) | assumption)
                                        have q042 : (0 : Int) ≤ (x11_3 : Int) := of_decide_eq_true (by first | (with_reducible assumption) | assumption)
                                        have hcut42 := cut_mid (P := Try.prog) 26 3 .i64 .i64 Try.underlying26 hi042 1 hsz42 Ao43 t154.length co43 x11_3 (ji24) q042 ql42 q42 hroom42
                                        have hr42 := Kd.C_mid (lo := (x11_3 : Int).toNat) (hi := ((ji24) : Int).toNat) (c := co43) hC42 (by omega) (by omega) hroom42
                                        obtain ⟨A42, hA42⟩ : ∃ A1, A1 = (if co43 = (x11_3 : Int).toNat then Ao43 else (Ao43 : Option Addr).map (·.add ((x11_3 : Int).toNat * 1))) := ⟨_, rfl⟩
                                        obtain ⟨c42, hc42⟩ : ∃ c1, c1 = co43 - (x11_3 : Int).toNat := ⟨_, rfl⟩
                                        have hy42 : y157.length = ((ji24) : Int).toNat - (x11_3 : Int).toNat := (by rw [Ny157.out, List.length_drop, List.length_take] <;> omega)
                                        rw [show ((t154).take ((ji24) : Int).toNat).drop (x11_3 : Int).toNat = y157 from Ny157.out.symm] at hr42
                                        replace hr42 : Kd.C (Kd.int .i64) _ A42 y157.length y157 := (by rw [hA42]; exact hr42)
                                        rw [← hy42, ← hA42, ← hc42] at hcut42
                                        have HR160 := Aside0.mk hr42
                                        have HC160 := Aside0.mk (show y157.length ≤ c42 from by rw [hy42, hc42]; exact Nat.sub_le_sub_right (Nat.le_trans (by omega) hroom42) _)
                                        clear hr42 hC42 hroom42 hi042 hsz42 hc42
                                        have KY42 := Aside0.mk hy42
                                        have KA42 := Aside0.mk hA42
                                        clear hy42 hA42
                                        have KL42 := Aside0.mk (show ((ji24) : Int).toNat ≤ t154.length from by omega)
                                        have KM42 := Aside0.mk (show (x11_3 : Int).toNat ≤ ((ji24) : Int).toNat from by omega)
                                        replace q42 := eq_true q42
                                        have q44 : ((wrap64 (x11_3 + (wrap64 (2 * x12_4)))) : Int) ≤ ((t154.length : Int) : Int) := of_decide_eq_true (by first | (with_reducible assumption) | assumption)
                                        obtain ⟨i044, hi044, _, hsz44, _⟩ := info_parts info3
                                        have hroom44 : t154.length ≤ co43 := (Kd.R_reads' HO_10.out).2.1
                                        have hC44 : Kd.C (Kd.int .i64) _ Ao43 t154.length t154 := (Kd.R_reads' HO_10.out).2.2
                                        have ql44 : ((ji24) : Int) ≤ ((wrap64 (x11_3 + (wrap64 (2 * x12_4)))) : Int) := of_decide_eq_true (by first | (with_reducible assumption) | assumption)
                                        have q044 : (0 : Int) ≤ ((ji24) : Int) := of_decide_eq_true (by first | (with_reducible assumption) | assumption)
                                        have hcut44 := cut_mid (P := Try.prog) 26 3 .i64 .i64 Try.underlying26 hi044 1 hsz44 Ao43 t154.length co43 (ji24) (wrap64 (x11_3 + (wrap64 (2 * x12_4)))) q044 ql44 q44 hroom44
                                        have hr44 := Kd.C_mid (lo := ((ji24) : Int).toNat) (hi := ((wrap64 (x11_3 + (wrap64 (2 * x12_4)))) : Int).toNat) (c := co43) hC44 (by omega) (by omega) hroom44
                                        obtain ⟨A44, hA44⟩ : ∃ A1, A1 = (if co43 = ((ji24) : Int).toNat then Ao43 else (Ao43 : Option Addr).map (·.add (((ji24) : Int).toNat * 1))) := ⟨_, rfl⟩
                                        obtain ⟨c44, hc44⟩ : ∃ c1, c1 = co43 - ((ji24) : Int).toNat := ⟨_, rfl⟩
                                        have hy44 : y161.length = ((wrap64 (x11_3 + (wrap64 (2 * x12_4)))) : Int).toNat - ((ji24) : Int).toNat := (by rw [Ny161.out, List.length_drop, List.length_take] <;> omega)
                                        rw [show ((t154).take ((wrap64 (x11_3 + (wrap64 (2 * x12_4)))) : Int).toNat).drop ((ji24) : Int).toNat = y161 from Ny161.out.symm] at hr44
                                        replace hr44 : Kd.C (Kd.int .i64) _ A44 y161.length y161 := (by rw [hA44]; exact hr44)
                                        rw [← hy44, ← hA44, ← hc44] at hcut44
                                        have HR164 := Aside0.mk hr44
                                        have HC164 := Aside0.mk (show y161.length ≤ c44 from by rw [hy44, hc44]; exact Nat.sub_le_sub_right (Nat.le_trans (by omega) hroom44) _)
                                        clear hr44 hC44 hroom44 hi044 hsz44 hc44
                                        have KY44 := Aside0.mk hy44
                                        have KA44 := Aside0.mk hA44
                                        clear hy44 hA44
                                        have KL44 := Aside0.mk (show ((wrap64 (x11_3 + (wrap64 (2 * x12_4)))) : Int).toNat ≤ t154.length from by omega)
                                        have KM44 := Aside0.mk (show ((ji24) : Int).toNat ≤ ((wrap64 (x11_3 + (wrap64 (2 * x12_4)))) : Int).toNat from by omega)
                                        replace q44 := eq_true q44
                                        go_wp2_with (first | (go_at_call 16; (with_reducible refine (evermoreref1_Words.calls k4 _ _ y157 _ _ y161 true _ ?side1 ?side2 ?side3 ?side4 A28.out).mono ?_); (case side1 => repeat (first | exact (by repeat (first | (with_reducible exact HR160.out) | (with_reducible refine Kd.C_alloc ?_ _) | (with_reducible refine Kd.C_drewN ?_ _) | (with_reducible refine Kd.C_drew ?_) | exact HR160.out)) | (with_reducible refine Kd.C_alloc ?_ _) | (with_reducible refine Kd.C_drewN ?_ _) | (with_reducible refine Kd.C_drew ?_))); (case side2 => exact HC160.out); (case side3 => repeat (first | exact (by repeat (first | (with_reducible exact HR164.out) | (with_reducible refine Kd.C_alloc ?_ _) | (with_reducible refine Kd.C_drewN ?_ _) | (with_reducible refine Kd.C_drew ?_) | exact HR164.out)) | (with_reducible refine Kd.C_alloc ?_ _) | (with_reducible refine Kd.C_drewN ?_ _) | (with_reducible refine Kd.C_drew ?_))); (case side4 => exact HC164.out); rintro e w' ⟨rfl, ⟨nd, rfl⟩⟩; (try first | exact ⟨rfl, _, World.drewN_drewN _ _ _⟩ | exact ⟨rfl, _, Eq.trans (World.drewN_drewN _ _ _) (congrArg (World.drewN _) (Nat.add_assoc _ _ _))⟩)))
                                        repeat (go_quiet (first | (go_at_call 16; (with_reducible refine (evermoreref1_Words.calls k4 _ _ y157 _ _ y161 true _ ?side1 ?side2 ?side3 ?side4 A28.out).mono ?_); (case side1 => repeat (first | exact (by repeat (first | (with_reducible exact HR160.out) | (with_reducible refine Kd.C_alloc ?_ _) | (with_reducible refine Kd.C_drewN ?_ _) | (with_reducible refine Kd.C_drew ?_) | exact HR160.out)) | (with_reducible refine Kd.C_alloc ?_ _) | (with_reducible refine Kd.C_drewN ?_ _) | (with_reducible refine Kd.C_drew ?_))); (case side2 => exact HC160.out); (case side3 => repeat (first | exact (by repeat (first | (with_reducible exact HR164.out) | (with_reducible refine Kd.C_alloc ?_ _) | (with_reducible refine Kd.C_drewN ?_ _) | (with_reducible refine Kd.C_drew ?_) | exact HR164.out)) | (with_reducible refine Kd.C_alloc ?_ _) | (with_reducible refine Kd.C_drewN ?_ _) | (with_reducible refine Kd.C_drew ?_))); (case side4 => exact HC164.out); rintro e w' ⟨rfl, ⟨nd, rfl⟩⟩; (try first | exact ⟨rfl, _, World.drewN_drewN _ _ _⟩ | exact ⟨rfl, _, Eq.trans (World.drewN_drewN _ _ _) (congrArg (World.drewN _) (Nat.add_assoc _ _ _))⟩))); try go_wp2_with (first | (go_at_call 16; (with_reducible refine (evermoreref1_Words.calls k4 _ _ y157 _ _ y161 true _ ?side1 ?side2 ?side3 ?side4 A28.out).mono ?_); (case side1 => repeat (first | exact (by repeat (first | (with_reducible exact HR160.out) | (with_reducible refine Kd.C_alloc ?_ _) | (with_reducible refine Kd.C_drewN ?_ _) | (with_reducible refine Kd.C_drew ?_) | exact HR160.out)) | (with_reducible refine Kd.C_alloc ?_ _) | (with_reducible refine Kd.C_drewN ?_ _) | (with_reducible refine Kd.C_drew ?_))); (case side2 => exact HC160.out); (case side3 => repeat (first | exact (by repeat (first | (with_reducible exact HR164.out) | (with_reducible refine Kd.C_alloc ?_ _) | (with_reducible refine Kd.C_drewN ?_ _) | (with_reducible refine Kd.C_drew ?_) | exact HR164.out)) | (with_reducible refine Kd.C_alloc ?_ _) | (with_reducible refine Kd.C_drewN ?_ _) | (with_reducible refine Kd.C_drew ?_))); (case side4 => exact HC164.out); rintro e w' ⟨rfl, ⟨nd, rfl⟩⟩; (try first | exact ⟨rfl, _, World.drewN_drewN _ _ _⟩ | exact ⟨rfl, _, Eq.trans (World.drewN_drewN _ _ _) (congrArg (World.drewN _) (Nat.add_assoc _ _ _))⟩))))
                                        go_ret
                                        exact ⟨by first | rfl | (simp [errW_none, errW_some] <;> rfl) | (simp only [← hji24]; first | rfl | (simp [errW_none, errW_some] <;> rfl)) | (simp [*, errW_none, errW_some] <;> rfl), by repeat (first | (with_reducible first | exact HB.out | apply below_alloc | apply pw_below_drewN | apply below_drew1 | refine below_set ?_ GE148.out) | exact HB.out)⟩
                                    · replace c29 := Bool.eq_false_iff.mpr c29
                                      subst c29
                                      have H1 : (evermorelaw_SeqsSquares.l1 k4 a1 t149 t150 t151 t152 t154 x11_3 (wrap64 (x12_4 + 1))) = some r := by rw [if_neg (show ¬ (false = true) by decide)] at H; exact H
                                      clear H
                                      have H := H1
                                      clear H1
                                      have H' := Aside0.mk H
                                      clear H
                                      obtain ⟨Ao46, co46, eo46⟩ := Kd.R_slice HO_10.out
                                      subst eo46
                                      have q45 : ((ji24) : Int) ≤ ((t154.length : Int) : Int) := of_decide_eq_true (by first | (with_reducible assumption) | assumption)
                                      obtain ⟨i045, hi045, _, hsz45, _⟩ := info_parts info3
                                      have hroom45 : t154.length ≤ co46 := (Kd.R_reads' HO_10.out).2.1
                                      have hC45 : Kd.C (Kd.int .i64) _ Ao46 t154.length t154 := (Kd.R_reads' HO_10.out).2.2
                                      have ql45 : (x11_3 : Int) ≤ ((ji24) : Int) := of_decide_eq_true (by first | (with_reducible assumption) | assumption)
                                      have q045 : (0 : Int) ≤ (x11_3 : Int) := of_decide_eq_true (by first | (with_reducible assumption) | assumption)
                                      have hcut45 := cut_mid (P := Try.prog) 26 3 .i64 .i64 Try.underlying26 hi045 1 hsz45 Ao46 t154.length co46 x11_3 (ji24) q045 ql45 q45 hroom45
                                      have hr45 := Kd.C_mid (lo := (x11_3 : Int).toNat) (hi := ((ji24) : Int).toNat) (c := co46) hC45 (by omega) (by omega) hroom45
                                      obtain ⟨A45, hA45⟩ : ∃ A1, A1 = (if co46 = (x11_3 : Int).toNat then Ao46 else (Ao46 : Option Addr).map (·.add ((x11_3 : Int).toNat * 1))) := ⟨_, rfl⟩
                                      obtain ⟨c45, hc45⟩ : ∃ c1, c1 = co46 - (x11_3 : Int).toNat := ⟨_, rfl⟩
                                      have hy45 : y157.length = ((ji24) : Int).toNat - (x11_3 : Int).toNat := (by rw [Ny157.out, List.length_drop, List.length_take] <;> omega)
                                      rw [show ((t154).take ((ji24) : Int).toNat).drop (x11_3 : Int).toNat = y157 from Ny157.out.symm] at hr45
                                      replace hr45 : Kd.C (Kd.int .i64) _ A45 y157.length y157 := (by rw [hA45]; exact hr45)
                                      rw [← hy45, ← hA45, ← hc45] at hcut45
                                      have HR160 := Aside0.mk hr45
                                      have HC160 := Aside0.mk (show y157.length ≤ c45 from by rw [hy45, hc45]; exact Nat.sub_le_sub_right (Nat.le_trans (by omega) hroom45) _)
                                      clear hr45 hC45 hroom45 hi045 hsz45 hc45
                                      have KY45 := Aside0.mk hy45
                                      have KA45 := Aside0.mk hA45
                                      clear hy45 hA45
                                      have KL45 := Aside0.mk (show ((ji24) : Int).toNat ≤ t154.length from by omega)
                                      have KM45 := Aside0.mk (show (x11_3 : Int).toNat ≤ ((ji24) : Int).toNat from by omega)
                                      replace q45 := eq_true q45
                                      have q47 : ((wrap64 (x11_3 + (wrap64 (2 * x12_4)))) : Int) ≤ ((t154.length : Int) : Int) := of_decide_eq_true (by first | (with_reducible assumption) | assumption)
                                      obtain ⟨i047, hi047, _, hsz47, _⟩ := info_parts info3
                                      have hroom47 : t154.length ≤ co46 := (Kd.R_reads' HO_10.out).2.1
                                      have hC47 : Kd.C (Kd.int .i64) _ Ao46 t154.length t154 := (Kd.R_reads' HO_10.out).2.2
                                      have ql47 : ((ji24) : Int) ≤ ((wrap64 (x11_3 + (wrap64 (2 * x12_4)))) : Int) := of_decide_eq_true (by first | (with_reducible assumption) | assumption)
                                      have q047 : (0 : Int) ≤ ((ji24) : Int) := of_decide_eq_true (by first | (with_reducible assumption) | assumption)
                                      have hcut47 := cut_mid (P := Try.prog) 26 3 .i64 .i64 Try.underlying26 hi047 1 hsz47 Ao46 t154.length co46 (ji24) (wrap64 (x11_3 + (wrap64 (2 * x12_4)))) q047 ql47 q47 hroom47
                                      have hr47 := Kd.C_mid (lo := ((ji24) : Int).toNat) (hi := ((wrap64 (x11_3 + (wrap64 (2 * x12_4)))) : Int).toNat) (c := co46) hC47 (by omega) (by omega) hroom47
                                      obtain ⟨A47, hA47⟩ : ∃ A1, A1 = (if co46 = ((ji24) : Int).toNat then Ao46 else (Ao46 : Option Addr).map (·.add (((ji24) : Int).toNat * 1))) := ⟨_, rfl⟩
                                      obtain ⟨c47, hc47⟩ : ∃ c1, c1 = co46 - ((ji24) : Int).toNat := ⟨_, rfl⟩
                                      have hy47 : y161.length = ((wrap64 (x11_3 + (wrap64 (2 * x12_4)))) : Int).toNat - ((ji24) : Int).toNat := (by rw [Ny161.out, List.length_drop, List.length_take] <;> omega)
                                      rw [show ((t154).take ((wrap64 (x11_3 + (wrap64 (2 * x12_4)))) : Int).toNat).drop ((ji24) : Int).toNat = y161 from Ny161.out.symm] at hr47
                                      replace hr47 : Kd.C (Kd.int .i64) _ A47 y161.length y161 := (by rw [hA47]; exact hr47)
                                      rw [← hy47, ← hA47, ← hc47] at hcut47
                                      have HR164 := Aside0.mk hr47
                                      have HC164 := Aside0.mk (show y161.length ≤ c47 from by rw [hy47, hc47]; exact Nat.sub_le_sub_right (Nat.le_trans (by omega) hroom47) _)
                                      clear hr47 hC47 hroom47 hi047 hsz47 hc47
                                      have KY47 := Aside0.mk hy47
                                      have KA47 := Aside0.mk hA47
                                      clear hy47 hA47
                                      have KL47 := Aside0.mk (show ((wrap64 (x11_3 + (wrap64 (2 * x12_4)))) : Int).toNat ≤ t154.length from by omega)
                                      have KM47 := Aside0.mk (show ((ji24) : Int).toNat ≤ ((wrap64 (x11_3 + (wrap64 (2 * x12_4)))) : Int).toNat from by omega)
                                      replace q47 := eq_true q47
                                      go_wp2_with (first | (go_at_call 16; (with_reducible refine (evermoreref1_Words.calls k4 _ _ y157 _ _ y161 false _ ?side1 ?side2 ?side3 ?side4 A28.out).mono ?_); (case side1 => repeat (first | exact (by repeat (first | (with_reducible exact HR160.out) | (with_reducible refine Kd.C_alloc ?_ _) | (with_reducible refine Kd.C_drewN ?_ _) | (with_reducible refine Kd.C_drew ?_) | exact HR160.out)) | (with_reducible refine Kd.C_alloc ?_ _) | (with_reducible refine Kd.C_drewN ?_ _) | (with_reducible refine Kd.C_drew ?_))); (case side2 => exact HC160.out); (case side3 => repeat (first | exact (by repeat (first | (with_reducible exact HR164.out) | (with_reducible refine Kd.C_alloc ?_ _) | (with_reducible refine Kd.C_drewN ?_ _) | (with_reducible refine Kd.C_drew ?_) | exact HR164.out)) | (with_reducible refine Kd.C_alloc ?_ _) | (with_reducible refine Kd.C_drewN ?_ _) | (with_reducible refine Kd.C_drew ?_))); (case side4 => exact HC164.out); rintro e w' ⟨rfl, ⟨nd, rfl⟩⟩; (try first | exact ⟨rfl, _, World.drewN_drewN _ _ _⟩ | exact ⟨rfl, _, Eq.trans (World.drewN_drewN _ _ _) (congrArg (World.drewN _) (Nat.add_assoc _ _ _))⟩)))
                                      repeat (go_quiet (first | (go_at_call 16; (with_reducible refine (evermoreref1_Words.calls k4 _ _ y157 _ _ y161 false _ ?side1 ?side2 ?side3 ?side4 A28.out).mono ?_); (case side1 => repeat (first | exact (by repeat (first | (with_reducible exact HR160.out) | (with_reducible refine Kd.C_alloc ?_ _) | (with_reducible refine Kd.C_drewN ?_ _) | (with_reducible refine Kd.C_drew ?_) | exact HR160.out)) | (with_reducible refine Kd.C_alloc ?_ _) | (with_reducible refine Kd.C_drewN ?_ _) | (with_reducible refine Kd.C_drew ?_))); (case side2 => exact HC160.out); (case side3 => repeat (first | exact (by repeat (first | (with_reducible exact HR164.out) | (with_reducible refine Kd.C_alloc ?_ _) | (with_reducible refine Kd.C_drewN ?_ _) | (with_reducible refine Kd.C_drew ?_) | exact HR164.out)) | (with_reducible refine Kd.C_alloc ?_ _) | (with_reducible refine Kd.C_drewN ?_ _) | (with_reducible refine Kd.C_drew ?_))); (case side4 => exact HC164.out); rintro e w' ⟨rfl, ⟨nd, rfl⟩⟩; (try first | exact ⟨rfl, _, World.drewN_drewN _ _ _⟩ | exact ⟨rfl, _, Eq.trans (World.drewN_drewN _ _ _) (congrArg (World.drewN _) (Nat.add_assoc _ _ _))⟩))); try go_wp2_with (first | (go_at_call 16; (with_reducible refine (evermoreref1_Words.calls k4 _ _ y157 _ _ y161 false _ ?side1 ?side2 ?side3 ?side4 A28.out).mono ?_); (case side1 => repeat (first | exact (by repeat (first | (with_reducible exact HR160.out) | (with_reducible refine Kd.C_alloc ?_ _) | (with_reducible refine Kd.C_drewN ?_ _) | (with_reducible refine Kd.C_drew ?_) | exact HR160.out)) | (with_reducible refine Kd.C_alloc ?_ _) | (with_reducible refine Kd.C_drewN ?_ _) | (with_reducible refine Kd.C_drew ?_))); (case side2 => exact HC160.out); (case side3 => repeat (first | exact (by repeat (first | (with_reducible exact HR164.out) | (with_reducible refine Kd.C_alloc ?_ _) | (with_reducible refine Kd.C_drewN ?_ _) | (with_reducible refine Kd.C_drew ?_) | exact HR164.out)) | (with_reducible refine Kd.C_alloc ?_ _) | (with_reducible refine Kd.C_drewN ?_ _) | (with_reducible refine Kd.C_drew ?_))); (case side4 => exact HC164.out); rintro e w' ⟨rfl, ⟨nd, rfl⟩⟩; (try first | exact ⟨rfl, _, World.drewN_drewN _ _ _⟩ | exact ⟨rfl, _, Eq.trans (World.drewN_drewN _ _ _) (congrArg (World.drewN _) (Nat.add_assoc _ _ _))⟩))))
                                      go_roundg k4
                                      case measure => have := HJ4.out; have := HJ12.out; have := HK3.out; have := HK4.out; omega
                                      case rel => exact ⟨(wrap64 (x12_4 + 1)), (by first | rfl | (simp; done) | (simp [*]; done)), H', ⟨by have := HJ4.out; have := HJ12.out; have := HK3.out; have := HK4.out; omega⟩, ⟨by (with_reducible repeat (first | apply Kd.R_alloc | apply Kd.R_drewN | apply Kd.R_drew)); exact HO_10.out⟩, ⟨by (with_reducible repeat (first | refine blk_drewN ?_ _ | refine blk_drew ?_ | refine blk_alloc ?_ _)); exact BK148.out⟩, ⟨by repeat (first | (with_reducible first | exact HB.out | apply below_alloc | apply pw_below_drewN | apply below_drew1 | refine below_set ?_ GE148.out) | exact HB.out)⟩⟩
                                  · rw [if_neg c27] at H
                                    exact absurd H (by simp)
                                · rw [if_neg c26] at H
                                  exact absurd H (by simp)
                              · rw [if_neg c25] at H
                                exact absurd H (by simp)
                            · rw [if_neg c23] at H
                              exact absurd H (by simp)
                          · rw [if_neg c22] at H
                            exact absurd H (by simp)
                        · rw [if_neg c21] at H
                          exact absurd H (by simp)
                      · rw [if_neg c20] at H
                        have c20b0 : decide ((wrap64 (x11_3 + (wrap64 (2 * x12_4)))) ≤ a1) = false := decide_eq_false c20
                        clear c20
                        have H' := Aside0.mk H
                        clear H
                        go_wp2
                        repeat (go_quiet (fail); try go_wp2)
                        go_roundg k4
                        case measure => have := HJ4.out; have := HJ12.out; have := HK3.out; have := HK4.out; omega
                        case rel => exact ⟨(wrap64 (x11_3 + 1)), (by first | rfl | (simp; done) | (simp [*]; done)), H', ⟨by have := HJ4.out; have := HJ12.out; have := HK3.out; have := HK4.out; omega⟩, ⟨by (with_reducible repeat (first | apply Kd.R_alloc | apply Kd.R_drewN | apply Kd.R_drew)); exact HO_10.out⟩, ⟨by (with_reducible repeat (first | refine blk_drewN ?_ _ | refine blk_drew ?_ | refine blk_alloc ?_ _)); exact BK148.out⟩, ⟨by repeat (first | (with_reducible first | exact HB.out | apply below_alloc | apply pw_below_drewN | apply below_drew1 | refine below_set ?_ GE148.out) | exact HB.out)⟩⟩
                · rw [if_neg c19] at H
                  have c19b0 : decide (x11_3 < a1) = false := decide_eq_false c19
                  clear c19
                  by_cases c48 : t152 = 0
                  · rw [if_pos c48] at H
                    have c48b0 : (t152 == 0) = true := beq_iff_eq.mpr c48
                    have c48b1 : (t152 != 0) = false := bne_eq_false_iff_eq.mpr c48
                    clear c48
                    by_cases c49 : t151 = true
                    · subst c49
                      have H1 : (some false) = some r := by rw [if_pos rfl] at H; exact H
                      clear H
                      have H := H1
                      clear H1
                      obtain rfl := Option.some.inj H
                      go_wp2
                      repeat (go_quiet (fail); try go_wp2)
                      go_ret
                      exact ⟨by first | rfl | (simp [errW_none, errW_some] <;> rfl) | (simp [*, errW_none, errW_some] <;> rfl), by repeat (first | (with_reducible first | exact HB.out | apply below_alloc | apply pw_below_drewN | apply below_drew1 | refine below_set ?_ GE148.out) | exact HB.out)⟩
                    · replace c49 := Bool.eq_false_iff.mpr c49
                      subst c49
                      have H1 : (if t149 = 0 then (some (t150 == 0)) else (some false)) = some r := by rw [if_neg (show ¬ (false = true) by decide)] at H; exact H
                      clear H
                      have H := H1
                      clear H1
                      by_cases c50 : t149 = 0
                      · rw [if_pos c50] at H
                        have c50b0 : (t149 == 0) = true := beq_iff_eq.mpr c50
                        have c50b1 : (t149 != 0) = false := bne_eq_false_iff_eq.mpr c50
                        clear c50
                        obtain rfl := Option.some.inj H
                        go_wp2
                        repeat (go_quiet (fail); try go_wp2)
                        go_ret
                        exact ⟨by first | rfl | (simp [errW_none, errW_some] <;> rfl) | (simp [*, errW_none, errW_some] <;> rfl), by repeat (first | (with_reducible first | exact HB.out | apply below_alloc | apply pw_below_drewN | apply below_drew1 | refine below_set ?_ GE148.out) | exact HB.out)⟩
                      · rw [if_neg c50] at H
                        have c50b0 : (t149 == 0) = false := beq_eq_false_iff_ne.mpr c50
                        have c50b1 : (t149 != 0) = true := bne_iff_ne.mpr c50
                        obtain rfl := Option.some.inj H
                        go_wp2
                        repeat (go_quiet (fail); try go_wp2)
                        go_ret
                        exact ⟨by first | rfl | (simp [errW_none, errW_some] <;> rfl) | (simp [*, errW_none, errW_some] <;> rfl), by repeat (first | (with_reducible first | exact HB.out | apply below_alloc | apply pw_below_drewN | apply below_drew1 | refine below_set ?_ GE148.out) | exact HB.out)⟩
                  · rw [if_neg c48] at H
                    have c48b0 : (t152 == 0) = false := beq_eq_false_iff_ne.mpr c48
                    have c48b1 : (t152 != 0) = true := bne_iff_ne.mpr c48
                    obtain rfl := Option.some.inj H
                    go_wp2
                    repeat (go_quiet (fail); try go_wp2)
                    go_ret
                    exact ⟨by first | rfl | (simp [errW_none, errW_some] <;> rfl) | (simp [*, errW_none, errW_some] <;> rfl), by repeat (first | (with_reducible first | exact HB.out | apply below_alloc | apply pw_below_drewN | apply below_drew1 | refine below_set ?_ GE148.out) | exact HB.out)⟩
          · rw [if_neg c15] at H
            have c15b0 : (x9_12 == 0) = false := beq_eq_false_iff_ne.mpr c15
            have c15b1 : (x9_12 != 0) = true := bne_iff_ne.mpr c15
            by_cases c51 : t152 = x9_12
            · rw [if_pos c51] at H
              have c51b0 : (t152 == x9_12) = true := beq_iff_eq.mpr c51
              have c51b1 : (t152 != x9_12) = false := bne_eq_false_iff_eq.mpr c51
              clear c51
              by_cases c52 : t151 = true
              · subst c52
                have H1 : (some false) = some r := by rw [if_pos rfl] at H; exact H
                clear H
                have H := H1
                clear H1
                obtain rfl := Option.some.inj H
                go_wp2
                repeat (go_quiet (fail); try go_wp2)
                go_ret
                exact ⟨by first | rfl | (simp [errW_none, errW_some] <;> rfl) | (simp [*, errW_none, errW_some] <;> rfl), by repeat (first | (with_reducible first | exact HB.out | apply below_alloc | apply pw_below_drewN | apply below_drew1 | refine below_set ?_ GE148.out) | exact HB.out)⟩
              · replace c52 := Bool.eq_false_iff.mpr c52
                subst c52
                have H1 : (if t149 = 0 then (some (t150 == 0)) else (some false)) = some r := by rw [if_neg (show ¬ (false = true) by decide)] at H; exact H
                clear H
                have H := H1
                clear H1
                by_cases c53 : t149 = 0
                · rw [if_pos c53] at H
                  have c53b0 : (t149 == 0) = true := beq_iff_eq.mpr c53
                  have c53b1 : (t149 != 0) = false := bne_eq_false_iff_eq.mpr c53
                  clear c53
                  obtain rfl := Option.some.inj H
                  go_wp2
                  repeat (go_quiet (fail); try go_wp2)
                  go_ret
                  exact ⟨by first | rfl | (simp [errW_none, errW_some] <;> rfl) | (simp [*, errW_none, errW_some] <;> rfl), by repeat (first | (with_reducible first | exact HB.out | apply below_alloc | apply pw_below_drewN | apply below_drew1 | refine below_set ?_ GE148.out) | exact HB.out)⟩
                · rw [if_neg c53] at H
                  have c53b0 : (t149 == 0) = false := beq_eq_false_iff_ne.mpr c53
                  have c53b1 : (t149 != 0) = true := bne_iff_ne.mpr c53
                  obtain rfl := Option.some.inj H
                  go_wp2
                  repeat (go_quiet (fail); try go_wp2)
                  go_ret
                  exact ⟨by first | rfl | (simp [errW_none, errW_some] <;> rfl) | (simp [*, errW_none, errW_some] <;> rfl), by repeat (first | (with_reducible first | exact HB.out | apply below_alloc | apply pw_below_drewN | apply below_drew1 | refine below_set ?_ GE148.out) | exact HB.out)⟩
            · rw [if_neg c51] at H
              have c51b0 : (t152 == x9_12) = false := beq_eq_false_iff_ne.mpr c51
              have c51b1 : (t152 != x9_12) = true := bne_iff_ne.mpr c51
              obtain rfl := Option.some.inj H
              go_wp2
              repeat (go_quiet (fail); try go_wp2)
              go_ret
              exact ⟨by first | rfl | (simp [errW_none, errW_some] <;> rfl) | (simp [*, errW_none, errW_some] <;> rfl), by repeat (first | (with_reducible first | exact HB.out | apply below_alloc | apply pw_below_drewN | apply below_drew1 | refine below_set ?_ GE148.out) | exact HB.out)⟩

end Go.Proofs.Ythbdmfhobienaaa.PSeqsSquares
