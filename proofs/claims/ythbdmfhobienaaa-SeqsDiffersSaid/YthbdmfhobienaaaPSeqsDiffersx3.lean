-- Printed over the kit's print by a program of this session (wip/hprint.py), with contracts of its own hand.
import Derived.Test.YthbdmfhobienaaaVSeqsDiffersMap
import Derived.Test.YthbdmfhobienaaaPSeqsDiffersx0
import Derived.Test.YthbdmfhobienaaaPSeqsDiffersx2
namespace Go.Proofs.Ythbdmfhobienaaa.PSeqsDiffers
open Go.RowKit Go.Proofs.YthbdmfhobienaaaW.PrintWords Go.Proofs.YthbdmfhobienaaaW.PrintLast Go.Proofs.YthbdmfhobienaaaW.PrintMore Go.Proofs.YthbdmfhobienaaaW.PrintMap
attribute [local go_sem] max2_int min2_int max_two min_two max_three min_three max_four min_four   -- for this text's walks alone
set_option linter.unusedVariables false
set_option linter.unusedSimpArgs false

/-! ### seqs_Differ: function 34 -/
mutual
def seqs_Differ.l0 : Nat → List (S47) → Int → Int → Int → List (List Int) → List Int → Int → List (List Int) → List Int → Option (Int × Bool × Int)
 | 0, _, _, _, _, _, _, _, _, _ => none
 | k + 1, x18, x19, x20, x119000, x119001, x119002, x120000, x120001, x120002 => if x20 < x19 then (if 0 ≤ x20 then (if x20 < (x18.length : Int) then ((seqs_Check.f ((rd_T47 x18 x20).f0) ((rd_T47 x18 x20).f1) ((rd_T47 x18 x20).f2)).bind fun t125 => (if t125 = 0 then (seqs_Differ.l0 k x18 x19 (wrap64 (x20 + 1)) x119000 x119001 x119002 x120000 x120001 x120002) else (some (0, false, t125)))) else (none)) else (none)) else (if x119000 = x120000 then (seqs_Differ.l1 k (([(⟨0, 0, 0⟩ : S97)] : List (S97))) x119000 x119001 x119002 x120000 x120001 x120002 (mput ([] : List ((Int × Int) × Int)) (0, 0) 1)) else (some (0, false, 3)))
def seqs_Differ.l1 : Nat → List (S97) → Int → List (List Int) → List Int → Int → List (List Int) → List Int → List ((Int × Int) × Int) → Option (Int × Bool × Int)
 | 0, _, _, _, _, _, _, _, _ => none
 | k + 1, x11, x119000, x119001, x119002, x120000, x120001, x120002, x127000 => if (x11.length : Int) > 0 then (if 0 < (x11.length : Int) then (if 0 ≤ ((rd_T97 x11 0).f0) then (if ((rd_T97 x11 0).f0) < (x119002.length : Int) then (if 0 ≤ ((rd_T97 x11 0).f1) then (if ((rd_T97 x11 0).f1) < (x120002.length : Int) then (if (rd x119002 ((rd_T97 x11 0).f0)) = (rd x120002 ((rd_T97 x11 0).f1)) then (seqs_Differ.l2 k x11 x119000 0 x119000 x119001 x119002 x120000 x120001 x120002 x127000 ((rd_T97 x11 0).f0) ((rd_T97 x11 0).f1) ((rd_T97 x11 0).f2)) else (some ((rd_T97 x11 0).f2, true, 0))) else (none)) else (none)) else (none)) else (none)) else (none)) else (some (0, false, 0))
def seqs_Differ.l2 : Nat → List (S97) → Int → Int → Int → List (List Int) → List Int → Int → List (List Int) → List Int → List ((Int × Int) × Int) → Int → Int → Int → Option (Int × Bool × Int)
 | 0, _, _, _, _, _, _, _, _, _, _, _, _, _ => none
 | k + 1, x11, x64, x65, x119000, x119001, x119002, x120000, x120001, x120002, x127000, x133000, x133001, x133002 => if x65 < x64 then (if 0 ≤ x133000 then (if x133000 < (x119001.length : Int) then (if 0 ≤ x65 then (if x65 < ((rd_L1 x119001 x133000).length : Int) then (if 0 ≤ x133001 then (if x133001 < (x120001.length : Int) then (if x65 < ((rd_L1 x120001 x133001).length : Int) then (if (mget x127000 (rd (rd_L1 x119001 x133000) x65, rd (rd_L1 x120001 x133001) x65) 0) = 0 then (if x11.length < 5864062014805 then (seqs_Differ.l2 k (x11 ++ [(⟨rd (rd_L1 x119001 x133000) x65, rd (rd_L1 x120001 x133001) x65, wrap64 ((wrap64 (x133002 * x119000)) + x65)⟩ : S97)]) x64 (wrap64 (x65 + 1)) x119000 x119001 x119002 x120000 x120001 x120002 (mput x127000 (rd (rd_L1 x119001 x133000) x65, rd (rd_L1 x120001 x133001) x65) 1) x133000 x133001 x133002) else (none)) else (seqs_Differ.l2 k x11 x64 (wrap64 (x65 + 1)) x119000 x119001 x119002 x120000 x120001 x120002 x127000 x133000 x133001 x133002)) else (none)) else (none)) else (none)) else (none)) else (none)) else (none)) else (none)) else (if 1 ≤ (x11.length : Int) then (seqs_Differ.l1 k (x11.drop (1 : Int).toNat) x119000 x119001 x119002 x120000 x120001 x120002 x127000) else (none))
end
def seqs_Differ.f (k : Nat) (a0_0 : Int) (l0_1 : List (List Int)) (l0_2 : List Int) (a1_0 : Int) (l1_1 : List (List Int)) (l1_2 : List Int) : Option (Int × Bool × Int) := (some (([(⟨a0_0, l0_1, l0_2⟩ : S47), (⟨a1_0, l1_1, l1_2⟩ : S47)] : List (S47)) : List (S47))).bind fun y120 => (seqs_Differ.l0 k y120 (y120.length : Int) 0 a0_0 l0_1 l0_2 a1_0 l1_1 l1_2)
theorem seqs_Differ.mono_l : ∀ k, (∀ y0 y1 y2 y3 y4 y5 y6 y7 y8, LeO (seqs_Differ.l0 k y0 y1 y2 y3 y4 y5 y6 y7 y8) (seqs_Differ.l0 (k + 1) y0 y1 y2 y3 y4 y5 y6 y7 y8)) ∧ (∀ y0 y1 y2 y3 y4 y5 y6 y7, LeO (seqs_Differ.l1 k y0 y1 y2 y3 y4 y5 y6 y7) (seqs_Differ.l1 (k + 1) y0 y1 y2 y3 y4 y5 y6 y7)) ∧ (∀ y0 y1 y2 y3 y4 y5 y6 y7 y8 y9 y10 y11 y12, LeO (seqs_Differ.l2 k y0 y1 y2 y3 y4 y5 y6 y7 y8 y9 y10 y11 y12) (seqs_Differ.l2 (k + 1) y0 y1 y2 y3 y4 y5 y6 y7 y8 y9 y10 y11 y12))
 | 0 => ⟨fun _ _ _ _ _ _ _ _ _ r h => by simp [seqs_Differ.l0] at h, fun _ _ _ _ _ _ _ _ r h => by simp [seqs_Differ.l1] at h, fun _ _ _ _ _ _ _ _ _ _ _ _ _ r h => by simp [seqs_Differ.l2] at h⟩
 | k + 1 => by
  obtain ⟨ih0, ih1, ih2⟩ := seqs_Differ.mono_l k
  refine ⟨?_, ?_, ?_⟩
  ·intro y0 y1 y2 y3 y4 y5 y6 y7 y8
   unfold seqs_Differ.l0
   repeat' first
   | (with_reducible exact ih0 _ _ _ _ _ _ _ _ _)
   | (with_reducible exact ih1 _ _ _ _ _ _ _ _)
   | (with_reducible exact ih2 _ _ _ _ _ _ _ _ _ _ _ _ _)
   | (with_reducible exact LeO.refl _)
   | (with_reducible exact LeO.none _)
   | (with_reducible refine LeO.ite ?_ ?_)
   | (with_reducible refine LeO.bind ?_ (fun _ => ?_))
   | exact ih0 _ _ _ _ _ _ _ _ _
   | exact ih1 _ _ _ _ _ _ _ _
   | exact ih2 _ _ _ _ _ _ _ _ _ _ _ _ _
   | exact LeO.none _
   | refine LeO.ite ?_ ?_
   | refine LeO.bind ?_ (fun _ => ?_)
  ·intro y0 y1 y2 y3 y4 y5 y6 y7
   unfold seqs_Differ.l1
   repeat' first
   | (with_reducible exact ih0 _ _ _ _ _ _ _ _ _)
   | (with_reducible exact ih1 _ _ _ _ _ _ _ _)
   | (with_reducible exact ih2 _ _ _ _ _ _ _ _ _ _ _ _ _)
   | (with_reducible exact LeO.refl _)
   | (with_reducible exact LeO.none _)
   | (with_reducible refine LeO.ite ?_ ?_)
   | (with_reducible refine LeO.bind ?_ (fun _ => ?_))
   | exact ih0 _ _ _ _ _ _ _ _ _
   | exact ih1 _ _ _ _ _ _ _ _
   | exact ih2 _ _ _ _ _ _ _ _ _ _ _ _ _
   | exact LeO.none _
   | refine LeO.ite ?_ ?_
   | refine LeO.bind ?_ (fun _ => ?_)
  ·intro y0 y1 y2 y3 y4 y5 y6 y7 y8 y9 y10 y11 y12
   unfold seqs_Differ.l2
   repeat' first
   | (with_reducible exact ih0 _ _ _ _ _ _ _ _ _)
   | (with_reducible exact ih1 _ _ _ _ _ _ _ _)
   | (with_reducible exact ih2 _ _ _ _ _ _ _ _ _ _ _ _ _)
   | (with_reducible exact LeO.refl _)
   | (with_reducible exact LeO.none _)
   | (with_reducible refine LeO.ite ?_ ?_)
   | (with_reducible refine LeO.bind ?_ (fun _ => ?_))
   | exact ih0 _ _ _ _ _ _ _ _ _
   | exact ih1 _ _ _ _ _ _ _ _
   | exact ih2 _ _ _ _ _ _ _ _ _ _ _ _ _
   | exact LeO.none _
   | refine LeO.ite ?_ ?_
   | refine LeO.bind ?_ (fun _ => ?_)
theorem seqs_Differ.mono : ∀ a0 a1 a2 a3 a4 a5 k, LeO (seqs_Differ.f k a0 a1 a2 a3 a4 a5) (seqs_Differ.f (k + 1) a0 a1 a2 a3 a4 a5) := by
 intro a0 a1 a2 a3 a4 a5 k
 obtain ⟨ih0, ih1, ih2⟩ := seqs_Differ.mono_l k
 unfold seqs_Differ.f
 repeat' first
   | (with_reducible exact ih0 _ _ _ _ _ _ _ _ _)
   | (with_reducible exact ih1 _ _ _ _ _ _ _ _)
   | (with_reducible exact ih2 _ _ _ _ _ _ _ _ _ _ _ _ _)
   | (with_reducible exact LeO.refl _)
   | (with_reducible exact LeO.none _)
   | (with_reducible refine LeO.ite ?_ ?_)
   | (with_reducible refine LeO.bind ?_ (fun _ => ?_))
   | exact ih0 _ _ _ _ _ _ _ _ _
   | exact ih1 _ _ _ _ _ _ _ _
   | exact ih2 _ _ _ _ _ _ _ _ _ _ _ _ _
   | exact LeO.none _
   | refine LeO.ite ?_ ?_
   | refine LeO.bind ?_ (fun _ => ?_)
set_option maxHeartbeats 8000000 in
set_option maxRecDepth 100000 in
theorem seqs_Differ.calls (k : Nat) (a0_0 : Int) (P0_1_ : Nat → Prop) (A0_1 : Option Addr) (c0_1 : Nat) (l0_1 : List (List Int)) (P0_2_ : Nat → Prop) (A0_2 : Option Addr) (c0_2 : Nat) (l0_2 : List Int) (a1_0 : Int) (P1_1_ : Nat → Prop) (A1_1 : Option Addr) (c1_1 : Nat) (l1_1 : List (List Int)) (P1_2_ : Nat → Prop) (A1_2 : Option Addr) (c1_2 : Nat) (l1_2 : List Int) (r1 : Int) (r2 : Bool) (r3 : Int) (w : World) (hs0_1 : Kd.V (Kd.slice 3 (Kd.int .i64)) 26 w w.heap.size (fun k_ => P0_1_ k_) (.slice A0_1 l0_1.length c0_1) l0_1) (hs0_2 : Kd.V (Kd.int .i64) 3 w w.heap.size (fun k_ => P0_2_ k_) (.slice A0_2 l0_2.length c0_2) l0_2) (hs1_1 : Kd.V (Kd.slice 3 (Kd.int .i64)) 26 w w.heap.size (fun k_ => P1_1_ k_) (.slice A1_1 l1_1.length c1_1) l1_1) (hs1_2 : Kd.V (Kd.int .i64) 3 w w.heap.size (fun k_ => P1_2_ k_) (.slice A1_2 l1_2.length c1_2) l1_2) (h : seqs_Differ.f k a0_0 l0_1 l0_2 a1_0 l1_1 l1_2 = some (r1, r2, r3)) :
  Calls Try.prog 34 #[.agg #[.int .i64 a0_0, .slice A0_1 l0_1.length c0_1, .slice A0_2 l0_2.length c0_2], .agg #[.int .i64 a1_0, .slice A1_1 l1_1.length c1_1, .slice A1_2 l1_2.length c1_2]] w fun e w' => e = .returned (.tuple #[.int .i64 r1, .bool r2, .int .i64 r3]) ∧ Below w.heap.size w w' := by
 have hu47 := Try.underlying47
 have hu87 := Try.underlying87
 have hu97 := Try.underlying97
 have HO0_1 := Aside0.mk (show Kd.V (Kd.slice 3 (Kd.int .i64)) 26 w w.heap.size (fun k_ => ((P0_1_ k_ ∨ P0_2_ k_ ∨ P1_1_ k_ ∨ P1_2_ k_) ∨ w.heap.size ≤ k_)) (.slice A0_1 l0_1.length c0_1) l0_1 from Kd.V_mono hs0_1 (fun k_ hk => .inl (.inl hk)))
 have HO0_2 := Aside0.mk (show Kd.V (Kd.int .i64) 3 w w.heap.size (fun k_ => ((P0_1_ k_ ∨ P0_2_ k_ ∨ P1_1_ k_ ∨ P1_2_ k_) ∨ w.heap.size ≤ k_)) (.slice A0_2 l0_2.length c0_2) l0_2 from Kd.V_mono hs0_2 (fun k_ hk => .inl (.inr (.inl hk))))
 have HO1_1 := Aside0.mk (show Kd.V (Kd.slice 3 (Kd.int .i64)) 26 w w.heap.size (fun k_ => ((P0_1_ k_ ∨ P0_2_ k_ ∨ P1_1_ k_ ∨ P1_2_ k_) ∨ w.heap.size ≤ k_)) (.slice A1_1 l1_1.length c1_1) l1_1 from Kd.V_mono hs1_1 (fun k_ hk => .inl (.inr (.inr (.inl hk)))))
 have HO1_2 := Aside0.mk (show Kd.V (Kd.int .i64) 3 w w.heap.size (fun k_ => ((P0_1_ k_ ∨ P0_2_ k_ ∨ P1_1_ k_ ∨ P1_2_ k_) ∨ w.heap.size ≤ k_)) (.slice A1_2 l1_2.length c1_2) l1_2 from Kd.V_mono hs1_2 (fun k_ hk => .inl (.inr (.inr (.inr hk)))))
 have HB := Aside0.mk (Below.refl w.heap.size w)
 have H : ((some (([(⟨a0_0, l0_1, l0_2⟩ : S47), (⟨a1_0, l1_1, l1_2⟩ : S47)] : List (S47)) : List (S47))).bind fun y120 => (seqs_Differ.l0 k y120 (y120.length : Int) 0 a0_0 l0_1 l0_2 a1_0 l1_1 l1_2)) = some (r1, r2, r3) := h
 clear h
 obtain ⟨y120, hy120⟩ : ∃ y_ : List (S47), y_ = (([(⟨a0_0, l0_1, l0_2⟩ : S47), (⟨a1_0, l1_1, l1_2⟩ : S47)] : List (S47))) := ⟨_, rfl⟩
 replace H : (seqs_Differ.l0 k y120 (y120.length : Int) 0 a0_0 l0_1 l0_2 a1_0 l1_1 l1_2) = some (r1, r2, r3) := by first | (rw [hy120]; with_reducible exact H) | (have H2_ := (Option.bind_some _ _).symm.trans H; rw [hy120]; with_reducible exact H2_) | (have H2_ := (Option.bind_some _ _).symm.trans H; with_reducible exact H2_) | with_reducible exact H | (rw [hy120]; exact H) | exact H
 have Ny120 := Aside0.mk hy120
 clear hy120
 have H' := Aside0.mk H
 clear H
 go_enter Try.func34, Try.ntmps34
 iterate 4 ((try go_quiet (fail)); try go_wp2_with (first | ((with_reducible refine gate_dst (N := 2) rfl ?_); refine box_event ?hg (N := 2) ?hd (cs := #[.int .i64 a0_0, .slice A0_1 l0_1.length c0_1, .slice A0_2 l0_2.length c0_2]) (t := 47) ?hr ?_; (case hd => rfl); (case hg => rfl); (case hr => first | (go_simp; done) | (go_simp; rfl)); intro gb118 hg w3 hbox hb; have n0_ := Aside0.mk (Kd.V_below (Kd.V_elderB (by (with_reducible repeat (first | apply Kd.V_alloc | apply Kd.V_drewN | apply Kd.V_drew)); exact HO0_1.out) gb118 (Nat.le_of_eq hg.symm)) hb); have n1_ := Aside0.mk (Kd.V_below (Kd.V_elderB (by (with_reducible repeat (first | apply Kd.V_alloc | apply Kd.V_drewN | apply Kd.V_drew)); exact HO0_2.out) gb118 (Nat.le_of_eq hg.symm)) hb); have n2_ := Aside0.mk (Kd.V_below (Kd.V_elderB (by (with_reducible repeat (first | apply Kd.V_alloc | apply Kd.V_drewN | apply Kd.V_drew)); exact HO1_1.out) gb118 (Nat.le_of_eq hg.symm)) hb); have n3_ := Aside0.mk (Kd.V_below (Kd.V_elderB (by (with_reducible repeat (first | apply Kd.V_alloc | apply Kd.V_drewN | apply Kd.V_drew)); exact HO1_2.out) gb118 (Nat.le_of_eq hg.symm)) hb); have n4_ := Aside0.mk (below_step (by repeat (first | (with_reducible first | exact HB.out | apply below_alloc | apply pw_below_drewN | apply below_drew1) | exact HB.out)) hb); have n5_ := Aside0.mk (hbox); have n6_ := Aside0.mk ((by rw [hg]; exact (below_size (by repeat (first | (with_reducible first | exact HB.out | apply below_alloc | apply pw_below_drewN | apply below_drew1) | exact HB.out))) : w.heap.size ≤ gb118)); have n7_ := Aside0.mk ((by rw [hg]; exact (below_size (by repeat (first | (with_reducible first | exact HB.out | apply below_alloc | apply pw_below_drewN | apply below_drew1) | exact HB.out))) : w.heap.size ≤ gb118)); clear HO0_1; clear HO0_2; clear HO1_1; clear HO1_2; clear HB; have HO0_1 := n0_; have HO0_2 := n1_; have HO1_1 := n2_; have HO1_2 := n3_; have HB := n4_; have BK118 := n5_; have GW118 := n6_; have GE118 := n7_; clear n0_ n1_ n2_ n3_ n4_ n5_ n6_ n7_; clear hb hbox hg) | ((with_reducible refine gate_dst (N := 3) rfl ?_); refine box_event ?hg (N := 3) ?hd (cs := #[.int .i64 a1_0, .slice A1_1 l1_1.length c1_1, .slice A1_2 l1_2.length c1_2]) (t := 47) ?hr ?_; (case hd => rfl); (case hg => rfl); (case hr => first | (go_simp; done) | (go_simp; rfl)); intro gb119 hg w4 hbox hb; have n0_ := Aside0.mk (Kd.V_below (Kd.V_elderB (by (with_reducible repeat (first | apply Kd.V_alloc | apply Kd.V_drewN | apply Kd.V_drew)); exact HO0_1.out) gb119 (Nat.le_of_eq hg.symm)) hb); have n1_ := Aside0.mk (Kd.V_below (Kd.V_elderB (by (with_reducible repeat (first | apply Kd.V_alloc | apply Kd.V_drewN | apply Kd.V_drew)); exact HO0_2.out) gb119 (Nat.le_of_eq hg.symm)) hb); have n2_ := Aside0.mk (Kd.V_below (Kd.V_elderB (by (with_reducible repeat (first | apply Kd.V_alloc | apply Kd.V_drewN | apply Kd.V_drew)); exact HO1_1.out) gb119 (Nat.le_of_eq hg.symm)) hb); have n3_ := Aside0.mk (Kd.V_below (Kd.V_elderB (by (with_reducible repeat (first | apply Kd.V_alloc | apply Kd.V_drewN | apply Kd.V_drew)); exact HO1_2.out) gb119 (Nat.le_of_eq hg.symm)) hb); have n4_ := Aside0.mk (blk_below (g := gb118) (o := .cells #[.int .i64 a0_0, .slice A0_1 l0_1.length c0_1, .slice A0_2 l0_2.length c0_2] 47 (0, 0)) (by (with_reducible repeat (first | refine blk_drewN ?_ _ | refine blk_drew ?_ | refine blk_alloc ?_ _)); exact BK118.out) hb); have n5_ := Aside0.mk (below_step (by repeat (first | (with_reducible first | exact HB.out | apply below_alloc | apply pw_below_drewN | apply below_drew1 | refine below_set ?_ GE118.out) | exact HB.out)) hb); have n6_ := Aside0.mk (hbox); have n7_ := Aside0.mk ((by rw [hg]; exact (below_size (by repeat (first | (with_reducible first | exact HB.out | apply below_alloc | apply pw_below_drewN | apply below_drew1 | refine below_set ?_ GE118.out) | exact HB.out))) : w.heap.size ≤ gb119)); have n8_ := Aside0.mk ((by rw [hg]; exact (below_size (by repeat (first | (with_reducible first | exact HB.out | apply below_alloc | apply pw_below_drewN | apply below_drew1 | refine below_set ?_ GE118.out) | exact HB.out))) : w.heap.size ≤ gb119)); have n9_ := Aside0.mk ((by rw [hg]; exact Nat.ne_of_lt (blk_lt (g := gb118) (o := .cells #[.int .i64 a0_0, .slice A0_1 l0_1.length c0_1, .slice A0_2 l0_2.length c0_2] 47 (0, 0)) (by (with_reducible repeat (first | refine blk_drewN ?_ _ | refine blk_drew ?_ | refine blk_alloc ?_ _)); exact BK118.out)) : gb118 ≠ gb119)); have n10_ := Aside0.mk ((by rw [hg]; exact Nat.ne_of_gt (blk_lt (g := gb118) (o := .cells #[.int .i64 a0_0, .slice A0_1 l0_1.length c0_1, .slice A0_2 l0_2.length c0_2] 47 (0, 0)) (by (with_reducible repeat (first | refine blk_drewN ?_ _ | refine blk_drew ?_ | refine blk_alloc ?_ _)); exact BK118.out)) : gb119 ≠ gb118)); clear HO0_1; clear HO0_2; clear HO1_1; clear HO1_2; clear BK118; clear HB; have HO0_1 := n0_; have HO0_2 := n1_; have HO1_1 := n2_; have HO1_2 := n3_; have BK118 := n4_; have HB := n5_; have BK119 := n6_; have GW119 := n7_; have GE119 := n8_; have NB118_119 := n9_; have NB119_118 := n10_; clear n0_ n1_ n2_ n3_ n4_ n5_ n6_ n7_ n8_ n9_ n10_; clear hb hbox hg; have hnb5 := NB118_119.out; have hnc5 := NB119_118.out; have hcz6_0 : w4.cell? ⟨gb118, 0, none⟩ = some (.int .i64 a0_0) := (blk_cell BK118.out 0).trans rfl; have hcz6_1 : w4.cell? ⟨gb118, 1, none⟩ = some (.slice A0_1 l0_1.length c0_1) := (blk_cell BK118.out 1).trans rfl; have hcz6_2 : w4.cell? ⟨gb118, 2, none⟩ = some (.slice A0_2 l0_2.length c0_2) := (blk_cell BK118.out 2).trans rfl; have hfz6_0 := blk_frozen BK118.out 0; have hfz6_1 := blk_frozen BK118.out 1; have hfz6_2 := blk_frozen BK118.out 2; have hcz7_0 : w4.cell? ⟨gb119, 0, none⟩ = some (.int .i64 a1_0) := (blk_cell BK119.out 0).trans rfl; have hcz7_1 : w4.cell? ⟨gb119, 1, none⟩ = some (.slice A1_1 l1_1.length c1_1) := (blk_cell BK119.out 1).trans rfl; have hcz7_2 : w4.cell? ⟨gb119, 2, none⟩ = some (.slice A1_2 l1_2.length c1_2) := (blk_cell BK119.out 2).trans rfl; have hfz7_0 := blk_frozen BK119.out 0; have hfz7_1 := blk_frozen BK119.out 1; have hfz7_2 := blk_frozen BK119.out 2) | ((with_reducible refine gate_dst (N := 18) rfl ?_); refine Kd.N_lit k47 _ 47 ?hg (N' := 18) ?hd (xs := ([(⟨a0_0, l0_1, l0_2⟩ : S47), (⟨a1_0, l1_1, l1_2⟩ : S47)] : List (S47))) (inner := [.int .i64 a0_0, .slice A0_1 l0_1.length c0_1, .slice A0_2 l0_2.length c0_2, .int .i64 a1_0, .slice A1_1 l1_1.length c1_1, .slice A1_2 l1_2.length c1_2]) (ok := (fun k_ => ((P0_1_ k_ ∨ P0_2_ k_ ∨ P1_1_ k_ ∨ P1_2_ k_) ∨ w.heap.size ≤ k_) ∧ k_ ≠ gb118 ∧ k_ ≠ gb119)) (okp := (fun k_ => ((P0_1_ k_ ∨ P0_2_ k_ ∨ P1_1_ k_ ∨ P1_2_ k_) ∨ w.heap.size ≤ k_) ∧ k_ ≠ gb118 ∧ k_ ≠ gb119)) ?hr ?hp (fun _ hk => hk) ((show ∀ k_, w4.heap.size ≤ k_ → (fun k_ => ((P0_1_ k_ ∨ P0_2_ k_ ∨ P1_1_ k_ ∨ P1_2_ k_) ∨ w.heap.size ≤ k_) ∧ k_ ≠ gb118 ∧ k_ ≠ gb119) k_ from fun k_ hk => ⟨(.inr (Nat.le_trans (below_size (by repeat (first | (with_reducible first | exact HB.out | apply below_alloc | apply pw_below_drewN | apply below_drew1 | refine below_set ?_ GE118.out | refine below_set ?_ GE119.out) | exact HB.out))) hk)), Kd.freshB (g := gb118) (o := .cells #[.int .i64 a0_0, .slice A0_1 l0_1.length c0_1, .slice A0_2 l0_2.length c0_2] 47 (0, 0)) (by (with_reducible repeat (first | refine blk_drewN ?_ _ | refine blk_drew ?_ | refine blk_alloc ?_ _)); exact BK118.out) k_ hk, Kd.freshB (g := gb119) (o := .cells #[.int .i64 a1_0, .slice A1_1 l1_1.length c1_1, .slice A1_2 l1_2.length c1_2] 47 (0, 0)) (by (with_reducible repeat (first | refine blk_drewN ?_ _ | refine blk_drew ?_ | refine blk_alloc ?_ _)); exact BK119.out) k_ hk⟩) _ (Nat.le_refl _)) (Below.refl _ _) (Nat.le_refl _) (by simp) ?_; (case hd => rfl); (case hg => rfl); (case hr => first | (go_simp; done) | (go_simp; rfl)); (case hp => exact (Reps.c3 (show Kd.FK k47 _ _ (⟨a0_0, l0_1, l0_2⟩ : S47) [.int .i64 a0_0, .slice A0_1 l0_1.length c0_1, .slice A0_2 l0_2.length c0_2] from (k47_mkF _ _ (⟨a0_0, l0_1, l0_2⟩ : S47) (Kd.V_reads' (Kd.V_mono (ok' := (fun k_ => ((P0_1_ k_ ∨ P0_2_ k_ ∨ P1_1_ k_ ∨ P1_2_ k_) ∨ w.heap.size ≤ k_) ∧ k_ ≠ gb118 ∧ k_ ≠ gb119)) (HO0_1.out) (fun k_ hk => ⟨hk.1.1, ⟨hk.1.2, hk.2⟩⟩))).2.1 (Kd.V_F (Kd.V_mono (ok' := (fun k_ => ((P0_1_ k_ ∨ P0_2_ k_ ∨ P1_1_ k_ ∨ P1_2_ k_) ∨ w.heap.size ≤ k_) ∧ k_ ≠ gb118 ∧ k_ ≠ gb119)) (HO0_1.out) (fun k_ hk => ⟨hk.1.1, ⟨hk.1.2, hk.2⟩⟩))) (Kd.V_reads' (Kd.V_mono (ok' := (fun k_ => ((P0_1_ k_ ∨ P0_2_ k_ ∨ P1_1_ k_ ∨ P1_2_ k_) ∨ w.heap.size ≤ k_) ∧ k_ ≠ gb118 ∧ k_ ≠ gb119)) (HO0_2.out) (fun k_ hk => ⟨hk.1.1, ⟨hk.1.2, hk.2⟩⟩))).2.1 (Kd.V_F (Kd.V_mono (ok' := (fun k_ => ((P0_1_ k_ ∨ P0_2_ k_ ∨ P1_1_ k_ ∨ P1_2_ k_) ∨ w.heap.size ≤ k_) ∧ k_ ≠ gb118 ∧ k_ ≠ gb119)) (HO0_2.out) (fun k_ hk => ⟨hk.1.1, ⟨hk.1.2, hk.2⟩⟩))))) (Reps.c3 (show Kd.FK k47 _ _ (⟨a1_0, l1_1, l1_2⟩ : S47) [.int .i64 a1_0, .slice A1_1 l1_1.length c1_1, .slice A1_2 l1_2.length c1_2] from (k47_mkF _ _ (⟨a1_0, l1_1, l1_2⟩ : S47) (Kd.V_reads' (Kd.V_mono (ok' := (fun k_ => ((P0_1_ k_ ∨ P0_2_ k_ ∨ P1_1_ k_ ∨ P1_2_ k_) ∨ w.heap.size ≤ k_) ∧ k_ ≠ gb118 ∧ k_ ≠ gb119)) (HO1_1.out) (fun k_ hk => ⟨hk.1.1, ⟨hk.1.2, hk.2⟩⟩))).2.1 (Kd.V_F (Kd.V_mono (ok' := (fun k_ => ((P0_1_ k_ ∨ P0_2_ k_ ∨ P1_1_ k_ ∨ P1_2_ k_) ∨ w.heap.size ≤ k_) ∧ k_ ≠ gb118 ∧ k_ ≠ gb119)) (HO1_1.out) (fun k_ hk => ⟨hk.1.1, ⟨hk.1.2, hk.2⟩⟩))) (Kd.V_reads' (Kd.V_mono (ok' := (fun k_ => ((P0_1_ k_ ∨ P0_2_ k_ ∨ P1_1_ k_ ∨ P1_2_ k_) ∨ w.heap.size ≤ k_) ∧ k_ ≠ gb118 ∧ k_ ≠ gb119)) (HO1_2.out) (fun k_ hk => ⟨hk.1.1, ⟨hk.1.2, hk.2⟩⟩))).2.1 (Kd.V_F (Kd.V_mono (ok' := (fun k_ => ((P0_1_ k_ ∨ P0_2_ k_ ∨ P1_1_ k_ ∨ P1_2_ k_) ∨ w.heap.size ≤ k_) ∧ k_ ≠ gb118 ∧ k_ ≠ gb119)) (HO1_2.out) (fun k_ hk => ⟨hk.1.1, ⟨hk.1.2, hk.2⟩⟩))))) (Reps.none _ _)))); intro v121 w8 ho9 hb hg_ hnew_; clear hg_ hnew_; (first | rw [← Ny120.out] at ho9 | (simp only [Int.reduceToNat] at ho9; rw [← Ny120.out] at ho9)); have n0_ := Aside0.mk (Kd.V_elder' (by (with_reducible repeat (first | apply Kd.V_alloc | apply Kd.V_drewN | apply Kd.V_drew)); exact HO0_1.out) (Kd.N_base ho9) hb); have n1_ := Aside0.mk (Kd.V_elder' (by (with_reducible repeat (first | apply Kd.V_alloc | apply Kd.V_drewN | apply Kd.V_drew)); exact HO0_2.out) (Kd.N_base ho9) hb); have n2_ := Aside0.mk (Kd.V_elder' (by (with_reducible repeat (first | apply Kd.V_alloc | apply Kd.V_drewN | apply Kd.V_drew)); exact HO1_1.out) (Kd.N_base ho9) hb); have n3_ := Aside0.mk (Kd.V_elder' (by (with_reducible repeat (first | apply Kd.V_alloc | apply Kd.V_drewN | apply Kd.V_drew)); exact HO1_2.out) (Kd.N_base ho9) hb); have n4_ := Aside0.mk (Kd.N_lower ho9 (below_size (by repeat (first | (with_reducible first | exact HB.out | apply below_alloc | apply pw_below_drewN | apply below_drew1 | refine below_set ?_ GE118.out | refine below_set ?_ GE119.out) | exact HB.out)))); have n5_ := Aside0.mk (blk_below (g := gb118) (o := .cells #[.int .i64 a0_0, .slice A0_1 l0_1.length c0_1, .slice A0_2 l0_2.length c0_2] 47 (0, 0)) (by (with_reducible repeat (first | refine blk_drewN ?_ _ | refine blk_drew ?_ | refine blk_alloc ?_ _)); exact BK118.out) hb); have n6_ := Aside0.mk (blk_below (g := gb119) (o := .cells #[.int .i64 a1_0, .slice A1_1 l1_1.length c1_1, .slice A1_2 l1_2.length c1_2] 47 (0, 0)) (by (with_reducible repeat (first | refine blk_drewN ?_ _ | refine blk_drew ?_ | refine blk_alloc ?_ _)); exact BK119.out) hb); have n7_ := Aside0.mk (below_step (by repeat (first | (with_reducible first | exact HB.out | apply below_alloc | apply pw_below_drewN | apply below_drew1 | refine below_set ?_ GE118.out | refine below_set ?_ GE119.out) | exact HB.out)) hb); clear HO0_1; clear HO0_2; clear HO1_1; clear HO1_2; clear BK118; clear BK119; clear HB; have HO0_1 := n0_; have HO0_2 := n1_; have HO1_1 := n2_; have HO1_2 := n3_; have HO122 := n4_; have BK118 := n5_; have BK119 := n6_; have HB := n7_; clear n0_ n1_ n2_ n3_ n4_ n5_ n6_ n7_; clear hb ho9; obtain ⟨Ao10, co10, eo10⟩ := Kd.N_slice HO122.out; subst eo10)))
 go_loopg [20] k (fun kq v20 w' => ∃ (x20_1 : Int), v20 = .int .i64 x20_1 ∧ Aside0 (seqs_Differ.l0 kq y120 (y120.length : Int) x20_1 a0_0 l0_1 l0_2 a1_0 l1_1 l1_2 = some (r1, r2, r3)) ∧ Aside0 (kq ≤ k) ∧ Aside0 (Kd.N k47 47 w' w.heap.size (fun k_ => ((P0_1_ k_ ∨ P0_2_ k_ ∨ P1_1_ k_ ∨ P1_2_ k_) ∨ w.heap.size ≤ k_) ∧ k_ ≠ gb118 ∧ k_ ≠ gb119) (.slice Ao10 y120.length co10) y120) ∧ Aside0 (Kd.V (Kd.slice 3 (Kd.int .i64)) 26 w' w.heap.size (fun k_ => ((P0_1_ k_ ∨ P0_2_ k_ ∨ P1_1_ k_ ∨ P1_2_ k_) ∨ w.heap.size ≤ k_) ∧ some k_ ≠ ((.slice Ao10 y120.length co10) : Value).ownBlock ∧ k_ ≠ gb118 ∧ k_ ≠ gb119) (.slice A0_1 l0_1.length c0_1) l0_1) ∧ Aside0 (Kd.V (Kd.int .i64) 3 w' w.heap.size (fun k_ => ((P0_1_ k_ ∨ P0_2_ k_ ∨ P1_1_ k_ ∨ P1_2_ k_) ∨ w.heap.size ≤ k_) ∧ some k_ ≠ ((.slice Ao10 y120.length co10) : Value).ownBlock ∧ k_ ≠ gb118 ∧ k_ ≠ gb119) (.slice A0_2 l0_2.length c0_2) l0_2) ∧ Aside0 (Kd.V (Kd.slice 3 (Kd.int .i64)) 26 w' w.heap.size (fun k_ => ((P0_1_ k_ ∨ P0_2_ k_ ∨ P1_1_ k_ ∨ P1_2_ k_) ∨ w.heap.size ≤ k_) ∧ some k_ ≠ ((.slice Ao10 y120.length co10) : Value).ownBlock ∧ k_ ≠ gb118 ∧ k_ ≠ gb119) (.slice A1_1 l1_1.length c1_1) l1_1) ∧ Aside0 (Kd.V (Kd.int .i64) 3 w' w.heap.size (fun k_ => ((P0_1_ k_ ∨ P0_2_ k_ ∨ P1_1_ k_ ∨ P1_2_ k_) ∨ w.heap.size ≤ k_) ∧ some k_ ≠ ((.slice Ao10 y120.length co10) : Value).ownBlock ∧ k_ ≠ gb118 ∧ k_ ≠ gb119) (.slice A1_2 l1_2.length c1_2) l1_2) ∧ Aside0 (w'.heap[gb118]? = some (.cells #[.int .i64 a0_0, (.slice A0_1 l0_1.length c0_1), (.slice A0_2 l0_2.length c0_2)] 47 (0, 0))) ∧ Aside0 (w'.heap[gb119]? = some (.cells #[.int .i64 a1_0, (.slice A1_1 l1_1.length c1_1), (.slice A1_2 l1_2.length c1_2)] 47 (0, 0))) ∧ Aside0 (Below w.heap.size w w'))
 case atStart => exact ⟨(0), (by first | rfl | (simp; done) | (simp [*]; done)), H', ⟨Nat.le_refl _⟩, ⟨by (with_reducible repeat (first | apply Kd.N_alloc | apply Kd.N_drewN | apply Kd.N_drew)); exact HO122.out⟩, ⟨by (with_reducible repeat (first | apply Kd.V_alloc | apply Kd.V_drewN | apply Kd.V_drew)); exact Kd.V_mono HO0_1.out (fun _ hk => ⟨hk.1.1.1, ⟨hk.2, ⟨hk.1.1.2, hk.1.2⟩⟩⟩)⟩, ⟨by (with_reducible repeat (first | apply Kd.V_alloc | apply Kd.V_drewN | apply Kd.V_drew)); exact Kd.V_mono HO0_2.out (fun _ hk => ⟨hk.1.1.1, ⟨hk.2, ⟨hk.1.1.2, hk.1.2⟩⟩⟩)⟩, ⟨by (with_reducible repeat (first | apply Kd.V_alloc | apply Kd.V_drewN | apply Kd.V_drew)); exact Kd.V_mono HO1_1.out (fun _ hk => ⟨hk.1.1.1, ⟨hk.2, ⟨hk.1.1.2, hk.1.2⟩⟩⟩)⟩, ⟨by (with_reducible repeat (first | apply Kd.V_alloc | apply Kd.V_drewN | apply Kd.V_drew)); exact Kd.V_mono HO1_2.out (fun _ hk => ⟨hk.1.1.1, ⟨hk.2, ⟨hk.1.1.2, hk.1.2⟩⟩⟩)⟩, ⟨by (with_reducible repeat (first | refine blk_drewN ?_ _ | refine blk_drew ?_ | refine blk_alloc ?_ _)); exact BK118.out⟩, ⟨by (with_reducible repeat (first | refine blk_drewN ?_ _ | refine blk_drew ?_ | refine blk_alloc ?_ _)); exact BK119.out⟩, ⟨by repeat (first | (with_reducible first | exact HB.out | apply below_alloc | apply pw_below_drewN | apply below_drew1 | refine below_set ?_ GE118.out | refine below_set ?_ GE119.out) | exact HB.out)⟩⟩
 case round =>
  clear H'
  try clear c1
  try clear p2
  try clear c3
  try clear c5
  try clear hcz6_0
  try clear hcz6_1
  try clear hcz6_2
  try clear hcz7_0
  try clear hcz7_1
  try clear hcz7_2
  try clear hfz6_0
  try clear hfz6_1
  try clear hfz6_2
  try clear hfz7_0
  try clear hfz7_1
  try clear hfz7_2
  obtain ⟨x20_1, rfl, HA, HK1, HO_18, HO_119001, HO_119002, HO_120001, HO_120002, BK118, BK119, HB⟩ := hrel
  cases gk with
  | zero => exact absurd HA.out (by simp [seqs_Differ.l0])
  | succ k1 =>
   have H := HA.out
   clear HA
   simp only [seqs_Differ.l0] at H
   by_cases c11 : x20_1 < (y120.length : Int)
   ·rw [if_pos c11] at H
    have c11b0 : decide (x20_1 < (y120.length : Int)) = true := decide_eq_true c11
    clear c11
    by_cases c12 : 0 ≤ x20_1
    ·(
 rw [if_pos c12] at H
 have c12b0 : decide (0 ≤ x20_1) = true := decide_eq_true c12
 clear c12
 by_cases c13 : x20_1 < (y120.length : Int)
 ·rw [if_pos c13] at H
  have c13b0 : decide (x20_1 < (y120.length : Int)) = true := decide_eq_true c13
  clear c13
  replace H := Option.bind_eq_some_iff.mp H
  obtain ⟨t125, A140, H⟩ := H
  replace H : (if t125 = 0 then (seqs_Differ.l0 k1 y120 (y120.length : Int) (wrap64 (x20_1 + 1)) a0_0 l0_1 l0_2 a1_0 l1_1 l1_2) else (some (0, false, t125))) = some (r1, r2, r3) := H
  have A14 := Aside0.mk A140
  clear A140
  by_cases c15 : t125 = 0
  ·rw [if_pos c15] at H
   have c15b0 : (t125 == 0) = true := beq_iff_eq.mpr c15
   have c15b1 : (t125 != 0) = false := bne_eq_false_iff_eq.mpr c15
   clear c15
   have H' := Aside0.mk H
   clear H
   have p123 : 0 ≤ (x20_1 : Int) := of_decide_eq_true (by first | (with_reducible assumption) | assumption)
   have q123 : x20_1 < (y120.length : Int) := of_decide_eq_true (by first | (with_reducible assumption) | assumption)
   obtain ⟨ad123, A123_1, c123_1, A123_2, c123_2, e123, hx123_0, hx123_1, hx123_2, hl123_1, hi123_1, hl123_2, hi123_2⟩ := at_T47 (Kd.N_reads' HO_18.out).2.2 x20_1 p123 q123
   cases e123
   obtain ⟨ce123, hce123, hMe123, hcc123⟩ := Kd.N_get HO_18.out z47 x20_1 p123 (by first | exact q123 | exact of_decide_eq_true (by first | (with_reducible assumption) | assumption) | (have e_ := (Kd.N_reads' HO_18.out).1; omega))
   obtain ⟨ua123_1, uc123_1, ua123_2, uc123_2, rfl, ul123_1, ge123_1, ul123_2, ge123_2⟩ := k47_openF hMe123
   have hv123_1 := hcc123 1 _ rfl
   rw [add_field _ _ 1 (by omega)] at hv123_1
   replace hv123_1 := Option.some.inj (hv123_1.symm.trans hx123_1)
   injection hv123_1 with hva_ hvn_ hvc_
   rw [hva_] at ge123_1
   rw [hvc_] at ul123_1
   have HL123_1 := Aside0.mk (show Kd.V (Kd.slice 3 (Kd.int .i64)) 26 _ w.heap.size _ _ ((rd_T47 y120 x20_1).f1) from Kd.V_mk ul123_1 ge123_1)
   clear hva_ hvn_ hvc_ ge123_1 ul123_1
   have hv123_2 := hcc123 2 _ rfl
   rw [add_field _ _ 2 (by omega)] at hv123_2
   replace hv123_2 := Option.some.inj (hv123_2.symm.trans hx123_2)
   injection hv123_2 with hva_ hvn_ hvc_
   rw [hva_] at ge123_2
   rw [hvc_] at ul123_2
   have HL123_2 := Aside0.mk (show Kd.V (Kd.int .i64) 3 _ w.heap.size _ _ ((rd_T47 y120 x20_1).f2) from Kd.V_mk ul123_2 ge123_2)
   clear hva_ hvn_ hvc_ ge123_2 ul123_2
   clear hcc123 hce123
   have HR123_1 := Aside0.mk hi123_1
   have HC123_1 := Aside0.mk hl123_1
   clear hi123_1 hl123_1
   have HR123_2 := Aside0.mk hi123_2
   have HC123_2 := Aside0.mk hl123_2
   clear hi123_2 hl123_2
   replace p123 := eq_true p123
   replace q123 := eq_true q123
   iterate 4 ((try go_quiet (first | (go_at_call 26; (with_reducible refine (seqs_Check.calls ((rd_T47 y120 x20_1).f0) _ _ ((rd_T47 y120 x20_1).f1) _ _ ((rd_T47 y120 x20_1).f2) t125 _ ?side1 ?side2 ?side3 ?side4 A14.out).mono ?_); (case side1 => repeat (first | exact ((Kd.V_reads' (by (with_reducible repeat (first | apply Kd.V_alloc | apply Kd.V_drewN | apply Kd.V_drew)); exact (Kd.V_mono (Kd.V_far (p := ⟨gb124, 2, none⟩) (Kd.V_far (p := ⟨gb124, 1, none⟩) (Kd.V_far (p := ⟨gb124, 0, none⟩) (Kd.V_mono HL123_1.out (fun k_ hk => (⟨hk, hk.2⟩ : _ ∧ k_ ≠ gb124))) (fun _ hk => hk.2) (.int .i64 ((rd_T47 y120 x20_1).f0))) (fun _ hk => hk.2) (.slice A123_1 ((rd_T47 y120 x20_1).f1).length c123_1)) (fun _ hk => hk.2) (.slice A123_2 ((rd_T47 y120 x20_1).f2).length c123_2)) (fun _ h_ => h_.1)))).2.2) | (with_reducible refine Kd.C_alloc ?_ _) | (with_reducible refine Kd.C_drewN ?_ _) | (with_reducible refine Kd.C_drew ?_))); (case side2 => exact HC123_1.out); (case side3 => repeat (first | exact ((Kd.V_reads' (by (with_reducible repeat (first | apply Kd.V_alloc | apply Kd.V_drewN | apply Kd.V_drew)); exact (Kd.V_mono (Kd.V_far (p := ⟨gb124, 2, none⟩) (Kd.V_far (p := ⟨gb124, 1, none⟩) (Kd.V_far (p := ⟨gb124, 0, none⟩) (Kd.V_mono HL123_2.out (fun k_ hk => (⟨hk, hk.2⟩ : _ ∧ k_ ≠ gb124))) (fun _ hk => hk.2) (.int .i64 ((rd_T47 y120 x20_1).f0))) (fun _ hk => hk.2) (.slice A123_1 ((rd_T47 y120 x20_1).f1).length c123_1)) (fun _ hk => hk.2) (.slice A123_2 ((rd_T47 y120 x20_1).f2).length c123_2)) (fun _ h_ => h_.1)))).2.2) | (with_reducible refine Kd.C_alloc ?_ _) | (with_reducible refine Kd.C_drewN ?_ _) | (with_reducible refine Kd.C_drew ?_))); (case side4 => exact HC123_2.out); rintro e w20 ⟨rfl, hb⟩; have n0_ := Aside0.mk (Kd.N_below (by (with_reducible repeat (first | apply Kd.N_alloc | apply Kd.N_drewN | apply Kd.N_drew)); exact (Kd.N_mono (Kd.N_far (p := ⟨gb124, 2, none⟩) (Kd.N_far (p := ⟨gb124, 1, none⟩) (Kd.N_far (p := ⟨gb124, 0, none⟩) (Kd.N_mono HO_18.out (fun k_ hk => (⟨hk, hk.2⟩ : _ ∧ k_ ≠ gb124))) (fun _ hk => hk.2) (.int .i64 ((rd_T47 y120 x20_1).f0))) (fun _ hk => hk.2) (.slice A123_1 ((rd_T47 y120 x20_1).f1).length c123_1)) (fun _ hk => hk.2) (.slice A123_2 ((rd_T47 y120 x20_1).f2).length c123_2)) (fun _ h_ => h_.1))) hb); have n1_ := Aside0.mk (Kd.V_below (by (with_reducible repeat (first | apply Kd.V_alloc | apply Kd.V_drewN | apply Kd.V_drew)); exact (Kd.V_mono (Kd.V_far (p := ⟨gb124, 2, none⟩) (Kd.V_far (p := ⟨gb124, 1, none⟩) (Kd.V_far (p := ⟨gb124, 0, none⟩) (Kd.V_mono HO_119001.out (fun k_ hk => (⟨hk, hk.2⟩ : _ ∧ k_ ≠ gb124))) (fun _ hk => hk.2) (.int .i64 ((rd_T47 y120 x20_1).f0))) (fun _ hk => hk.2) (.slice A123_1 ((rd_T47 y120 x20_1).f1).length c123_1)) (fun _ hk => hk.2) (.slice A123_2 ((rd_T47 y120 x20_1).f2).length c123_2)) (fun _ h_ => h_.1))) hb); have n2_ := Aside0.mk (Kd.V_below (by (with_reducible repeat (first | apply Kd.V_alloc | apply Kd.V_drewN | apply Kd.V_drew)); exact (Kd.V_mono (Kd.V_far (p := ⟨gb124, 2, none⟩) (Kd.V_far (p := ⟨gb124, 1, none⟩) (Kd.V_far (p := ⟨gb124, 0, none⟩) (Kd.V_mono HO_119002.out (fun k_ hk => (⟨hk, hk.2⟩ : _ ∧ k_ ≠ gb124))) (fun _ hk => hk.2) (.int .i64 ((rd_T47 y120 x20_1).f0))) (fun _ hk => hk.2) (.slice A123_1 ((rd_T47 y120 x20_1).f1).length c123_1)) (fun _ hk => hk.2) (.slice A123_2 ((rd_T47 y120 x20_1).f2).length c123_2)) (fun _ h_ => h_.1))) hb); have n3_ := Aside0.mk (Kd.V_below (by (with_reducible repeat (first | apply Kd.V_alloc | apply Kd.V_drewN | apply Kd.V_drew)); exact (Kd.V_mono (Kd.V_far (p := ⟨gb124, 2, none⟩) (Kd.V_far (p := ⟨gb124, 1, none⟩) (Kd.V_far (p := ⟨gb124, 0, none⟩) (Kd.V_mono HO_120001.out (fun k_ hk => (⟨hk, hk.2⟩ : _ ∧ k_ ≠ gb124))) (fun _ hk => hk.2) (.int .i64 ((rd_T47 y120 x20_1).f0))) (fun _ hk => hk.2) (.slice A123_1 ((rd_T47 y120 x20_1).f1).length c123_1)) (fun _ hk => hk.2) (.slice A123_2 ((rd_T47 y120 x20_1).f2).length c123_2)) (fun _ h_ => h_.1))) hb); have n4_ := Aside0.mk (Kd.V_below (by (with_reducible repeat (first | apply Kd.V_alloc | apply Kd.V_drewN | apply Kd.V_drew)); exact (Kd.V_mono (Kd.V_far (p := ⟨gb124, 2, none⟩) (Kd.V_far (p := ⟨gb124, 1, none⟩) (Kd.V_far (p := ⟨gb124, 0, none⟩) (Kd.V_mono HO_120002.out (fun k_ hk => (⟨hk, hk.2⟩ : _ ∧ k_ ≠ gb124))) (fun _ hk => hk.2) (.int .i64 ((rd_T47 y120 x20_1).f0))) (fun _ hk => hk.2) (.slice A123_1 ((rd_T47 y120 x20_1).f1).length c123_1)) (fun _ hk => hk.2) (.slice A123_2 ((rd_T47 y120 x20_1).f2).length c123_2)) (fun _ h_ => h_.1))) hb); have n5_ := Aside0.mk (Kd.V_below (by (with_reducible repeat (first | apply Kd.V_alloc | apply Kd.V_drewN | apply Kd.V_drew)); exact (Kd.V_mono (Kd.V_far (p := ⟨gb124, 2, none⟩) (Kd.V_far (p := ⟨gb124, 1, none⟩) (Kd.V_far (p := ⟨gb124, 0, none⟩) (Kd.V_mono HL123_1.out (fun k_ hk => (⟨hk, hk.2⟩ : _ ∧ k_ ≠ gb124))) (fun _ hk => hk.2) (.int .i64 ((rd_T47 y120 x20_1).f0))) (fun _ hk => hk.2) (.slice A123_1 ((rd_T47 y120 x20_1).f1).length c123_1)) (fun _ hk => hk.2) (.slice A123_2 ((rd_T47 y120 x20_1).f2).length c123_2)) (fun _ h_ => h_.1))) hb); have n6_ := Aside0.mk (Kd.V_below (by (with_reducible repeat (first | apply Kd.V_alloc | apply Kd.V_drewN | apply Kd.V_drew)); exact (Kd.V_mono (Kd.V_far (p := ⟨gb124, 2, none⟩) (Kd.V_far (p := ⟨gb124, 1, none⟩) (Kd.V_far (p := ⟨gb124, 0, none⟩) (Kd.V_mono HL123_2.out (fun k_ hk => (⟨hk, hk.2⟩ : _ ∧ k_ ≠ gb124))) (fun _ hk => hk.2) (.int .i64 ((rd_T47 y120 x20_1).f0))) (fun _ hk => hk.2) (.slice A123_1 ((rd_T47 y120 x20_1).f1).length c123_1)) (fun _ hk => hk.2) (.slice A123_2 ((rd_T47 y120 x20_1).f2).length c123_2)) (fun _ h_ => h_.1))) hb); have n7_ := Aside0.mk (blk_below (g := gb118) (o := .cells #[.int .i64 a0_0, .slice A0_1 l0_1.length c0_1, .slice A0_2 l0_2.length c0_2] 47 (0, 0)) (by (with_reducible repeat (first | refine blk_drewN ?_ _ | refine blk_drew ?_ | refine blk_alloc ?_ _)); refine blk_far ?_ NB118_124.out _; (with_reducible repeat (first | refine blk_drewN ?_ _ | refine blk_drew ?_ | refine blk_alloc ?_ _)); refine blk_far ?_ NB118_124.out _; (with_reducible repeat (first | refine blk_drewN ?_ _ | refine blk_drew ?_ | refine blk_alloc ?_ _)); refine blk_far ?_ NB118_124.out _; (with_reducible repeat (first | refine blk_drewN ?_ _ | refine blk_drew ?_ | refine blk_alloc ?_ _)); exact BK118.out) hb); have n8_ := Aside0.mk (blk_below (g := gb119) (o := .cells #[.int .i64 a1_0, .slice A1_1 l1_1.length c1_1, .slice A1_2 l1_2.length c1_2] 47 (0, 0)) (by (with_reducible repeat (first | refine blk_drewN ?_ _ | refine blk_drew ?_ | refine blk_alloc ?_ _)); refine blk_far ?_ NB119_124.out _; (with_reducible repeat (first | refine blk_drewN ?_ _ | refine blk_drew ?_ | refine blk_alloc ?_ _)); refine blk_far ?_ NB119_124.out _; (with_reducible repeat (first | refine blk_drewN ?_ _ | refine blk_drew ?_ | refine blk_alloc ?_ _)); refine blk_far ?_ NB119_124.out _; (with_reducible repeat (first | refine blk_drewN ?_ _ | refine blk_drew ?_ | refine blk_alloc ?_ _)); exact BK119.out) hb); have n9_ := Aside0.mk (Kd.C_below ((Kd.V_reads' (by (with_reducible repeat (first | apply Kd.V_alloc | apply Kd.V_drewN | apply Kd.V_drew)); exact (Kd.V_mono (Kd.V_far (p := ⟨gb124, 2, none⟩) (Kd.V_far (p := ⟨gb124, 1, none⟩) (Kd.V_far (p := ⟨gb124, 0, none⟩) (Kd.V_mono HL123_1.out (fun k_ hk => (⟨hk, hk.2⟩ : _ ∧ k_ ≠ gb124))) (fun _ hk => hk.2) (.int .i64 ((rd_T47 y120 x20_1).f0))) (fun _ hk => hk.2) (.slice A123_1 ((rd_T47 y120 x20_1).f1).length c123_1)) (fun _ hk => hk.2) (.slice A123_2 ((rd_T47 y120 x20_1).f2).length c123_2)) (fun _ h_ => h_.1)))).2.2) hb); have n10_ := Aside0.mk (Kd.C_below ((Kd.V_reads' (by (with_reducible repeat (first | apply Kd.V_alloc | apply Kd.V_drewN | apply Kd.V_drew)); exact (Kd.V_mono (Kd.V_far (p := ⟨gb124, 2, none⟩) (Kd.V_far (p := ⟨gb124, 1, none⟩) (Kd.V_far (p := ⟨gb124, 0, none⟩) (Kd.V_mono HL123_2.out (fun k_ hk => (⟨hk, hk.2⟩ : _ ∧ k_ ≠ gb124))) (fun _ hk => hk.2) (.int .i64 ((rd_T47 y120 x20_1).f0))) (fun _ hk => hk.2) (.slice A123_1 ((rd_T47 y120 x20_1).f1).length c123_1)) (fun _ hk => hk.2) (.slice A123_2 ((rd_T47 y120 x20_1).f2).length c123_2)) (fun _ h_ => h_.1)))).2.2) hb); have n11_ := Aside0.mk (blk_below (g := gb124) (o := .cells #[.int .i64 ((rd_T47 y120 x20_1).f0), .slice A123_1 ((rd_T47 y120 x20_1).f1).length c123_1, .slice A123_2 ((rd_T47 y120 x20_1).f2).length c123_2] 47 (0, 0)) (by (with_reducible repeat (first | refine blk_drewN ?_ _ | refine blk_drew ?_ | refine blk_alloc ?_ _)); refine blk_put (cs := #[.int .i64 ((rd_T47 y120 x20_1).f0), .slice A123_1 ((rd_T47 y120 x20_1).f1).length c123_1, .slice none 0 0]) ?_ 2 _ rfl; (with_reducible repeat (first | refine blk_drewN ?_ _ | refine blk_drew ?_ | refine blk_alloc ?_ _)); refine blk_put (cs := #[.int .i64 ((rd_T47 y120 x20_1).f0), .slice none 0 0, .slice none 0 0]) ?_ 1 _ rfl; (with_reducible repeat (first | refine blk_drewN ?_ _ | refine blk_drew ?_ | refine blk_alloc ?_ _)); refine blk_put (cs := #[.int .i64 0, .slice none 0 0, .slice none 0 0]) ?_ 0 _ rfl; (with_reducible repeat (first | refine blk_drewN ?_ _ | refine blk_drew ?_ | refine blk_alloc ?_ _)); exact BK124.out) hb); have n12_ := Aside0.mk (below_step (by repeat (first | (with_reducible first | exact HB.out | apply below_alloc | apply pw_below_drewN | apply below_drew1 | refine below_set ?_ GE118.out | refine below_set ?_ GE119.out | refine below_set ?_ GE124.out) | exact HB.out)) hb); clear HO_18; clear HO_119001; clear HO_119002; clear HO_120001; clear HO_120002; clear HL123_1; clear HL123_2; clear BK118; clear BK119; clear HR123_1; clear HR123_2; clear BK124; clear HB; have HO_18 := n0_; have HO_119001 := n1_; have HO_119002 := n2_; have HO_120001 := n3_; have HO_120002 := n4_; have HL123_1 := n5_; have HL123_2 := n6_; have BK118 := n7_; have BK119 := n8_; have HR123_1 := n9_; have HR123_2 := n10_; have BK124 := n11_; have HB := n12_; clear n0_ n1_ n2_ n3_ n4_ n5_ n6_ n7_ n8_ n9_ n10_ n11_ n12_; (try clear hb); (try clear hb2); (try clear hk); (try clear hi)))); try go_wp2_with (first | ((with_reducible refine gate_dst (N := 8) rfl ?_); refine box_event ?hg (N := 8) ?hd (cs := #[.int .i64 0, .slice none 0 0, .slice none 0 0]) (t := 47) ?hr ?_; (case hd => rfl); (case hg => rfl); (case hr => first | (go_simp; done) | (go_simp; rfl)); intro gb124 hg w16 hbox hb; have n0_ := Aside0.mk (Kd.N_below (Kd.N_elderB (by (with_reducible repeat (first | apply Kd.N_alloc | apply Kd.N_drewN | apply Kd.N_drew)); exact HO_18.out) gb124 (Nat.le_of_eq hg.symm)) hb); have n1_ := Aside0.mk (Kd.V_below (Kd.V_elderB (by (with_reducible repeat (first | apply Kd.V_alloc | apply Kd.V_drewN | apply Kd.V_drew)); exact HO_119001.out) gb124 (Nat.le_of_eq hg.symm)) hb); have n2_ := Aside0.mk (Kd.V_below (Kd.V_elderB (by (with_reducible repeat (first | apply Kd.V_alloc | apply Kd.V_drewN | apply Kd.V_drew)); exact HO_119002.out) gb124 (Nat.le_of_eq hg.symm)) hb); have n3_ := Aside0.mk (Kd.V_below (Kd.V_elderB (by (with_reducible repeat (first | apply Kd.V_alloc | apply Kd.V_drewN | apply Kd.V_drew)); exact HO_120001.out) gb124 (Nat.le_of_eq hg.symm)) hb); have n4_ := Aside0.mk (Kd.V_below (Kd.V_elderB (by (with_reducible repeat (first | apply Kd.V_alloc | apply Kd.V_drewN | apply Kd.V_drew)); exact HO_120002.out) gb124 (Nat.le_of_eq hg.symm)) hb); have n5_ := Aside0.mk (Kd.V_below (Kd.V_elderB (by (with_reducible repeat (first | apply Kd.V_alloc | apply Kd.V_drewN | apply Kd.V_drew)); exact HL123_1.out) gb124 (Nat.le_of_eq hg.symm)) hb); have n6_ := Aside0.mk (Kd.V_below (Kd.V_elderB (by (with_reducible repeat (first | apply Kd.V_alloc | apply Kd.V_drewN | apply Kd.V_drew)); exact HL123_2.out) gb124 (Nat.le_of_eq hg.symm)) hb); have n7_ := Aside0.mk (blk_below (g := gb118) (o := .cells #[.int .i64 a0_0, .slice A0_1 l0_1.length c0_1, .slice A0_2 l0_2.length c0_2] 47 (0, 0)) (by (with_reducible repeat (first | refine blk_drewN ?_ _ | refine blk_drew ?_ | refine blk_alloc ?_ _)); exact BK118.out) hb); have n8_ := Aside0.mk (blk_below (g := gb119) (o := .cells #[.int .i64 a1_0, .slice A1_1 l1_1.length c1_1, .slice A1_2 l1_2.length c1_2] 47 (0, 0)) (by (with_reducible repeat (first | refine blk_drewN ?_ _ | refine blk_drew ?_ | refine blk_alloc ?_ _)); exact BK119.out) hb); have n9_ := Aside0.mk (Kd.C_below (by repeat (first | (with_reducible exact HR123_1.out) | (with_reducible refine Kd.C_alloc ?_ _) | (with_reducible refine Kd.C_drewN ?_ _) | (with_reducible refine Kd.C_drew ?_) | exact HR123_1.out)) hb); have n10_ := Aside0.mk (Kd.C_below (by repeat (first | (with_reducible exact HR123_2.out) | (with_reducible refine Kd.C_alloc ?_ _) | (with_reducible refine Kd.C_drewN ?_ _) | (with_reducible refine Kd.C_drew ?_) | exact HR123_2.out)) hb); have n11_ := Aside0.mk (below_step (by repeat (first | (with_reducible first | exact HB.out | apply below_alloc | apply pw_below_drewN | apply below_drew1 | refine below_set ?_ GE118.out | refine below_set ?_ GE119.out) | exact HB.out)) hb); have n12_ := Aside0.mk (hbox); have n13_ := Aside0.mk ((by rw [hg]; exact (below_size (by repeat (first | (with_reducible first | exact HB.out | apply below_alloc | apply pw_below_drewN | apply below_drew1 | refine below_set ?_ GE118.out | refine below_set ?_ GE119.out) | exact HB.out))) : w.heap.size ≤ gb124)); have n14_ := Aside0.mk ((by rw [hg]; exact (below_size (by repeat (first | (with_reducible first | exact HB.out | apply below_alloc | apply pw_below_drewN | apply below_drew1 | refine below_set ?_ GE118.out | refine below_set ?_ GE119.out) | exact HB.out))) : w.heap.size ≤ gb124)); have n15_ := Aside0.mk ((by rw [hg]; exact Nat.ne_of_lt (blk_lt (g := gb118) (o := .cells #[.int .i64 a0_0, .slice A0_1 l0_1.length c0_1, .slice A0_2 l0_2.length c0_2] 47 (0, 0)) (by (with_reducible repeat (first | refine blk_drewN ?_ _ | refine blk_drew ?_ | refine blk_alloc ?_ _)); exact BK118.out)) : gb118 ≠ gb124)); have n16_ := Aside0.mk ((by rw [hg]; exact Nat.ne_of_gt (blk_lt (g := gb118) (o := .cells #[.int .i64 a0_0, .slice A0_1 l0_1.length c0_1, .slice A0_2 l0_2.length c0_2] 47 (0, 0)) (by (with_reducible repeat (first | refine blk_drewN ?_ _ | refine blk_drew ?_ | refine blk_alloc ?_ _)); exact BK118.out)) : gb124 ≠ gb118)); have n17_ := Aside0.mk ((by rw [hg]; exact Nat.ne_of_lt (blk_lt (g := gb119) (o := .cells #[.int .i64 a1_0, .slice A1_1 l1_1.length c1_1, .slice A1_2 l1_2.length c1_2] 47 (0, 0)) (by (with_reducible repeat (first | refine blk_drewN ?_ _ | refine blk_drew ?_ | refine blk_alloc ?_ _)); exact BK119.out)) : gb119 ≠ gb124)); have n18_ := Aside0.mk ((by rw [hg]; exact Nat.ne_of_gt (blk_lt (g := gb119) (o := .cells #[.int .i64 a1_0, .slice A1_1 l1_1.length c1_1, .slice A1_2 l1_2.length c1_2] 47 (0, 0)) (by (with_reducible repeat (first | refine blk_drewN ?_ _ | refine blk_drew ?_ | refine blk_alloc ?_ _)); exact BK119.out)) : gb124 ≠ gb119)); clear HO_18; clear HO_119001; clear HO_119002; clear HO_120001; clear HO_120002; clear HL123_1; clear HL123_2; clear BK118; clear BK119; clear HR123_1; clear HR123_2; clear HB; have HO_18 := n0_; have HO_119001 := n1_; have HO_119002 := n2_; have HO_120001 := n3_; have HO_120002 := n4_; have HL123_1 := n5_; have HL123_2 := n6_; have BK118 := n7_; have BK119 := n8_; have HR123_1 := n9_; have HR123_2 := n10_; have HB := n11_; have BK124 := n12_; have GW124 := n13_; have GE124 := n14_; have NB118_124 := n15_; have NB124_118 := n16_; have NB119_124 := n17_; have NB124_119 := n18_; clear n0_ n1_ n2_ n3_ n4_ n5_ n6_ n7_ n8_ n9_ n10_ n11_ n12_ n13_ n14_ n15_ n16_ n17_ n18_; clear hb hbox hg; have hnb17 := NB124_118.out; have hnc17 := NB118_124.out; have hnb18 := NB124_119.out; have hnc18 := NB119_124.out; have hcz19_0 : w16.cell? ⟨gb124, 0, none⟩ = some (.int .i64 0) := (blk_cell BK124.out 0).trans rfl; have hcz19_1 : w16.cell? ⟨gb124, 1, none⟩ = some (.slice none 0 0) := (blk_cell BK124.out 1).trans rfl; have hcz19_2 : w16.cell? ⟨gb124, 2, none⟩ = some (.slice none 0 0) := (blk_cell BK124.out 2).trans rfl; have hfz19_0 := blk_frozen BK124.out 0; have hfz19_1 := blk_frozen BK124.out 1; have hfz19_2 := blk_frozen BK124.out 2) | (go_at_call 26; (with_reducible refine (seqs_Check.calls ((rd_T47 y120 x20_1).f0) _ _ ((rd_T47 y120 x20_1).f1) _ _ ((rd_T47 y120 x20_1).f2) t125 _ ?side1 ?side2 ?side3 ?side4 A14.out).mono ?_); (case side1 => repeat (first | exact ((Kd.V_reads' (by (with_reducible repeat (first | apply Kd.V_alloc | apply Kd.V_drewN | apply Kd.V_drew)); exact (Kd.V_mono (Kd.V_far (p := ⟨gb124, 2, none⟩) (Kd.V_far (p := ⟨gb124, 1, none⟩) (Kd.V_far (p := ⟨gb124, 0, none⟩) (Kd.V_mono HL123_1.out (fun k_ hk => (⟨hk, hk.2⟩ : _ ∧ k_ ≠ gb124))) (fun _ hk => hk.2) (.int .i64 ((rd_T47 y120 x20_1).f0))) (fun _ hk => hk.2) (.slice A123_1 ((rd_T47 y120 x20_1).f1).length c123_1)) (fun _ hk => hk.2) (.slice A123_2 ((rd_T47 y120 x20_1).f2).length c123_2)) (fun _ h_ => h_.1)))).2.2) | (with_reducible refine Kd.C_alloc ?_ _) | (with_reducible refine Kd.C_drewN ?_ _) | (with_reducible refine Kd.C_drew ?_))); (case side2 => exact HC123_1.out); (case side3 => repeat (first | exact ((Kd.V_reads' (by (with_reducible repeat (first | apply Kd.V_alloc | apply Kd.V_drewN | apply Kd.V_drew)); exact (Kd.V_mono (Kd.V_far (p := ⟨gb124, 2, none⟩) (Kd.V_far (p := ⟨gb124, 1, none⟩) (Kd.V_far (p := ⟨gb124, 0, none⟩) (Kd.V_mono HL123_2.out (fun k_ hk => (⟨hk, hk.2⟩ : _ ∧ k_ ≠ gb124))) (fun _ hk => hk.2) (.int .i64 ((rd_T47 y120 x20_1).f0))) (fun _ hk => hk.2) (.slice A123_1 ((rd_T47 y120 x20_1).f1).length c123_1)) (fun _ hk => hk.2) (.slice A123_2 ((rd_T47 y120 x20_1).f2).length c123_2)) (fun _ h_ => h_.1)))).2.2) | (with_reducible refine Kd.C_alloc ?_ _) | (with_reducible refine Kd.C_drewN ?_ _) | (with_reducible refine Kd.C_drew ?_))); (case side4 => exact HC123_2.out); rintro e w20 ⟨rfl, hb⟩; have n0_ := Aside0.mk (Kd.N_below (by (with_reducible repeat (first | apply Kd.N_alloc | apply Kd.N_drewN | apply Kd.N_drew)); exact (Kd.N_mono (Kd.N_far (p := ⟨gb124, 2, none⟩) (Kd.N_far (p := ⟨gb124, 1, none⟩) (Kd.N_far (p := ⟨gb124, 0, none⟩) (Kd.N_mono HO_18.out (fun k_ hk => (⟨hk, hk.2⟩ : _ ∧ k_ ≠ gb124))) (fun _ hk => hk.2) (.int .i64 ((rd_T47 y120 x20_1).f0))) (fun _ hk => hk.2) (.slice A123_1 ((rd_T47 y120 x20_1).f1).length c123_1)) (fun _ hk => hk.2) (.slice A123_2 ((rd_T47 y120 x20_1).f2).length c123_2)) (fun _ h_ => h_.1))) hb); have n1_ := Aside0.mk (Kd.V_below (by (with_reducible repeat (first | apply Kd.V_alloc | apply Kd.V_drewN | apply Kd.V_drew)); exact (Kd.V_mono (Kd.V_far (p := ⟨gb124, 2, none⟩) (Kd.V_far (p := ⟨gb124, 1, none⟩) (Kd.V_far (p := ⟨gb124, 0, none⟩) (Kd.V_mono HO_119001.out (fun k_ hk => (⟨hk, hk.2⟩ : _ ∧ k_ ≠ gb124))) (fun _ hk => hk.2) (.int .i64 ((rd_T47 y120 x20_1).f0))) (fun _ hk => hk.2) (.slice A123_1 ((rd_T47 y120 x20_1).f1).length c123_1)) (fun _ hk => hk.2) (.slice A123_2 ((rd_T47 y120 x20_1).f2).length c123_2)) (fun _ h_ => h_.1))) hb); have n2_ := Aside0.mk (Kd.V_below (by (with_reducible repeat (first | apply Kd.V_alloc | apply Kd.V_drewN | apply Kd.V_drew)); exact (Kd.V_mono (Kd.V_far (p := ⟨gb124, 2, none⟩) (Kd.V_far (p := ⟨gb124, 1, none⟩) (Kd.V_far (p := ⟨gb124, 0, none⟩) (Kd.V_mono HO_119002.out (fun k_ hk => (⟨hk, hk.2⟩ : _ ∧ k_ ≠ gb124))) (fun _ hk => hk.2) (.int .i64 ((rd_T47 y120 x20_1).f0))) (fun _ hk => hk.2) (.slice A123_1 ((rd_T47 y120 x20_1).f1).length c123_1)) (fun _ hk => hk.2) (.slice A123_2 ((rd_T47 y120 x20_1).f2).length c123_2)) (fun _ h_ => h_.1))) hb); have n3_ := Aside0.mk (Kd.V_below (by (with_reducible repeat (first | apply Kd.V_alloc | apply Kd.V_drewN | apply Kd.V_drew)); exact (Kd.V_mono (Kd.V_far (p := ⟨gb124, 2, none⟩) (Kd.V_far (p := ⟨gb124, 1, none⟩) (Kd.V_far (p := ⟨gb124, 0, none⟩) (Kd.V_mono HO_120001.out (fun k_ hk => (⟨hk, hk.2⟩ : _ ∧ k_ ≠ gb124))) (fun _ hk => hk.2) (.int .i64 ((rd_T47 y120 x20_1).f0))) (fun _ hk => hk.2) (.slice A123_1 ((rd_T47 y120 x20_1).f1).length c123_1)) (fun _ hk => hk.2) (.slice A123_2 ((rd_T47 y120 x20_1).f2).length c123_2)) (fun _ h_ => h_.1))) hb); have n4_ := Aside0.mk (Kd.V_below (by (with_reducible repeat (first | apply Kd.V_alloc | apply Kd.V_drewN | apply Kd.V_drew)); exact (Kd.V_mono (Kd.V_far (p := ⟨gb124, 2, none⟩) (Kd.V_far (p := ⟨gb124, 1, none⟩) (Kd.V_far (p := ⟨gb124, 0, none⟩) (Kd.V_mono HO_120002.out (fun k_ hk => (⟨hk, hk.2⟩ : _ ∧ k_ ≠ gb124))) (fun _ hk => hk.2) (.int .i64 ((rd_T47 y120 x20_1).f0))) (fun _ hk => hk.2) (.slice A123_1 ((rd_T47 y120 x20_1).f1).length c123_1)) (fun _ hk => hk.2) (.slice A123_2 ((rd_T47 y120 x20_1).f2).length c123_2)) (fun _ h_ => h_.1))) hb); have n5_ := Aside0.mk (Kd.V_below (by (with_reducible repeat (first | apply Kd.V_alloc | apply Kd.V_drewN | apply Kd.V_drew)); exact (Kd.V_mono (Kd.V_far (p := ⟨gb124, 2, none⟩) (Kd.V_far (p := ⟨gb124, 1, none⟩) (Kd.V_far (p := ⟨gb124, 0, none⟩) (Kd.V_mono HL123_1.out (fun k_ hk => (⟨hk, hk.2⟩ : _ ∧ k_ ≠ gb124))) (fun _ hk => hk.2) (.int .i64 ((rd_T47 y120 x20_1).f0))) (fun _ hk => hk.2) (.slice A123_1 ((rd_T47 y120 x20_1).f1).length c123_1)) (fun _ hk => hk.2) (.slice A123_2 ((rd_T47 y120 x20_1).f2).length c123_2)) (fun _ h_ => h_.1))) hb); have n6_ := Aside0.mk (Kd.V_below (by (with_reducible repeat (first | apply Kd.V_alloc | apply Kd.V_drewN | apply Kd.V_drew)); exact (Kd.V_mono (Kd.V_far (p := ⟨gb124, 2, none⟩) (Kd.V_far (p := ⟨gb124, 1, none⟩) (Kd.V_far (p := ⟨gb124, 0, none⟩) (Kd.V_mono HL123_2.out (fun k_ hk => (⟨hk, hk.2⟩ : _ ∧ k_ ≠ gb124))) (fun _ hk => hk.2) (.int .i64 ((rd_T47 y120 x20_1).f0))) (fun _ hk => hk.2) (.slice A123_1 ((rd_T47 y120 x20_1).f1).length c123_1)) (fun _ hk => hk.2) (.slice A123_2 ((rd_T47 y120 x20_1).f2).length c123_2)) (fun _ h_ => h_.1))) hb); have n7_ := Aside0.mk (blk_below (g := gb118) (o := .cells #[.int .i64 a0_0, .slice A0_1 l0_1.length c0_1, .slice A0_2 l0_2.length c0_2] 47 (0, 0)) (by (with_reducible repeat (first | refine blk_drewN ?_ _ | refine blk_drew ?_ | refine blk_alloc ?_ _)); refine blk_far ?_ NB118_124.out _; (with_reducible repeat (first | refine blk_drewN ?_ _ | refine blk_drew ?_ | refine blk_alloc ?_ _)); refine blk_far ?_ NB118_124.out _; (with_reducible repeat (first | refine blk_drewN ?_ _ | refine blk_drew ?_ | refine blk_alloc ?_ _)); refine blk_far ?_ NB118_124.out _; (with_reducible repeat (first | refine blk_drewN ?_ _ | refine blk_drew ?_ | refine blk_alloc ?_ _)); exact BK118.out) hb); have n8_ := Aside0.mk (blk_below (g := gb119) (o := .cells #[.int .i64 a1_0, .slice A1_1 l1_1.length c1_1, .slice A1_2 l1_2.length c1_2] 47 (0, 0)) (by (with_reducible repeat (first | refine blk_drewN ?_ _ | refine blk_drew ?_ | refine blk_alloc ?_ _)); refine blk_far ?_ NB119_124.out _; (with_reducible repeat (first | refine blk_drewN ?_ _ | refine blk_drew ?_ | refine blk_alloc ?_ _)); refine blk_far ?_ NB119_124.out _; (with_reducible repeat (first | refine blk_drewN ?_ _ | refine blk_drew ?_ | refine blk_alloc ?_ _)); refine blk_far ?_ NB119_124.out _; (with_reducible repeat (first | refine blk_drewN ?_ _ | refine blk_drew ?_ | refine blk_alloc ?_ _)); exact BK119.out) hb); have n9_ := Aside0.mk (Kd.C_below ((Kd.V_reads' (by (with_reducible repeat (first | apply Kd.V_alloc | apply Kd.V_drewN | apply Kd.V_drew)); exact (Kd.V_mono (Kd.V_far (p := ⟨gb124, 2, none⟩) (Kd.V_far (p := ⟨gb124, 1, none⟩) (Kd.V_far (p := ⟨gb124, 0, none⟩) (Kd.V_mono HL123_1.out (fun k_ hk => (⟨hk, hk.2⟩ : _ ∧ k_ ≠ gb124))) (fun _ hk => hk.2) (.int .i64 ((rd_T47 y120 x20_1).f0))) (fun _ hk => hk.2) (.slice A123_1 ((rd_T47 y120 x20_1).f1).length c123_1)) (fun _ hk => hk.2) (.slice A123_2 ((rd_T47 y120 x20_1).f2).length c123_2)) (fun _ h_ => h_.1)))).2.2) hb); have n10_ := Aside0.mk (Kd.C_below ((Kd.V_reads' (by (with_reducible repeat (first | apply Kd.V_alloc | apply Kd.V_drewN | apply Kd.V_drew)); exact (Kd.V_mono (Kd.V_far (p := ⟨gb124, 2, none⟩) (Kd.V_far (p := ⟨gb124, 1, none⟩) (Kd.V_far (p := ⟨gb124, 0, none⟩) (Kd.V_mono HL123_2.out (fun k_ hk => (⟨hk, hk.2⟩ : _ ∧ k_ ≠ gb124))) (fun _ hk => hk.2) (.int .i64 ((rd_T47 y120 x20_1).f0))) (fun _ hk => hk.2) (.slice A123_1 ((rd_T47 y120 x20_1).f1).length c123_1)) (fun _ hk => hk.2) (.slice A123_2 ((rd_T47 y120 x20_1).f2).length c123_2)) (fun _ h_ => h_.1)))).2.2) hb); have n11_ := Aside0.mk (blk_below (g := gb124) (o := .cells #[.int .i64 ((rd_T47 y120 x20_1).f0), .slice A123_1 ((rd_T47 y120 x20_1).f1).length c123_1, .slice A123_2 ((rd_T47 y120 x20_1).f2).length c123_2] 47 (0, 0)) (by (with_reducible repeat (first | refine blk_drewN ?_ _ | refine blk_drew ?_ | refine blk_alloc ?_ _)); refine blk_put (cs := #[.int .i64 ((rd_T47 y120 x20_1).f0), .slice A123_1 ((rd_T47 y120 x20_1).f1).length c123_1, .slice none 0 0]) ?_ 2 _ rfl; (with_reducible repeat (first | refine blk_drewN ?_ _ | refine blk_drew ?_ | refine blk_alloc ?_ _)); refine blk_put (cs := #[.int .i64 ((rd_T47 y120 x20_1).f0), .slice none 0 0, .slice none 0 0]) ?_ 1 _ rfl; (with_reducible repeat (first | refine blk_drewN ?_ _ | refine blk_drew ?_ | refine blk_alloc ?_ _)); refine blk_put (cs := #[.int .i64 0, .slice none 0 0, .slice none 0 0]) ?_ 0 _ rfl; (with_reducible repeat (first | refine blk_drewN ?_ _ | refine blk_drew ?_ | refine blk_alloc ?_ _)); exact BK124.out) hb); have n12_ := Aside0.mk (below_step (by repeat (first | (with_reducible first | exact HB.out | apply below_alloc | apply pw_below_drewN | apply below_drew1 | refine below_set ?_ GE118.out | refine below_set ?_ GE119.out | refine below_set ?_ GE124.out) | exact HB.out)) hb); clear HO_18; clear HO_119001; clear HO_119002; clear HO_120001; clear HO_120002; clear HL123_1; clear HL123_2; clear BK118; clear BK119; clear HR123_1; clear HR123_2; clear BK124; clear HB; have HO_18 := n0_; have HO_119001 := n1_; have HO_119002 := n2_; have HO_120001 := n3_; have HO_120002 := n4_; have HL123_1 := n5_; have HL123_2 := n6_; have BK118 := n7_; have BK119 := n8_; have HR123_1 := n9_; have HR123_2 := n10_; have BK124 := n11_; have HB := n12_; clear n0_ n1_ n2_ n3_ n4_ n5_ n6_ n7_ n8_ n9_ n10_ n11_ n12_; (try clear hb); (try clear hb2); (try clear hk); (try clear hi))))
   go_roundg k1
   case measure => have := HK1.out; omega
   case rel => exact ⟨(wrap64 (x20_1 + 1)), (by first | rfl | (simp; done) | (simp [*]; done)), H', ⟨by have := HK1.out; omega⟩, ⟨by (with_reducible repeat (first | apply Kd.N_alloc | apply Kd.N_drewN | apply Kd.N_drew)); exact Kd.N_mono HO_18.out (fun _ hk => ⟨hk.1.1, ⟨hk.1.2.1, hk.1.2.2⟩⟩)⟩, ⟨by (with_reducible repeat (first | apply Kd.V_alloc | apply Kd.V_drewN | apply Kd.V_drew)); exact Kd.V_mono HO_119001.out (fun _ hk => ⟨hk.1.1, ⟨hk.1.2.1, ⟨hk.1.2.2.1, hk.1.2.2.2⟩⟩⟩)⟩, ⟨by (with_reducible repeat (first | apply Kd.V_alloc | apply Kd.V_drewN | apply Kd.V_drew)); exact Kd.V_mono HO_119002.out (fun _ hk => ⟨hk.1.1, ⟨hk.1.2.1, ⟨hk.1.2.2.1, hk.1.2.2.2⟩⟩⟩)⟩, ⟨by (with_reducible repeat (first | apply Kd.V_alloc | apply Kd.V_drewN | apply Kd.V_drew)); exact Kd.V_mono HO_120001.out (fun _ hk => ⟨hk.1.1, ⟨hk.1.2.1, ⟨hk.1.2.2.1, hk.1.2.2.2⟩⟩⟩)⟩, ⟨by (with_reducible repeat (first | apply Kd.V_alloc | apply Kd.V_drewN | apply Kd.V_drew)); exact Kd.V_mono HO_120002.out (fun _ hk => ⟨hk.1.1, ⟨hk.1.2.1, ⟨hk.1.2.2.1, hk.1.2.2.2⟩⟩⟩)⟩, ⟨by (with_reducible repeat (first | refine blk_drewN ?_ _ | refine blk_drew ?_ | refine blk_alloc ?_ _)); exact BK118.out⟩, ⟨by (with_reducible repeat (first | refine blk_drewN ?_ _ | refine blk_drew ?_ | refine blk_alloc ?_ _)); exact BK119.out⟩, ⟨by repeat (first | (with_reducible first | exact HB.out | apply below_alloc | apply pw_below_drewN | apply below_drew1 | refine below_set ?_ GE118.out | refine below_set ?_ GE119.out | refine below_set ?_ GE124.out) | exact HB.out)⟩⟩
  ·rw [if_neg c15] at H
   have c15b0 : (t125 == 0) = false := beq_eq_false_iff_ne.mpr c15
   have c15b1 : (t125 != 0) = true := bne_iff_ne.mpr c15
   simp only [Option.some.injEq, Prod.mk.injEq] at H
   obtain ⟨rfl, rfl, rfl⟩ := H
   have p123 : 0 ≤ (x20_1 : Int) := of_decide_eq_true (by first | (with_reducible assumption) | assumption)
   have q123 : x20_1 < (y120.length : Int) := of_decide_eq_true (by first | (with_reducible assumption) | assumption)
   obtain ⟨ad123, A123_1, c123_1, A123_2, c123_2, e123, hx123_0, hx123_1, hx123_2, hl123_1, hi123_1, hl123_2, hi123_2⟩ := at_T47 (Kd.N_reads' HO_18.out).2.2 x20_1 p123 q123
   cases e123
   obtain ⟨ce123, hce123, hMe123, hcc123⟩ := Kd.N_get HO_18.out z47 x20_1 p123 (by first | exact q123 | exact of_decide_eq_true (by first | (with_reducible assumption) | assumption) | (have e_ := (Kd.N_reads' HO_18.out).1; omega))
   obtain ⟨ua123_1, uc123_1, ua123_2, uc123_2, rfl, ul123_1, ge123_1, ul123_2, ge123_2⟩ := k47_openF hMe123
   have hv123_1 := hcc123 1 _ rfl
   rw [add_field _ _ 1 (by omega)] at hv123_1
   replace hv123_1 := Option.some.inj (hv123_1.symm.trans hx123_1)
   injection hv123_1 with hva_ hvn_ hvc_
   rw [hva_] at ge123_1
   rw [hvc_] at ul123_1
   have HL123_1 := Aside0.mk (show Kd.V (Kd.slice 3 (Kd.int .i64)) 26 _ w.heap.size _ _ ((rd_T47 y120 x20_1).f1) from Kd.V_mk ul123_1 ge123_1)
   clear hva_ hvn_ hvc_ ge123_1 ul123_1
   have hv123_2 := hcc123 2 _ rfl
   rw [add_field _ _ 2 (by omega)] at hv123_2
   replace hv123_2 := Option.some.inj (hv123_2.symm.trans hx123_2)
   injection hv123_2 with hva_ hvn_ hvc_
   rw [hva_] at ge123_2
   rw [hvc_] at ul123_2
   have HL123_2 := Aside0.mk (show Kd.V (Kd.int .i64) 3 _ w.heap.size _ _ ((rd_T47 y120 x20_1).f2) from Kd.V_mk ul123_2 ge123_2)
   clear hva_ hvn_ hvc_ ge123_2 ul123_2
   clear hcc123 hce123
   have HR123_1 := Aside0.mk hi123_1
   have HC123_1 := Aside0.mk hl123_1
   clear hi123_1 hl123_1
   have HR123_2 := Aside0.mk hi123_2
   have HC123_2 := Aside0.mk hl123_2
   clear hi123_2 hl123_2
   replace p123 := eq_true p123
   replace q123 := eq_true q123
   iterate 4 ((try go_quiet (first | (go_at_call 26; (with_reducible refine (seqs_Check.calls ((rd_T47 y120 x20_1).f0) _ _ ((rd_T47 y120 x20_1).f1) _ _ ((rd_T47 y120 x20_1).f2) t125 _ ?side1 ?side2 ?side3 ?side4 A14.out).mono ?_); (case side1 => repeat (first | exact ((Kd.V_reads' (by (with_reducible repeat (first | apply Kd.V_alloc | apply Kd.V_drewN | apply Kd.V_drew)); exact (Kd.V_mono (Kd.V_far (p := ⟨gb124, 2, none⟩) (Kd.V_far (p := ⟨gb124, 1, none⟩) (Kd.V_far (p := ⟨gb124, 0, none⟩) (Kd.V_mono HL123_1.out (fun k_ hk => (⟨hk, hk.2⟩ : _ ∧ k_ ≠ gb124))) (fun _ hk => hk.2) (.int .i64 ((rd_T47 y120 x20_1).f0))) (fun _ hk => hk.2) (.slice A123_1 ((rd_T47 y120 x20_1).f1).length c123_1)) (fun _ hk => hk.2) (.slice A123_2 ((rd_T47 y120 x20_1).f2).length c123_2)) (fun _ h_ => h_.1)))).2.2) | (with_reducible refine Kd.C_alloc ?_ _) | (with_reducible refine Kd.C_drewN ?_ _) | (with_reducible refine Kd.C_drew ?_))); (case side2 => exact HC123_1.out); (case side3 => repeat (first | exact ((Kd.V_reads' (by (with_reducible repeat (first | apply Kd.V_alloc | apply Kd.V_drewN | apply Kd.V_drew)); exact (Kd.V_mono (Kd.V_far (p := ⟨gb124, 2, none⟩) (Kd.V_far (p := ⟨gb124, 1, none⟩) (Kd.V_far (p := ⟨gb124, 0, none⟩) (Kd.V_mono HL123_2.out (fun k_ hk => (⟨hk, hk.2⟩ : _ ∧ k_ ≠ gb124))) (fun _ hk => hk.2) (.int .i64 ((rd_T47 y120 x20_1).f0))) (fun _ hk => hk.2) (.slice A123_1 ((rd_T47 y120 x20_1).f1).length c123_1)) (fun _ hk => hk.2) (.slice A123_2 ((rd_T47 y120 x20_1).f2).length c123_2)) (fun _ h_ => h_.1)))).2.2) | (with_reducible refine Kd.C_alloc ?_ _) | (with_reducible refine Kd.C_drewN ?_ _) | (with_reducible refine Kd.C_drew ?_))); (case side4 => exact HC123_2.out); rintro e w25 ⟨rfl, hb⟩; have n0_ := Aside0.mk (Kd.N_below (by (with_reducible repeat (first | apply Kd.N_alloc | apply Kd.N_drewN | apply Kd.N_drew)); exact (Kd.N_mono (Kd.N_far (p := ⟨gb124, 2, none⟩) (Kd.N_far (p := ⟨gb124, 1, none⟩) (Kd.N_far (p := ⟨gb124, 0, none⟩) (Kd.N_mono HO_18.out (fun k_ hk => (⟨hk, hk.2⟩ : _ ∧ k_ ≠ gb124))) (fun _ hk => hk.2) (.int .i64 ((rd_T47 y120 x20_1).f0))) (fun _ hk => hk.2) (.slice A123_1 ((rd_T47 y120 x20_1).f1).length c123_1)) (fun _ hk => hk.2) (.slice A123_2 ((rd_T47 y120 x20_1).f2).length c123_2)) (fun _ h_ => h_.1))) hb); have n1_ := Aside0.mk (Kd.V_below (by (with_reducible repeat (first | apply Kd.V_alloc | apply Kd.V_drewN | apply Kd.V_drew)); exact (Kd.V_mono (Kd.V_far (p := ⟨gb124, 2, none⟩) (Kd.V_far (p := ⟨gb124, 1, none⟩) (Kd.V_far (p := ⟨gb124, 0, none⟩) (Kd.V_mono HO_119001.out (fun k_ hk => (⟨hk, hk.2⟩ : _ ∧ k_ ≠ gb124))) (fun _ hk => hk.2) (.int .i64 ((rd_T47 y120 x20_1).f0))) (fun _ hk => hk.2) (.slice A123_1 ((rd_T47 y120 x20_1).f1).length c123_1)) (fun _ hk => hk.2) (.slice A123_2 ((rd_T47 y120 x20_1).f2).length c123_2)) (fun _ h_ => h_.1))) hb); have n2_ := Aside0.mk (Kd.V_below (by (with_reducible repeat (first | apply Kd.V_alloc | apply Kd.V_drewN | apply Kd.V_drew)); exact (Kd.V_mono (Kd.V_far (p := ⟨gb124, 2, none⟩) (Kd.V_far (p := ⟨gb124, 1, none⟩) (Kd.V_far (p := ⟨gb124, 0, none⟩) (Kd.V_mono HO_119002.out (fun k_ hk => (⟨hk, hk.2⟩ : _ ∧ k_ ≠ gb124))) (fun _ hk => hk.2) (.int .i64 ((rd_T47 y120 x20_1).f0))) (fun _ hk => hk.2) (.slice A123_1 ((rd_T47 y120 x20_1).f1).length c123_1)) (fun _ hk => hk.2) (.slice A123_2 ((rd_T47 y120 x20_1).f2).length c123_2)) (fun _ h_ => h_.1))) hb); have n3_ := Aside0.mk (Kd.V_below (by (with_reducible repeat (first | apply Kd.V_alloc | apply Kd.V_drewN | apply Kd.V_drew)); exact (Kd.V_mono (Kd.V_far (p := ⟨gb124, 2, none⟩) (Kd.V_far (p := ⟨gb124, 1, none⟩) (Kd.V_far (p := ⟨gb124, 0, none⟩) (Kd.V_mono HO_120001.out (fun k_ hk => (⟨hk, hk.2⟩ : _ ∧ k_ ≠ gb124))) (fun _ hk => hk.2) (.int .i64 ((rd_T47 y120 x20_1).f0))) (fun _ hk => hk.2) (.slice A123_1 ((rd_T47 y120 x20_1).f1).length c123_1)) (fun _ hk => hk.2) (.slice A123_2 ((rd_T47 y120 x20_1).f2).length c123_2)) (fun _ h_ => h_.1))) hb); have n4_ := Aside0.mk (Kd.V_below (by (with_reducible repeat (first | apply Kd.V_alloc | apply Kd.V_drewN | apply Kd.V_drew)); exact (Kd.V_mono (Kd.V_far (p := ⟨gb124, 2, none⟩) (Kd.V_far (p := ⟨gb124, 1, none⟩) (Kd.V_far (p := ⟨gb124, 0, none⟩) (Kd.V_mono HO_120002.out (fun k_ hk => (⟨hk, hk.2⟩ : _ ∧ k_ ≠ gb124))) (fun _ hk => hk.2) (.int .i64 ((rd_T47 y120 x20_1).f0))) (fun _ hk => hk.2) (.slice A123_1 ((rd_T47 y120 x20_1).f1).length c123_1)) (fun _ hk => hk.2) (.slice A123_2 ((rd_T47 y120 x20_1).f2).length c123_2)) (fun _ h_ => h_.1))) hb); have n5_ := Aside0.mk (Kd.V_below (by (with_reducible repeat (first | apply Kd.V_alloc | apply Kd.V_drewN | apply Kd.V_drew)); exact (Kd.V_mono (Kd.V_far (p := ⟨gb124, 2, none⟩) (Kd.V_far (p := ⟨gb124, 1, none⟩) (Kd.V_far (p := ⟨gb124, 0, none⟩) (Kd.V_mono HL123_1.out (fun k_ hk => (⟨hk, hk.2⟩ : _ ∧ k_ ≠ gb124))) (fun _ hk => hk.2) (.int .i64 ((rd_T47 y120 x20_1).f0))) (fun _ hk => hk.2) (.slice A123_1 ((rd_T47 y120 x20_1).f1).length c123_1)) (fun _ hk => hk.2) (.slice A123_2 ((rd_T47 y120 x20_1).f2).length c123_2)) (fun _ h_ => h_.1))) hb); have n6_ := Aside0.mk (Kd.V_below (by (with_reducible repeat (first | apply Kd.V_alloc | apply Kd.V_drewN | apply Kd.V_drew)); exact (Kd.V_mono (Kd.V_far (p := ⟨gb124, 2, none⟩) (Kd.V_far (p := ⟨gb124, 1, none⟩) (Kd.V_far (p := ⟨gb124, 0, none⟩) (Kd.V_mono HL123_2.out (fun k_ hk => (⟨hk, hk.2⟩ : _ ∧ k_ ≠ gb124))) (fun _ hk => hk.2) (.int .i64 ((rd_T47 y120 x20_1).f0))) (fun _ hk => hk.2) (.slice A123_1 ((rd_T47 y120 x20_1).f1).length c123_1)) (fun _ hk => hk.2) (.slice A123_2 ((rd_T47 y120 x20_1).f2).length c123_2)) (fun _ h_ => h_.1))) hb); have n7_ := Aside0.mk (blk_below (g := gb118) (o := .cells #[.int .i64 a0_0, .slice A0_1 l0_1.length c0_1, .slice A0_2 l0_2.length c0_2] 47 (0, 0)) (by (with_reducible repeat (first | refine blk_drewN ?_ _ | refine blk_drew ?_ | refine blk_alloc ?_ _)); refine blk_far ?_ NB118_124.out _; (with_reducible repeat (first | refine blk_drewN ?_ _ | refine blk_drew ?_ | refine blk_alloc ?_ _)); refine blk_far ?_ NB118_124.out _; (with_reducible repeat (first | refine blk_drewN ?_ _ | refine blk_drew ?_ | refine blk_alloc ?_ _)); refine blk_far ?_ NB118_124.out _; (with_reducible repeat (first | refine blk_drewN ?_ _ | refine blk_drew ?_ | refine blk_alloc ?_ _)); exact BK118.out) hb); have n8_ := Aside0.mk (blk_below (g := gb119) (o := .cells #[.int .i64 a1_0, .slice A1_1 l1_1.length c1_1, .slice A1_2 l1_2.length c1_2] 47 (0, 0)) (by (with_reducible repeat (first | refine blk_drewN ?_ _ | refine blk_drew ?_ | refine blk_alloc ?_ _)); refine blk_far ?_ NB119_124.out _; (with_reducible repeat (first | refine blk_drewN ?_ _ | refine blk_drew ?_ | refine blk_alloc ?_ _)); refine blk_far ?_ NB119_124.out _; (with_reducible repeat (first | refine blk_drewN ?_ _ | refine blk_drew ?_ | refine blk_alloc ?_ _)); refine blk_far ?_ NB119_124.out _; (with_reducible repeat (first | refine blk_drewN ?_ _ | refine blk_drew ?_ | refine blk_alloc ?_ _)); exact BK119.out) hb); have n9_ := Aside0.mk (Kd.C_below ((Kd.V_reads' (by (with_reducible repeat (first | apply Kd.V_alloc | apply Kd.V_drewN | apply Kd.V_drew)); exact (Kd.V_mono (Kd.V_far (p := ⟨gb124, 2, none⟩) (Kd.V_far (p := ⟨gb124, 1, none⟩) (Kd.V_far (p := ⟨gb124, 0, none⟩) (Kd.V_mono HL123_1.out (fun k_ hk => (⟨hk, hk.2⟩ : _ ∧ k_ ≠ gb124))) (fun _ hk => hk.2) (.int .i64 ((rd_T47 y120 x20_1).f0))) (fun _ hk => hk.2) (.slice A123_1 ((rd_T47 y120 x20_1).f1).length c123_1)) (fun _ hk => hk.2) (.slice A123_2 ((rd_T47 y120 x20_1).f2).length c123_2)) (fun _ h_ => h_.1)))).2.2) hb); have n10_ := Aside0.mk (Kd.C_below ((Kd.V_reads' (by (with_reducible repeat (first | apply Kd.V_alloc | apply Kd.V_drewN | apply Kd.V_drew)); exact (Kd.V_mono (Kd.V_far (p := ⟨gb124, 2, none⟩) (Kd.V_far (p := ⟨gb124, 1, none⟩) (Kd.V_far (p := ⟨gb124, 0, none⟩) (Kd.V_mono HL123_2.out (fun k_ hk => (⟨hk, hk.2⟩ : _ ∧ k_ ≠ gb124))) (fun _ hk => hk.2) (.int .i64 ((rd_T47 y120 x20_1).f0))) (fun _ hk => hk.2) (.slice A123_1 ((rd_T47 y120 x20_1).f1).length c123_1)) (fun _ hk => hk.2) (.slice A123_2 ((rd_T47 y120 x20_1).f2).length c123_2)) (fun _ h_ => h_.1)))).2.2) hb); have n11_ := Aside0.mk (blk_below (g := gb124) (o := .cells #[.int .i64 ((rd_T47 y120 x20_1).f0), .slice A123_1 ((rd_T47 y120 x20_1).f1).length c123_1, .slice A123_2 ((rd_T47 y120 x20_1).f2).length c123_2] 47 (0, 0)) (by (with_reducible repeat (first | refine blk_drewN ?_ _ | refine blk_drew ?_ | refine blk_alloc ?_ _)); refine blk_put (cs := #[.int .i64 ((rd_T47 y120 x20_1).f0), .slice A123_1 ((rd_T47 y120 x20_1).f1).length c123_1, .slice none 0 0]) ?_ 2 _ rfl; (with_reducible repeat (first | refine blk_drewN ?_ _ | refine blk_drew ?_ | refine blk_alloc ?_ _)); refine blk_put (cs := #[.int .i64 ((rd_T47 y120 x20_1).f0), .slice none 0 0, .slice none 0 0]) ?_ 1 _ rfl; (with_reducible repeat (first | refine blk_drewN ?_ _ | refine blk_drew ?_ | refine blk_alloc ?_ _)); refine blk_put (cs := #[.int .i64 0, .slice none 0 0, .slice none 0 0]) ?_ 0 _ rfl; (with_reducible repeat (first | refine blk_drewN ?_ _ | refine blk_drew ?_ | refine blk_alloc ?_ _)); exact BK124.out) hb); have n12_ := Aside0.mk (below_step (by repeat (first | (with_reducible first | exact HB.out | apply below_alloc | apply pw_below_drewN | apply below_drew1 | refine below_set ?_ GE118.out | refine below_set ?_ GE119.out | refine below_set ?_ GE124.out) | exact HB.out)) hb); clear HO_18; clear HO_119001; clear HO_119002; clear HO_120001; clear HO_120002; clear HL123_1; clear HL123_2; clear BK118; clear BK119; clear HR123_1; clear HR123_2; clear BK124; clear HB; have HO_18 := n0_; have HO_119001 := n1_; have HO_119002 := n2_; have HO_120001 := n3_; have HO_120002 := n4_; have HL123_1 := n5_; have HL123_2 := n6_; have BK118 := n7_; have BK119 := n8_; have HR123_1 := n9_; have HR123_2 := n10_; have BK124 := n11_; have HB := n12_; clear n0_ n1_ n2_ n3_ n4_ n5_ n6_ n7_ n8_ n9_ n10_ n11_ n12_; (try clear hb); (try clear hb2); (try clear hk); (try clear hi)))); try go_wp2_with (first | ((with_reducible refine gate_dst (N := 8) rfl ?_); refine box_event ?hg (N := 8) ?hd (cs := #[.int .i64 0, .slice none 0 0, .slice none 0 0]) (t := 47) ?hr ?_; (case hd => rfl); (case hg => rfl); (case hr => first | (go_simp; done) | (go_simp; rfl)); intro gb124 hg w21 hbox hb; have n0_ := Aside0.mk (Kd.N_below (Kd.N_elderB (by (with_reducible repeat (first | apply Kd.N_alloc | apply Kd.N_drewN | apply Kd.N_drew)); exact HO_18.out) gb124 (Nat.le_of_eq hg.symm)) hb); have n1_ := Aside0.mk (Kd.V_below (Kd.V_elderB (by (with_reducible repeat (first | apply Kd.V_alloc | apply Kd.V_drewN | apply Kd.V_drew)); exact HO_119001.out) gb124 (Nat.le_of_eq hg.symm)) hb); have n2_ := Aside0.mk (Kd.V_below (Kd.V_elderB (by (with_reducible repeat (first | apply Kd.V_alloc | apply Kd.V_drewN | apply Kd.V_drew)); exact HO_119002.out) gb124 (Nat.le_of_eq hg.symm)) hb); have n3_ := Aside0.mk (Kd.V_below (Kd.V_elderB (by (with_reducible repeat (first | apply Kd.V_alloc | apply Kd.V_drewN | apply Kd.V_drew)); exact HO_120001.out) gb124 (Nat.le_of_eq hg.symm)) hb); have n4_ := Aside0.mk (Kd.V_below (Kd.V_elderB (by (with_reducible repeat (first | apply Kd.V_alloc | apply Kd.V_drewN | apply Kd.V_drew)); exact HO_120002.out) gb124 (Nat.le_of_eq hg.symm)) hb); have n5_ := Aside0.mk (Kd.V_below (Kd.V_elderB (by (with_reducible repeat (first | apply Kd.V_alloc | apply Kd.V_drewN | apply Kd.V_drew)); exact HL123_1.out) gb124 (Nat.le_of_eq hg.symm)) hb); have n6_ := Aside0.mk (Kd.V_below (Kd.V_elderB (by (with_reducible repeat (first | apply Kd.V_alloc | apply Kd.V_drewN | apply Kd.V_drew)); exact HL123_2.out) gb124 (Nat.le_of_eq hg.symm)) hb); have n7_ := Aside0.mk (blk_below (g := gb118) (o := .cells #[.int .i64 a0_0, .slice A0_1 l0_1.length c0_1, .slice A0_2 l0_2.length c0_2] 47 (0, 0)) (by (with_reducible repeat (first | refine blk_drewN ?_ _ | refine blk_drew ?_ | refine blk_alloc ?_ _)); exact BK118.out) hb); have n8_ := Aside0.mk (blk_below (g := gb119) (o := .cells #[.int .i64 a1_0, .slice A1_1 l1_1.length c1_1, .slice A1_2 l1_2.length c1_2] 47 (0, 0)) (by (with_reducible repeat (first | refine blk_drewN ?_ _ | refine blk_drew ?_ | refine blk_alloc ?_ _)); exact BK119.out) hb); have n9_ := Aside0.mk (Kd.C_below (by repeat (first | (with_reducible exact HR123_1.out) | (with_reducible refine Kd.C_alloc ?_ _) | (with_reducible refine Kd.C_drewN ?_ _) | (with_reducible refine Kd.C_drew ?_) | exact HR123_1.out)) hb); have n10_ := Aside0.mk (Kd.C_below (by repeat (first | (with_reducible exact HR123_2.out) | (with_reducible refine Kd.C_alloc ?_ _) | (with_reducible refine Kd.C_drewN ?_ _) | (with_reducible refine Kd.C_drew ?_) | exact HR123_2.out)) hb); have n11_ := Aside0.mk (below_step (by repeat (first | (with_reducible first | exact HB.out | apply below_alloc | apply pw_below_drewN | apply below_drew1 | refine below_set ?_ GE118.out | refine below_set ?_ GE119.out) | exact HB.out)) hb); have n12_ := Aside0.mk (hbox); have n13_ := Aside0.mk ((by rw [hg]; exact (below_size (by repeat (first | (with_reducible first | exact HB.out | apply below_alloc | apply pw_below_drewN | apply below_drew1 | refine below_set ?_ GE118.out | refine below_set ?_ GE119.out) | exact HB.out))) : w.heap.size ≤ gb124)); have n14_ := Aside0.mk ((by rw [hg]; exact (below_size (by repeat (first | (with_reducible first | exact HB.out | apply below_alloc | apply pw_below_drewN | apply below_drew1 | refine below_set ?_ GE118.out | refine below_set ?_ GE119.out) | exact HB.out))) : w.heap.size ≤ gb124)); have n15_ := Aside0.mk ((by rw [hg]; exact Nat.ne_of_lt (blk_lt (g := gb118) (o := .cells #[.int .i64 a0_0, .slice A0_1 l0_1.length c0_1, .slice A0_2 l0_2.length c0_2] 47 (0, 0)) (by (with_reducible repeat (first | refine blk_drewN ?_ _ | refine blk_drew ?_ | refine blk_alloc ?_ _)); exact BK118.out)) : gb118 ≠ gb124)); have n16_ := Aside0.mk ((by rw [hg]; exact Nat.ne_of_gt (blk_lt (g := gb118) (o := .cells #[.int .i64 a0_0, .slice A0_1 l0_1.length c0_1, .slice A0_2 l0_2.length c0_2] 47 (0, 0)) (by (with_reducible repeat (first | refine blk_drewN ?_ _ | refine blk_drew ?_ | refine blk_alloc ?_ _)); exact BK118.out)) : gb124 ≠ gb118)); have n17_ := Aside0.mk ((by rw [hg]; exact Nat.ne_of_lt (blk_lt (g := gb119) (o := .cells #[.int .i64 a1_0, .slice A1_1 l1_1.length c1_1, .slice A1_2 l1_2.length c1_2] 47 (0, 0)) (by (with_reducible repeat (first | refine blk_drewN ?_ _ | refine blk_drew ?_ | refine blk_alloc ?_ _)); exact BK119.out)) : gb119 ≠ gb124)); have n18_ := Aside0.mk ((by rw [hg]; exact Nat.ne_of_gt (blk_lt (g := gb119) (o := .cells #[.int .i64 a1_0, .slice A1_1 l1_1.length c1_1, .slice A1_2 l1_2.length c1_2] 47 (0, 0)) (by (with_reducible repeat (first | refine blk_drewN ?_ _ | refine blk_drew ?_ | refine blk_alloc ?_ _)); exact BK119.out)) : gb124 ≠ gb119)); clear HO_18; clear HO_119001; clear HO_119002; clear HO_120001; clear HO_120002; clear HL123_1; clear HL123_2; clear BK118; clear BK119; clear HR123_1; clear HR123_2; clear HB; have HO_18 := n0_; have HO_119001 := n1_; have HO_119002 := n2_; have HO_120001 := n3_; have HO_120002 := n4_; have HL123_1 := n5_; have HL123_2 := n6_; have BK118 := n7_; have BK119 := n8_; have HR123_1 := n9_; have HR123_2 := n10_; have HB := n11_; have BK124 := n12_; have GW124 := n13_; have GE124 := n14_; have NB118_124 := n15_; have NB124_118 := n16_; have NB119_124 := n17_; have NB124_119 := n18_; clear n0_ n1_ n2_ n3_ n4_ n5_ n6_ n7_ n8_ n9_ n10_ n11_ n12_ n13_ n14_ n15_ n16_ n17_ n18_; clear hb hbox hg; have hnb22 := NB124_118.out; have hnc22 := NB118_124.out; have hnb23 := NB124_119.out; have hnc23 := NB119_124.out; have hcz24_0 : w21.cell? ⟨gb124, 0, none⟩ = some (.int .i64 0) := (blk_cell BK124.out 0).trans rfl; have hcz24_1 : w21.cell? ⟨gb124, 1, none⟩ = some (.slice none 0 0) := (blk_cell BK124.out 1).trans rfl; have hcz24_2 : w21.cell? ⟨gb124, 2, none⟩ = some (.slice none 0 0) := (blk_cell BK124.out 2).trans rfl; have hfz24_0 := blk_frozen BK124.out 0; have hfz24_1 := blk_frozen BK124.out 1; have hfz24_2 := blk_frozen BK124.out 2) | (go_at_call 26; (with_reducible refine (seqs_Check.calls ((rd_T47 y120 x20_1).f0) _ _ ((rd_T47 y120 x20_1).f1) _ _ ((rd_T47 y120 x20_1).f2) t125 _ ?side1 ?side2 ?side3 ?side4 A14.out).mono ?_); (case side1 => repeat (first | exact ((Kd.V_reads' (by (with_reducible repeat (first | apply Kd.V_alloc | apply Kd.V_drewN | apply Kd.V_drew)); exact (Kd.V_mono (Kd.V_far (p := ⟨gb124, 2, none⟩) (Kd.V_far (p := ⟨gb124, 1, none⟩) (Kd.V_far (p := ⟨gb124, 0, none⟩) (Kd.V_mono HL123_1.out (fun k_ hk => (⟨hk, hk.2⟩ : _ ∧ k_ ≠ gb124))) (fun _ hk => hk.2) (.int .i64 ((rd_T47 y120 x20_1).f0))) (fun _ hk => hk.2) (.slice A123_1 ((rd_T47 y120 x20_1).f1).length c123_1)) (fun _ hk => hk.2) (.slice A123_2 ((rd_T47 y120 x20_1).f2).length c123_2)) (fun _ h_ => h_.1)))).2.2) | (with_reducible refine Kd.C_alloc ?_ _) | (with_reducible refine Kd.C_drewN ?_ _) | (with_reducible refine Kd.C_drew ?_))); (case side2 => exact HC123_1.out); (case side3 => repeat (first | exact ((Kd.V_reads' (by (with_reducible repeat (first | apply Kd.V_alloc | apply Kd.V_drewN | apply Kd.V_drew)); exact (Kd.V_mono (Kd.V_far (p := ⟨gb124, 2, none⟩) (Kd.V_far (p := ⟨gb124, 1, none⟩) (Kd.V_far (p := ⟨gb124, 0, none⟩) (Kd.V_mono HL123_2.out (fun k_ hk => (⟨hk, hk.2⟩ : _ ∧ k_ ≠ gb124))) (fun _ hk => hk.2) (.int .i64 ((rd_T47 y120 x20_1).f0))) (fun _ hk => hk.2) (.slice A123_1 ((rd_T47 y120 x20_1).f1).length c123_1)) (fun _ hk => hk.2) (.slice A123_2 ((rd_T47 y120 x20_1).f2).length c123_2)) (fun _ h_ => h_.1)))).2.2) | (with_reducible refine Kd.C_alloc ?_ _) | (with_reducible refine Kd.C_drewN ?_ _) | (with_reducible refine Kd.C_drew ?_))); (case side4 => exact HC123_2.out); rintro e w25 ⟨rfl, hb⟩; have n0_ := Aside0.mk (Kd.N_below (by (with_reducible repeat (first | apply Kd.N_alloc | apply Kd.N_drewN | apply Kd.N_drew)); exact (Kd.N_mono (Kd.N_far (p := ⟨gb124, 2, none⟩) (Kd.N_far (p := ⟨gb124, 1, none⟩) (Kd.N_far (p := ⟨gb124, 0, none⟩) (Kd.N_mono HO_18.out (fun k_ hk => (⟨hk, hk.2⟩ : _ ∧ k_ ≠ gb124))) (fun _ hk => hk.2) (.int .i64 ((rd_T47 y120 x20_1).f0))) (fun _ hk => hk.2) (.slice A123_1 ((rd_T47 y120 x20_1).f1).length c123_1)) (fun _ hk => hk.2) (.slice A123_2 ((rd_T47 y120 x20_1).f2).length c123_2)) (fun _ h_ => h_.1))) hb); have n1_ := Aside0.mk (Kd.V_below (by (with_reducible repeat (first | apply Kd.V_alloc | apply Kd.V_drewN | apply Kd.V_drew)); exact (Kd.V_mono (Kd.V_far (p := ⟨gb124, 2, none⟩) (Kd.V_far (p := ⟨gb124, 1, none⟩) (Kd.V_far (p := ⟨gb124, 0, none⟩) (Kd.V_mono HO_119001.out (fun k_ hk => (⟨hk, hk.2⟩ : _ ∧ k_ ≠ gb124))) (fun _ hk => hk.2) (.int .i64 ((rd_T47 y120 x20_1).f0))) (fun _ hk => hk.2) (.slice A123_1 ((rd_T47 y120 x20_1).f1).length c123_1)) (fun _ hk => hk.2) (.slice A123_2 ((rd_T47 y120 x20_1).f2).length c123_2)) (fun _ h_ => h_.1))) hb); have n2_ := Aside0.mk (Kd.V_below (by (with_reducible repeat (first | apply Kd.V_alloc | apply Kd.V_drewN | apply Kd.V_drew)); exact (Kd.V_mono (Kd.V_far (p := ⟨gb124, 2, none⟩) (Kd.V_far (p := ⟨gb124, 1, none⟩) (Kd.V_far (p := ⟨gb124, 0, none⟩) (Kd.V_mono HO_119002.out (fun k_ hk => (⟨hk, hk.2⟩ : _ ∧ k_ ≠ gb124))) (fun _ hk => hk.2) (.int .i64 ((rd_T47 y120 x20_1).f0))) (fun _ hk => hk.2) (.slice A123_1 ((rd_T47 y120 x20_1).f1).length c123_1)) (fun _ hk => hk.2) (.slice A123_2 ((rd_T47 y120 x20_1).f2).length c123_2)) (fun _ h_ => h_.1))) hb); have n3_ := Aside0.mk (Kd.V_below (by (with_reducible repeat (first | apply Kd.V_alloc | apply Kd.V_drewN | apply Kd.V_drew)); exact (Kd.V_mono (Kd.V_far (p := ⟨gb124, 2, none⟩) (Kd.V_far (p := ⟨gb124, 1, none⟩) (Kd.V_far (p := ⟨gb124, 0, none⟩) (Kd.V_mono HO_120001.out (fun k_ hk => (⟨hk, hk.2⟩ : _ ∧ k_ ≠ gb124))) (fun _ hk => hk.2) (.int .i64 ((rd_T47 y120 x20_1).f0))) (fun _ hk => hk.2) (.slice A123_1 ((rd_T47 y120 x20_1).f1).length c123_1)) (fun _ hk => hk.2) (.slice A123_2 ((rd_T47 y120 x20_1).f2).length c123_2)) (fun _ h_ => h_.1))) hb); have n4_ := Aside0.mk (Kd.V_below (by (with_reducible repeat (first | apply Kd.V_alloc | apply Kd.V_drewN | apply Kd.V_drew)); exact (Kd.V_mono (Kd.V_far (p := ⟨gb124, 2, none⟩) (Kd.V_far (p := ⟨gb124, 1, none⟩) (Kd.V_far (p := ⟨gb124, 0, none⟩) (Kd.V_mono HO_120002.out (fun k_ hk => (⟨hk, hk.2⟩ : _ ∧ k_ ≠ gb124))) (fun _ hk => hk.2) (.int .i64 ((rd_T47 y120 x20_1).f0))) (fun _ hk => hk.2) (.slice A123_1 ((rd_T47 y120 x20_1).f1).length c123_1)) (fun _ hk => hk.2) (.slice A123_2 ((rd_T47 y120 x20_1).f2).length c123_2)) (fun _ h_ => h_.1))) hb); have n5_ := Aside0.mk (Kd.V_below (by (with_reducible repeat (first | apply Kd.V_alloc | apply Kd.V_drewN | apply Kd.V_drew)); exact (Kd.V_mono (Kd.V_far (p := ⟨gb124, 2, none⟩) (Kd.V_far (p := ⟨gb124, 1, none⟩) (Kd.V_far (p := ⟨gb124, 0, none⟩) (Kd.V_mono HL123_1.out (fun k_ hk => (⟨hk, hk.2⟩ : _ ∧ k_ ≠ gb124))) (fun _ hk => hk.2) (.int .i64 ((rd_T47 y120 x20_1).f0))) (fun _ hk => hk.2) (.slice A123_1 ((rd_T47 y120 x20_1).f1).length c123_1)) (fun _ hk => hk.2) (.slice A123_2 ((rd_T47 y120 x20_1).f2).length c123_2)) (fun _ h_ => h_.1))) hb); have n6_ := Aside0.mk (Kd.V_below (by (with_reducible repeat (first | apply Kd.V_alloc | apply Kd.V_drewN | apply Kd.V_drew)); exact (Kd.V_mono (Kd.V_far (p := ⟨gb124, 2, none⟩) (Kd.V_far (p := ⟨gb124, 1, none⟩) (Kd.V_far (p := ⟨gb124, 0, none⟩) (Kd.V_mono HL123_2.out (fun k_ hk => (⟨hk, hk.2⟩ : _ ∧ k_ ≠ gb124))) (fun _ hk => hk.2) (.int .i64 ((rd_T47 y120 x20_1).f0))) (fun _ hk => hk.2) (.slice A123_1 ((rd_T47 y120 x20_1).f1).length c123_1)) (fun _ hk => hk.2) (.slice A123_2 ((rd_T47 y120 x20_1).f2).length c123_2)) (fun _ h_ => h_.1))) hb); have n7_ := Aside0.mk (blk_below (g := gb118) (o := .cells #[.int .i64 a0_0, .slice A0_1 l0_1.length c0_1, .slice A0_2 l0_2.length c0_2] 47 (0, 0)) (by (with_reducible repeat (first | refine blk_drewN ?_ _ | refine blk_drew ?_ | refine blk_alloc ?_ _)); refine blk_far ?_ NB118_124.out _; (with_reducible repeat (first | refine blk_drewN ?_ _ | refine blk_drew ?_ | refine blk_alloc ?_ _)); refine blk_far ?_ NB118_124.out _; (with_reducible repeat (first | refine blk_drewN ?_ _ | refine blk_drew ?_ | refine blk_alloc ?_ _)); refine blk_far ?_ NB118_124.out _; (with_reducible repeat (first | refine blk_drewN ?_ _ | refine blk_drew ?_ | refine blk_alloc ?_ _)); exact BK118.out) hb); have n8_ := Aside0.mk (blk_below (g := gb119) (o := .cells #[.int .i64 a1_0, .slice A1_1 l1_1.length c1_1, .slice A1_2 l1_2.length c1_2] 47 (0, 0)) (by (with_reducible repeat (first | refine blk_drewN ?_ _ | refine blk_drew ?_ | refine blk_alloc ?_ _)); refine blk_far ?_ NB119_124.out _; (with_reducible repeat (first | refine blk_drewN ?_ _ | refine blk_drew ?_ | refine blk_alloc ?_ _)); refine blk_far ?_ NB119_124.out _; (with_reducible repeat (first | refine blk_drewN ?_ _ | refine blk_drew ?_ | refine blk_alloc ?_ _)); refine blk_far ?_ NB119_124.out _; (with_reducible repeat (first | refine blk_drewN ?_ _ | refine blk_drew ?_ | refine blk_alloc ?_ _)); exact BK119.out) hb); have n9_ := Aside0.mk (Kd.C_below ((Kd.V_reads' (by (with_reducible repeat (first | apply Kd.V_alloc | apply Kd.V_drewN | apply Kd.V_drew)); exact (Kd.V_mono (Kd.V_far (p := ⟨gb124, 2, none⟩) (Kd.V_far (p := ⟨gb124, 1, none⟩) (Kd.V_far (p := ⟨gb124, 0, none⟩) (Kd.V_mono HL123_1.out (fun k_ hk => (⟨hk, hk.2⟩ : _ ∧ k_ ≠ gb124))) (fun _ hk => hk.2) (.int .i64 ((rd_T47 y120 x20_1).f0))) (fun _ hk => hk.2) (.slice A123_1 ((rd_T47 y120 x20_1).f1).length c123_1)) (fun _ hk => hk.2) (.slice A123_2 ((rd_T47 y120 x20_1).f2).length c123_2)) (fun _ h_ => h_.1)))).2.2) hb); have n10_ := Aside0.mk (Kd.C_below ((Kd.V_reads' (by (with_reducible repeat (first | apply Kd.V_alloc | apply Kd.V_drewN | apply Kd.V_drew)); exact (Kd.V_mono (Kd.V_far (p := ⟨gb124, 2, none⟩) (Kd.V_far (p := ⟨gb124, 1, none⟩) (Kd.V_far (p := ⟨gb124, 0, none⟩) (Kd.V_mono HL123_2.out (fun k_ hk => (⟨hk, hk.2⟩ : _ ∧ k_ ≠ gb124))) (fun _ hk => hk.2) (.int .i64 ((rd_T47 y120 x20_1).f0))) (fun _ hk => hk.2) (.slice A123_1 ((rd_T47 y120 x20_1).f1).length c123_1)) (fun _ hk => hk.2) (.slice A123_2 ((rd_T47 y120 x20_1).f2).length c123_2)) (fun _ h_ => h_.1)))).2.2) hb); have n11_ := Aside0.mk (blk_below (g := gb124) (o := .cells #[.int .i64 ((rd_T47 y120 x20_1).f0), .slice A123_1 ((rd_T47 y120 x20_1).f1).length c123_1, .slice A123_2 ((rd_T47 y120 x20_1).f2).length c123_2] 47 (0, 0)) (by (with_reducible repeat (first | refine blk_drewN ?_ _ | refine blk_drew ?_ | refine blk_alloc ?_ _)); refine blk_put (cs := #[.int .i64 ((rd_T47 y120 x20_1).f0), .slice A123_1 ((rd_T47 y120 x20_1).f1).length c123_1, .slice none 0 0]) ?_ 2 _ rfl; (with_reducible repeat (first | refine blk_drewN ?_ _ | refine blk_drew ?_ | refine blk_alloc ?_ _)); refine blk_put (cs := #[.int .i64 ((rd_T47 y120 x20_1).f0), .slice none 0 0, .slice none 0 0]) ?_ 1 _ rfl; (with_reducible repeat (first | refine blk_drewN ?_ _ | refine blk_drew ?_ | refine blk_alloc ?_ _)); refine blk_put (cs := #[.int .i64 0, .slice none 0 0, .slice none 0 0]) ?_ 0 _ rfl; (with_reducible repeat (first | refine blk_drewN ?_ _ | refine blk_drew ?_ | refine blk_alloc ?_ _)); exact BK124.out) hb); have n12_ := Aside0.mk (below_step (by repeat (first | (with_reducible first | exact HB.out | apply below_alloc | apply pw_below_drewN | apply below_drew1 | refine below_set ?_ GE118.out | refine below_set ?_ GE119.out | refine below_set ?_ GE124.out) | exact HB.out)) hb); clear HO_18; clear HO_119001; clear HO_119002; clear HO_120001; clear HO_120002; clear HL123_1; clear HL123_2; clear BK118; clear BK119; clear HR123_1; clear HR123_2; clear BK124; clear HB; have HO_18 := n0_; have HO_119001 := n1_; have HO_119002 := n2_; have HO_120001 := n3_; have HO_120002 := n4_; have HL123_1 := n5_; have HL123_2 := n6_; have BK118 := n7_; have BK119 := n8_; have HR123_1 := n9_; have HR123_2 := n10_; have BK124 := n11_; have HB := n12_; clear n0_ n1_ n2_ n3_ n4_ n5_ n6_ n7_ n8_ n9_ n10_ n11_ n12_; (try clear hb); (try clear hb2); (try clear hk); (try clear hi))))
   go_ret3
   exact ⟨by first | rfl | (simp [errW_none, errW_some] <;> rfl) | (simp [*, errW_none, errW_some] <;> rfl), by repeat (first | (with_reducible first | exact HB.out | apply below_alloc | apply pw_below_drewN | apply below_drew1 | refine below_set ?_ GE118.out | refine below_set ?_ GE119.out | refine below_set ?_ GE124.out) | exact HB.out)⟩
 ·rw [if_neg c13] at H
  exact absurd H (by simp))
    ·(
 rw [if_neg c12] at H
 exact absurd H (by simp))
   ·rw [if_neg c11] at H
    have c11b0 : decide (x20_1 < (y120.length : Int)) = false := decide_eq_false c11
    clear c11
    by_cases c26 : a0_0 = a1_0
    ·(
 rw [if_pos c26] at H
 have c26b0 : (a0_0 == a1_0) = true := beq_iff_eq.mpr c26
 have c26b1 : (a0_0 != a1_0) = false := bne_eq_false_iff_eq.mpr c26
 clear c26
 obtain ⟨y127, hy127⟩ : ∃ y_ : List ((Int × Int) × Int), y_ = (mput ([] : List ((Int × Int) × Int)) (0, 0) 1) := ⟨_, rfl⟩
 replace H : (seqs_Differ.l1 k1 (([(⟨0, 0, 0⟩ : S97)] : List (S97))) a0_0 l0_1 l0_2 a1_0 l1_1 l1_2 y127) = some (r1, r2, r3) := by first | (rw [hy127]; with_reducible exact H) | (have H2_ := (Option.bind_some _ _).symm.trans H; rw [hy127]; with_reducible exact H2_) | (have H2_ := (Option.bind_some _ _).symm.trans H; with_reducible exact H2_) | with_reducible exact H | (rw [hy127]; exact H) | exact H
 have Ny127 := Aside0.mk hy127
 clear hy127
 obtain ⟨y128, hy128⟩ : ∃ y_ : List (S97), y_ = (([(⟨0, 0, 0⟩ : S97)] : List (S97))) := ⟨_, rfl⟩
 replace H : (seqs_Differ.l1 k1 y128 a0_0 l0_1 l0_2 a1_0 l1_1 l1_2 y127) = some (r1, r2, r3) := by first | (rw [hy128]; with_reducible exact H) | (have H2_ := (Option.bind_some _ _).symm.trans H; rw [hy128]; with_reducible exact H2_) | (have H2_ := (Option.bind_some _ _).symm.trans H; with_reducible exact H2_) | with_reducible exact H | (rw [hy128]; exact H) | exact H
 have Ny128 := Aside0.mk hy128
 clear hy128
 have H' := Aside0.mk H
 clear H
 have hnb27 := NB118_119.out
 have hnc27 := NB119_118.out
 have hcz28_0 : wr.cell? ⟨gb118, 0, none⟩ = some (.int .i64 a0_0) := (blk_cell BK118.out 0).trans rfl
 have hcz28_1 : wr.cell? ⟨gb118, 1, none⟩ = some (.slice A0_1 l0_1.length c0_1) := (blk_cell BK118.out 1).trans rfl
 have hcz28_2 : wr.cell? ⟨gb118, 2, none⟩ = some (.slice A0_2 l0_2.length c0_2) := (blk_cell BK118.out 2).trans rfl
 have hfz28_0 := blk_frozen BK118.out 0
 have hfz28_1 := blk_frozen BK118.out 1
 have hfz28_2 := blk_frozen BK118.out 2
 have hcz29_0 : wr.cell? ⟨gb119, 0, none⟩ = some (.int .i64 a1_0) := (blk_cell BK119.out 0).trans rfl
 have hcz29_1 : wr.cell? ⟨gb119, 1, none⟩ = some (.slice A1_1 l1_1.length c1_1) := (blk_cell BK119.out 1).trans rfl
 have hcz29_2 : wr.cell? ⟨gb119, 2, none⟩ = some (.slice A1_2 l1_2.length c1_2) := (blk_cell BK119.out 2).trans rfl
 have hfz29_0 := blk_frozen BK119.out 0
 have hfz29_1 := blk_frozen BK119.out 1
 have hfz29_2 := blk_frozen BK119.out 2
 iterate 4 ((try go_quiet (fail)); try go_wp2_with (first | ((with_reducible refine gate_dst (N := 35) rfl ?_); refine mmade_event (t := 95) (fun p_ : Int × Int => Value.agg #[Value.int .i64 p_.1, Value.int .i64 p_.2]) (Value.int .i64) ?hg (N := 35) ?hd ?ho ?_; (case hd => rfl); (case hg => rfl); (case ho => rfl); intro gb126 hg w30 hbox hb; have n0_ := Aside0.mk (Kd.N_below (Kd.N_elderB (by (with_reducible repeat (first | apply Kd.N_alloc | apply Kd.N_drewN | apply Kd.N_drew)); exact HO_18.out) gb126 (Nat.le_of_eq hg.symm)) hb); have n1_ := Aside0.mk (Kd.V_below (Kd.V_elderB (by (with_reducible repeat (first | apply Kd.V_alloc | apply Kd.V_drewN | apply Kd.V_drew)); exact HO_119001.out) gb126 (Nat.le_of_eq hg.symm)) hb); have n2_ := Aside0.mk (Kd.V_below (Kd.V_elderB (by (with_reducible repeat (first | apply Kd.V_alloc | apply Kd.V_drewN | apply Kd.V_drew)); exact HO_119002.out) gb126 (Nat.le_of_eq hg.symm)) hb); have n3_ := Aside0.mk (Kd.V_below (Kd.V_elderB (by (with_reducible repeat (first | apply Kd.V_alloc | apply Kd.V_drewN | apply Kd.V_drew)); exact HO_120001.out) gb126 (Nat.le_of_eq hg.symm)) hb); have n4_ := Aside0.mk (Kd.V_below (Kd.V_elderB (by (with_reducible repeat (first | apply Kd.V_alloc | apply Kd.V_drewN | apply Kd.V_drew)); exact HO_120002.out) gb126 (Nat.le_of_eq hg.symm)) hb); have n5_ := Aside0.mk (blk_below (g := gb118) (o := .cells #[.int .i64 a0_0, .slice A0_1 l0_1.length c0_1, .slice A0_2 l0_2.length c0_2] 47 (0, 0)) (by (with_reducible repeat (first | refine blk_drewN ?_ _ | refine blk_drew ?_ | refine blk_alloc ?_ _)); exact BK118.out) hb); have n6_ := Aside0.mk (blk_below (g := gb119) (o := .cells #[.int .i64 a1_0, .slice A1_1 l1_1.length c1_1, .slice A1_2 l1_2.length c1_2] 47 (0, 0)) (by (with_reducible repeat (first | refine blk_drewN ?_ _ | refine blk_drew ?_ | refine blk_alloc ?_ _)); exact BK119.out) hb); have n7_ := Aside0.mk (below_step (by repeat (first | (with_reducible first | exact HB.out | apply below_alloc | apply pw_below_drewN | apply below_drew1 | refine below_set ?_ GE118.out | refine below_set ?_ GE119.out) | exact HB.out)) hb); have n8_ := Aside0.mk (hbox); have n9_ := Aside0.mk ((by rw [hg]; exact (below_size (by repeat (first | (with_reducible first | exact HB.out | apply below_alloc | apply pw_below_drewN | apply below_drew1 | refine below_set ?_ GE118.out | refine below_set ?_ GE119.out) | exact HB.out))) : w.heap.size ≤ gb126)); have n10_ := Aside0.mk ((by rw [hg]; exact (below_size (by repeat (first | (with_reducible first | exact HB.out | apply below_alloc | apply pw_below_drewN | apply below_drew1 | refine below_set ?_ GE118.out | refine below_set ?_ GE119.out) | exact HB.out))) : w.heap.size ≤ gb126)); have n11_ := Aside0.mk ((by rw [hg]; exact Nat.ne_of_lt (blk_lt (g := gb118) (o := .cells #[.int .i64 a0_0, .slice A0_1 l0_1.length c0_1, .slice A0_2 l0_2.length c0_2] 47 (0, 0)) (by (with_reducible repeat (first | refine blk_drewN ?_ _ | refine blk_drew ?_ | refine blk_alloc ?_ _)); exact BK118.out)) : gb118 ≠ gb126)); have n12_ := Aside0.mk ((by rw [hg]; exact Nat.ne_of_gt (blk_lt (g := gb118) (o := .cells #[.int .i64 a0_0, .slice A0_1 l0_1.length c0_1, .slice A0_2 l0_2.length c0_2] 47 (0, 0)) (by (with_reducible repeat (first | refine blk_drewN ?_ _ | refine blk_drew ?_ | refine blk_alloc ?_ _)); exact BK118.out)) : gb126 ≠ gb118)); have n13_ := Aside0.mk ((by rw [hg]; exact Nat.ne_of_lt (blk_lt (g := gb119) (o := .cells #[.int .i64 a1_0, .slice A1_1 l1_1.length c1_1, .slice A1_2 l1_2.length c1_2] 47 (0, 0)) (by (with_reducible repeat (first | refine blk_drewN ?_ _ | refine blk_drew ?_ | refine blk_alloc ?_ _)); exact BK119.out)) : gb119 ≠ gb126)); have n14_ := Aside0.mk ((by rw [hg]; exact Nat.ne_of_gt (blk_lt (g := gb119) (o := .cells #[.int .i64 a1_0, .slice A1_1 l1_1.length c1_1, .slice A1_2 l1_2.length c1_2] 47 (0, 0)) (by (with_reducible repeat (first | refine blk_drewN ?_ _ | refine blk_drew ?_ | refine blk_alloc ?_ _)); exact BK119.out)) : gb126 ≠ gb119)); clear HO_18; clear HO_119001; clear HO_119002; clear HO_120001; clear HO_120002; clear BK118; clear BK119; clear HB; have HO_18 := n0_; have HO_119001 := n1_; have HO_119002 := n2_; have HO_120001 := n3_; have HO_120002 := n4_; have BK118 := n5_; have BK119 := n6_; have HB := n7_; have MK126 := n8_; have GW126 := n9_; have GE126 := n10_; have NB118_126 := n11_; have NB126_118 := n12_; have NB119_126 := n13_; have NB126_119 := n14_; clear n0_ n1_ n2_ n3_ n4_ n5_ n6_ n7_ n8_ n9_ n10_ n11_ n12_ n13_ n14_; clear hb hbox hg) | ((with_reducible refine gate_mins (t := 95) (p := 35) rfl ?_); refine mput_event (t := 95) (kt := 87) (vt := 3) (g := gb126) (mkey_arr2 Try.underlying87 Try.underlying3 (by kernel_rfl) (by kernel_rfl)) Try.underlying95 (.inr rfl) (0, 0) 1 (show _ = some (mObj (fun p_ : Int × Int => Value.agg #[Value.int .i64 p_.1, Value.int .i64 p_.2]) (Value.int .i64) ([] : List ((Int × Int) × Int))) from by (with_reducible repeat (first | refine blk_drewN ?_ _ | refine blk_drew ?_ | refine blk_alloc ?_ _)); exact MK126.out) ?hg ?hn ?hm ?hk ?hv ?_; (case hg => rfl); (case hn => rfl); (case hm => rfl); (case hk => first | rfl | (go_simp; done) | (go_simp; rfl)); (case hv => first | rfl | (go_simp; done) | (go_simp; rfl)); intro w31 hbox hg hcell; rw [← Ny127.out] at hbox; have n0_ := Aside0.mk (Kd.N_grown (by (with_reducible repeat (first | apply Kd.N_alloc | apply Kd.N_drewN | apply Kd.N_drew)); exact HO_18.out) hg (fun k_ hk e_ => by exact (hk.2) (Option.some.inj e_))); have n1_ := Aside0.mk (Kd.V_grown (by (with_reducible repeat (first | apply Kd.V_alloc | apply Kd.V_drewN | apply Kd.V_drew)); exact HO_119001.out) hg (fun k_ hk e_ => by exact (hk.2) (Option.some.inj e_))); have n2_ := Aside0.mk (Kd.V_grown (by (with_reducible repeat (first | apply Kd.V_alloc | apply Kd.V_drewN | apply Kd.V_drew)); exact HO_119002.out) hg (fun k_ hk e_ => by exact (hk.2) (Option.some.inj e_))); have n3_ := Aside0.mk (Kd.V_grown (by (with_reducible repeat (first | apply Kd.V_alloc | apply Kd.V_drewN | apply Kd.V_drew)); exact HO_120001.out) hg (fun k_ hk e_ => by exact (hk.2) (Option.some.inj e_))); have n4_ := Aside0.mk (Kd.V_grown (by (with_reducible repeat (first | apply Kd.V_alloc | apply Kd.V_drewN | apply Kd.V_drew)); exact HO_120002.out) hg (fun k_ hk e_ => by exact (hk.2) (Option.some.inj e_))); have n5_ := Aside0.mk (blk_grown (g := gb118) (o := .cells #[.int .i64 a0_0, .slice A0_1 l0_1.length c0_1, .slice A0_2 l0_2.length c0_2] 47 (0, 0)) (by (with_reducible repeat (first | refine blk_drewN ?_ _ | refine blk_drew ?_ | refine blk_alloc ?_ _)); exact BK118.out) hg (fun e_ => NB118_126.out (Option.some.inj e_))); have n6_ := Aside0.mk (blk_grown (g := gb119) (o := .cells #[.int .i64 a1_0, .slice A1_1 l1_1.length c1_1, .slice A1_2 l1_2.length c1_2] 47 (0, 0)) (by (with_reducible repeat (first | refine blk_drewN ?_ _ | refine blk_drew ?_ | refine blk_alloc ?_ _)); exact BK119.out) hg (fun e_ => NB119_126.out (Option.some.inj e_))); have n7_ := Aside0.mk (hbox); have n8_ := Aside0.mk (below_mput (by repeat (first | (with_reducible first | exact HB.out | apply below_alloc | apply pw_below_drewN | apply below_drew1 | refine below_set ?_ GE118.out | refine below_set ?_ GE119.out | refine below_set ?_ GE126.out) | exact HB.out)) (below_size (by repeat (first | (with_reducible first | exact HB.out | apply below_alloc | apply pw_below_drewN | apply below_drew1 | refine below_set ?_ GE118.out | refine below_set ?_ GE119.out | refine below_set ?_ GE126.out) | exact HB.out))) GE126.out hg); clear HO_18; clear HO_119001; clear HO_119002; clear HO_120001; clear HO_120002; clear BK118; clear BK119; clear MK126; clear HB; have HO_18 := n0_; have HO_119001 := n1_; have HO_119002 := n2_; have HO_120001 := n3_; have HO_120002 := n4_; have BK118 := n5_; have BK119 := n6_; have MK126 := n7_; have HB := n8_; clear n0_ n1_ n2_ n3_ n4_ n5_ n6_ n7_ n8_; clear hg hbox hcell) | ((with_reducible refine gate_dst (N := 39) rfl ?_); refine Kd.R_lit k97 _ 97 ?hg (N := 39) ?hd (xs := ([(⟨0, 0, 0⟩ : S97)] : List (S97))) (inner := [.int .i64 0, .int .i64 0, .int .i64 0]) (ok := fun _ => True) (okp := fun _ => True) ?hr ?hp (fun _ hk => hk) trivial (Below.refl _ _) (Nat.le_refl _) (by simp) ?_; (case hd => rfl); (case hg => rfl); (case hr => first | (go_simp; done) | (go_simp; rfl)); (case hp => exact (Reps.c3 (show Kd.M k97 _ _ _ (⟨0, 0, 0⟩ : S97) [.int .i64 0, .int .i64 0, .int .i64 0] from (k97_mkM _ _ _ (⟨0, 0, 0⟩ : S97) )) (Reps.none _ _))); intro v129 w32 ho33 hb hg_ hnew_; clear hg_ hnew_; (first | rw [← Ny128.out] at ho33 | (simp only [Int.reduceToNat] at ho33; rw [← Ny128.out] at ho33)); have n0_ := Aside0.mk (Kd.N_elder' (by (with_reducible repeat (first | apply Kd.N_alloc | apply Kd.N_drewN | apply Kd.N_drew)); exact HO_18.out) (Kd.R_base ho33) hb); have n1_ := Aside0.mk (Kd.V_elder' (by (with_reducible repeat (first | apply Kd.V_alloc | apply Kd.V_drewN | apply Kd.V_drew)); exact HO_119001.out) (Kd.R_base ho33) hb); have n2_ := Aside0.mk (Kd.V_elder' (by (with_reducible repeat (first | apply Kd.V_alloc | apply Kd.V_drewN | apply Kd.V_drew)); exact HO_119002.out) (Kd.R_base ho33) hb); have n3_ := Aside0.mk (Kd.V_elder' (by (with_reducible repeat (first | apply Kd.V_alloc | apply Kd.V_drewN | apply Kd.V_drew)); exact HO_120001.out) (Kd.R_base ho33) hb); have n4_ := Aside0.mk (Kd.V_elder' (by (with_reducible repeat (first | apply Kd.V_alloc | apply Kd.V_drewN | apply Kd.V_drew)); exact HO_120002.out) (Kd.R_base ho33) hb); have n5_ := Aside0.mk (Kd.R_lower (Kd.R_newM (M := fun k_ => (w.heap.size ≤ k_)) ho33 (below_size (by repeat (first | (with_reducible first | exact HB.out | apply below_alloc | apply pw_below_drewN | apply below_drew1 | refine below_set ?_ GE118.out | refine below_set ?_ GE119.out | refine below_set ?_ GE126.out) | exact HB.out))) (fun k_ h_ => h_)) (below_size (by repeat (first | (with_reducible first | exact HB.out | apply below_alloc | apply pw_below_drewN | apply below_drew1 | refine below_set ?_ GE118.out | refine below_set ?_ GE119.out | refine below_set ?_ GE126.out) | exact HB.out)))); have n6_ := Aside0.mk (blk_below (g := gb118) (o := .cells #[.int .i64 a0_0, .slice A0_1 l0_1.length c0_1, .slice A0_2 l0_2.length c0_2] 47 (0, 0)) (by (with_reducible repeat (first | refine blk_drewN ?_ _ | refine blk_drew ?_ | refine blk_alloc ?_ _)); exact BK118.out) hb); have n7_ := Aside0.mk (blk_below (g := gb119) (o := .cells #[.int .i64 a1_0, .slice A1_1 l1_1.length c1_1, .slice A1_2 l1_2.length c1_2] 47 (0, 0)) (by (with_reducible repeat (first | refine blk_drewN ?_ _ | refine blk_drew ?_ | refine blk_alloc ?_ _)); exact BK119.out) hb); have n8_ := Aside0.mk (blk_below (g := gb126) (o := mObj (fun p_ : Int × Int => Value.agg #[Value.int .i64 p_.1, Value.int .i64 p_.2]) (Value.int .i64) y127) (by (with_reducible repeat (first | refine blk_drewN ?_ _ | refine blk_drew ?_ | refine blk_alloc ?_ _)); exact MK126.out) hb); have n9_ := Aside0.mk (below_step (by repeat (first | (with_reducible first | exact HB.out | apply below_alloc | apply pw_below_drewN | apply below_drew1 | refine below_set ?_ GE118.out | refine below_set ?_ GE119.out | refine below_set ?_ GE126.out) | exact HB.out)) hb); clear HO_18; clear HO_119001; clear HO_119002; clear HO_120001; clear HO_120002; clear BK118; clear BK119; clear MK126; clear HB; have HO_18 := n0_; have HO_119001 := n1_; have HO_119002 := n2_; have HO_120001 := n3_; have HO_120002 := n4_; have HO130 := n5_; have BK118 := n6_; have BK119 := n7_; have MK126 := n8_; have HB := n9_; clear n0_ n1_ n2_ n3_ n4_ n5_ n6_ n7_ n8_ n9_; clear hb ho33)))
 go_loopg [11] k1 (fun kq v11 w' => ∃ (x11_2 : List (S97)) (x127000_2 : List ((Int × Int) × Int)), Aside0 (seqs_Differ.l1 kq x11_2 a0_0 l0_1 l0_2 a1_0 l1_1 l1_2 x127000_2 = some (r1, r2, r3)) ∧ Aside0 (kq ≤ k1) ∧ Aside0 (Kd.Q k97 97 w' w.heap.size (fun k_ => (w.heap.size ≤ k_)) v11 x11_2) ∧ Aside0 (Kd.V (Kd.slice 3 (Kd.int .i64)) 26 w' w.heap.size (fun k_ => ((P0_1_ k_ ∨ P0_2_ k_ ∨ P1_1_ k_ ∨ P1_2_ k_) ∨ w.heap.size ≤ k_) ∧ some k_ ≠ (v11 : Value).ownBlock ∧ k_ ≠ gb118 ∧ k_ ≠ gb119 ∧ k_ ≠ gb126) (.slice A0_1 l0_1.length c0_1) l0_1) ∧ Aside0 (Kd.V (Kd.int .i64) 3 w' w.heap.size (fun k_ => ((P0_1_ k_ ∨ P0_2_ k_ ∨ P1_1_ k_ ∨ P1_2_ k_) ∨ w.heap.size ≤ k_) ∧ some k_ ≠ (v11 : Value).ownBlock ∧ k_ ≠ gb118 ∧ k_ ≠ gb119 ∧ k_ ≠ gb126) (.slice A0_2 l0_2.length c0_2) l0_2) ∧ Aside0 (Kd.V (Kd.slice 3 (Kd.int .i64)) 26 w' w.heap.size (fun k_ => ((P0_1_ k_ ∨ P0_2_ k_ ∨ P1_1_ k_ ∨ P1_2_ k_) ∨ w.heap.size ≤ k_) ∧ some k_ ≠ (v11 : Value).ownBlock ∧ k_ ≠ gb118 ∧ k_ ≠ gb119 ∧ k_ ≠ gb126) (.slice A1_1 l1_1.length c1_1) l1_1) ∧ Aside0 (Kd.V (Kd.int .i64) 3 w' w.heap.size (fun k_ => ((P0_1_ k_ ∨ P0_2_ k_ ∨ P1_1_ k_ ∨ P1_2_ k_) ∨ w.heap.size ≤ k_) ∧ some k_ ≠ (v11 : Value).ownBlock ∧ k_ ≠ gb118 ∧ k_ ≠ gb119 ∧ k_ ≠ gb126) (.slice A1_2 l1_2.length c1_2) l1_2) ∧ Aside0 (w'.heap[gb118]? = some (.cells #[.int .i64 a0_0, (.slice A0_1 l0_1.length c0_1), (.slice A0_2 l0_2.length c0_2)] 47 (0, 0))) ∧ Aside0 (w'.heap[gb119]? = some (.cells #[.int .i64 a1_0, (.slice A1_1 l1_1.length c1_1), (.slice A1_2 l1_2.length c1_2)] 47 (0, 0))) ∧ Aside0 (w'.heap[gb126]? = some (mObj (fun p_ : Int × Int => Value.agg #[Value.int .i64 p_.1, Value.int .i64 p_.2]) (Value.int .i64) x127000_2)) ∧ Aside0 (Below w.heap.size w w'))
 case atStart => exact ⟨(y128), (y127), H', ⟨Nat.le_refl _⟩, ⟨Kd.Q_of_R (by (with_reducible repeat (first | apply Kd.R_alloc | apply Kd.R_drewN | apply Kd.R_drew)); exact Kd.R_mono HO130.out (fun _ hk => hk.1))⟩, ⟨by (with_reducible repeat (first | apply Kd.V_alloc | apply Kd.V_drewN | apply Kd.V_drew)); exact Kd.V_mono HO_119001.out (fun _ hk => ⟨hk.1.1.1, ⟨hk.2, ⟨hk.1.1.2.2.1, ⟨hk.1.1.2.2.2, hk.1.2⟩⟩⟩⟩)⟩, ⟨by (with_reducible repeat (first | apply Kd.V_alloc | apply Kd.V_drewN | apply Kd.V_drew)); exact Kd.V_mono HO_119002.out (fun _ hk => ⟨hk.1.1.1, ⟨hk.2, ⟨hk.1.1.2.2.1, ⟨hk.1.1.2.2.2, hk.1.2⟩⟩⟩⟩)⟩, ⟨by (with_reducible repeat (first | apply Kd.V_alloc | apply Kd.V_drewN | apply Kd.V_drew)); exact Kd.V_mono HO_120001.out (fun _ hk => ⟨hk.1.1.1, ⟨hk.2, ⟨hk.1.1.2.2.1, ⟨hk.1.1.2.2.2, hk.1.2⟩⟩⟩⟩)⟩, ⟨by (with_reducible repeat (first | apply Kd.V_alloc | apply Kd.V_drewN | apply Kd.V_drew)); exact Kd.V_mono HO_120002.out (fun _ hk => ⟨hk.1.1.1, ⟨hk.2, ⟨hk.1.1.2.2.1, ⟨hk.1.1.2.2.2, hk.1.2⟩⟩⟩⟩)⟩, ⟨by (with_reducible repeat (first | refine blk_drewN ?_ _ | refine blk_drew ?_ | refine blk_alloc ?_ _)); exact BK118.out⟩, ⟨by (with_reducible repeat (first | refine blk_drewN ?_ _ | refine blk_drew ?_ | refine blk_alloc ?_ _)); exact BK119.out⟩, ⟨by (with_reducible repeat (first | refine blk_drewN ?_ _ | refine blk_drew ?_ | refine blk_alloc ?_ _)); exact MK126.out⟩, ⟨by repeat (first | (with_reducible first | exact HB.out | apply below_alloc | apply pw_below_drewN | apply below_drew1 | refine below_set ?_ GE118.out | refine below_set ?_ GE119.out | refine below_set ?_ GE126.out) | exact HB.out)⟩⟩
 case round =>
  clear H'
  try clear c1
  try clear p1
  try clear q1
  try clear hx1
  try clear c2
  try clear p2
  try clear c3
  try clear c5
  try clear p6
  try clear c11
  try clear c11b0
  try clear c12
  try clear c12b0
  try clear p12
  try clear q12
  try clear hx12
  try clear c13
  try clear c13b0
  try clear c15
  try clear c15b0
  try clear c15b1
  try clear c17
  try clear c18
  try clear c22
  try clear c23
  try clear c26
  try clear c26b0
  try clear c26b1
  try clear c27
  try clear hcz19_0
  try clear hcz19_1
  try clear hcz19_2
  try clear hcz24_0
  try clear hcz24_1
  try clear hcz24_2
  try clear hcz28_0
  try clear hcz28_1
  try clear hcz28_2
  try clear hcz29_0
  try clear hcz29_1
  try clear hcz29_2
  try clear hcz6_0
  try clear hcz6_1
  try clear hcz6_2
  try clear hcz7_0
  try clear hcz7_1
  try clear hcz7_2
  try clear hfz19_0
  try clear hfz19_1
  try clear hfz19_2
  try clear hfz24_0
  try clear hfz24_1
  try clear hfz24_2
  try clear hfz28_0
  try clear hfz28_1
  try clear hfz28_2
  try clear hfz29_0
  try clear hfz29_1
  try clear hfz29_2
  try clear hfz6_0
  try clear hfz6_1
  try clear hfz6_2
  try clear hfz7_0
  try clear hfz7_1
  try clear hfz7_2
  try clear hx123_0
  try clear hx123_1
  try clear hx123_2
  try clear p123
  try clear p2
  try clear q123
  obtain ⟨x11_2, x127000_2, HA, HK2, HO_11, HO_119001, HO_119002, HO_120001, HO_120002, BK118, BK119, MK126, HB⟩ := hrel
  cases gk with
  | zero => exact absurd HA.out (by simp [seqs_Differ.l1])
  | succ k2 =>
   have H := HA.out
   clear HA
   simp only [seqs_Differ.l1] at H
   by_cases c34 : (x11_2.length : Int) > 0
   ·rw [if_pos c34] at H
    have c34b0 : decide (0 < (x11_2.length : Int)) = true := decide_eq_true c34
    have c34b1 : decide (0 < x11_2.length) = true := decide_eq_true (by omega)
    clear c34
    by_cases c35 : 0 < (x11_2.length : Int)
    ·(
 rw [if_pos c35] at H
 have c35b0 : decide (0 < (x11_2.length : Int)) = true := decide_eq_true c35
 have c35b1 : decide (0 < x11_2.length) = true := decide_eq_true (by omega)
 clear c35
 by_cases c36 : 0 ≤ ((rd_T97 x11_2 0).f0)
 ·rw [if_pos c36] at H
  have c36b0 : decide (0 ≤ ((rd_T97 x11_2 0).f0)) = true := decide_eq_true c36
  clear c36
  by_cases c37 : ((rd_T97 x11_2 0).f0) < (l0_2.length : Int)
  ·rw [if_pos c37] at H
   have c37b0 : decide (((rd_T97 x11_2 0).f0) < (l0_2.length : Int)) = true := decide_eq_true c37
   clear c37
   by_cases c38 : 0 ≤ ((rd_T97 x11_2 0).f1)
   ·rw [if_pos c38] at H
    have c38b0 : decide (0 ≤ ((rd_T97 x11_2 0).f1)) = true := decide_eq_true c38
    clear c38
    by_cases c39 : ((rd_T97 x11_2 0).f1) < (l1_2.length : Int)
    ·(
 rw [if_pos c39] at H
 have c39b0 : decide (((rd_T97 x11_2 0).f1) < (l1_2.length : Int)) = true := decide_eq_true c39
 clear c39
 by_cases c40 : (rd l0_2 ((rd_T97 x11_2 0).f0)) = (rd l1_2 ((rd_T97 x11_2 0).f1))
 ·rw [if_pos c40] at H
  have c40b0 : ((rd l0_2 ((rd_T97 x11_2 0).f0)) == (rd l1_2 ((rd_T97 x11_2 0).f1))) = true := beq_iff_eq.mpr c40
  have c40b1 : ((rd l0_2 ((rd_T97 x11_2 0).f0)) != (rd l1_2 ((rd_T97 x11_2 0).f1))) = false := bne_eq_false_iff_eq.mpr c40
  clear c40
  have H' := Aside0.mk H
  clear H
  obtain ⟨Ao41, co41, eo41, _⟩ := Kd.Q_slice HO_11.out
  subst eo41
  have p131 : 0 ≤ (0 : Int) := (by omega)
  have q131 : 0 < (x11_2.length : Int) := of_decide_eq_true (by first | (with_reducible assumption) | assumption)
  obtain ⟨ad131, e131, hx131_0, hx131_1, hx131_2⟩ := at_T97 (Kd.Q_reads' HO_11.out).2.2 0 p131 q131
  cases e131
  have qi131 : (0 < x11_2.length) = True := eq_true (by omega)
  (try rw [show ((0 : Int)).toNat = 0 from rfl] at hx131_0)
  (try rw [show 0 * 3 = 0 from rfl] at hx131_0)
  (try rw [Addr.add_zero'] at hx131_0)
  (try rw [show ((0 : Int)).toNat = 0 from rfl] at hx131_1)
  (try rw [show 0 * 3 = 0 from rfl] at hx131_1)
  (try rw [Addr.add_zero'] at hx131_1)
  (try rw [show ((0 : Int)).toNat = 0 from rfl] at hx131_2)
  (try rw [show 0 * 3 = 0 from rfl] at hx131_2)
  (try rw [Addr.add_zero'] at hx131_2)
  replace p131 := eq_true p131
  replace q131 := eq_true q131
  iterate 4 ((try go_quiet (fail)); try go_wp2_with (first | ((with_reducible refine gate_dst (N := 12) rfl ?_); refine box_event ?hg (N := 12) ?hd (cs := #[.int .i64 0, .int .i64 0, .int .i64 0]) (t := 97) ?hr ?_; (case hd => rfl); (case hg => rfl); (case hr => first | (go_simp; done) | (go_simp; rfl)); intro gb132 hg w42 hbox hb; have n0_ := Aside0.mk (Kd.Q_below (Kd.Q_elderB (by (with_reducible repeat (first | apply Kd.Q_alloc | apply Kd.Q_drewN | apply Kd.Q_drew)); exact HO_11.out) gb132 (Nat.le_of_eq hg.symm)) hb); have n1_ := Aside0.mk (Kd.V_below (Kd.V_elderB (by (with_reducible repeat (first | apply Kd.V_alloc | apply Kd.V_drewN | apply Kd.V_drew)); exact HO_119001.out) gb132 (Nat.le_of_eq hg.symm)) hb); have n2_ := Aside0.mk (Kd.V_below (Kd.V_elderB (by (with_reducible repeat (first | apply Kd.V_alloc | apply Kd.V_drewN | apply Kd.V_drew)); exact HO_119002.out) gb132 (Nat.le_of_eq hg.symm)) hb); have n3_ := Aside0.mk (Kd.V_below (Kd.V_elderB (by (with_reducible repeat (first | apply Kd.V_alloc | apply Kd.V_drewN | apply Kd.V_drew)); exact HO_120001.out) gb132 (Nat.le_of_eq hg.symm)) hb); have n4_ := Aside0.mk (Kd.V_below (Kd.V_elderB (by (with_reducible repeat (first | apply Kd.V_alloc | apply Kd.V_drewN | apply Kd.V_drew)); exact HO_120002.out) gb132 (Nat.le_of_eq hg.symm)) hb); have n5_ := Aside0.mk (blk_below (g := gb118) (o := .cells #[.int .i64 a0_0, .slice A0_1 l0_1.length c0_1, .slice A0_2 l0_2.length c0_2] 47 (0, 0)) (by (with_reducible repeat (first | refine blk_drewN ?_ _ | refine blk_drew ?_ | refine blk_alloc ?_ _)); exact BK118.out) hb); have n6_ := Aside0.mk (blk_below (g := gb119) (o := .cells #[.int .i64 a1_0, .slice A1_1 l1_1.length c1_1, .slice A1_2 l1_2.length c1_2] 47 (0, 0)) (by (with_reducible repeat (first | refine blk_drewN ?_ _ | refine blk_drew ?_ | refine blk_alloc ?_ _)); exact BK119.out) hb); have n7_ := Aside0.mk (blk_below (g := gb126) (o := mObj (fun p_ : Int × Int => Value.agg #[Value.int .i64 p_.1, Value.int .i64 p_.2]) (Value.int .i64) x127000_2) (by (with_reducible repeat (first | refine blk_drewN ?_ _ | refine blk_drew ?_ | refine blk_alloc ?_ _)); exact MK126.out) hb); have n8_ := Aside0.mk (below_step (by repeat (first | (with_reducible first | exact HB.out | apply below_alloc | apply pw_below_drewN | apply below_drew1 | refine below_set ?_ GE118.out | refine below_set ?_ GE119.out | refine below_set ?_ GE126.out) | exact HB.out)) hb); have n9_ := Aside0.mk (hbox); have n10_ := Aside0.mk ((by rw [hg]; exact (below_size (by repeat (first | (with_reducible first | exact HB.out | apply below_alloc | apply pw_below_drewN | apply below_drew1 | refine below_set ?_ GE118.out | refine below_set ?_ GE119.out | refine below_set ?_ GE126.out) | exact HB.out))) : w.heap.size ≤ gb132)); have n11_ := Aside0.mk ((by rw [hg]; exact (below_size (by repeat (first | (with_reducible first | exact HB.out | apply below_alloc | apply pw_below_drewN | apply below_drew1 | refine below_set ?_ GE118.out | refine below_set ?_ GE119.out | refine below_set ?_ GE126.out) | exact HB.out))) : w.heap.size ≤ gb132)); have n12_ := Aside0.mk ((by rw [hg]; exact Nat.ne_of_lt (blk_lt (g := gb118) (o := .cells #[.int .i64 a0_0, .slice A0_1 l0_1.length c0_1, .slice A0_2 l0_2.length c0_2] 47 (0, 0)) (by (with_reducible repeat (first | refine blk_drewN ?_ _ | refine blk_drew ?_ | refine blk_alloc ?_ _)); exact BK118.out)) : gb118 ≠ gb132)); have n13_ := Aside0.mk ((by rw [hg]; exact Nat.ne_of_gt (blk_lt (g := gb118) (o := .cells #[.int .i64 a0_0, .slice A0_1 l0_1.length c0_1, .slice A0_2 l0_2.length c0_2] 47 (0, 0)) (by (with_reducible repeat (first | refine blk_drewN ?_ _ | refine blk_drew ?_ | refine blk_alloc ?_ _)); exact BK118.out)) : gb132 ≠ gb118)); have n14_ := Aside0.mk ((by rw [hg]; exact Nat.ne_of_lt (blk_lt (g := gb119) (o := .cells #[.int .i64 a1_0, .slice A1_1 l1_1.length c1_1, .slice A1_2 l1_2.length c1_2] 47 (0, 0)) (by (with_reducible repeat (first | refine blk_drewN ?_ _ | refine blk_drew ?_ | refine blk_alloc ?_ _)); exact BK119.out)) : gb119 ≠ gb132)); have n15_ := Aside0.mk ((by rw [hg]; exact Nat.ne_of_gt (blk_lt (g := gb119) (o := .cells #[.int .i64 a1_0, .slice A1_1 l1_1.length c1_1, .slice A1_2 l1_2.length c1_2] 47 (0, 0)) (by (with_reducible repeat (first | refine blk_drewN ?_ _ | refine blk_drew ?_ | refine blk_alloc ?_ _)); exact BK119.out)) : gb132 ≠ gb119)); have n16_ := Aside0.mk ((by rw [hg]; exact Nat.ne_of_lt (blk_lt (g := gb126) (o := mObj (fun p_ : Int × Int => Value.agg #[Value.int .i64 p_.1, Value.int .i64 p_.2]) (Value.int .i64) x127000_2) (by (with_reducible repeat (first | refine blk_drewN ?_ _ | refine blk_drew ?_ | refine blk_alloc ?_ _)); exact MK126.out)) : gb126 ≠ gb132)); have n17_ := Aside0.mk ((by rw [hg]; exact Nat.ne_of_gt (blk_lt (g := gb126) (o := mObj (fun p_ : Int × Int => Value.agg #[Value.int .i64 p_.1, Value.int .i64 p_.2]) (Value.int .i64) x127000_2) (by (with_reducible repeat (first | refine blk_drewN ?_ _ | refine blk_drew ?_ | refine blk_alloc ?_ _)); exact MK126.out)) : gb132 ≠ gb126)); clear HO_11; clear HO_119001; clear HO_119002; clear HO_120001; clear HO_120002; clear BK118; clear BK119; clear MK126; clear HB; have HO_11 := n0_; have HO_119001 := n1_; have HO_119002 := n2_; have HO_120001 := n3_; have HO_120002 := n4_; have BK118 := n5_; have BK119 := n6_; have MK126 := n7_; have HB := n8_; have BK132 := n9_; have GW132 := n10_; have GE132 := n11_; have NB118_132 := n12_; have NB132_118 := n13_; have NB119_132 := n14_; have NB132_119 := n15_; have NB126_132 := n16_; have NB132_126 := n17_; clear n0_ n1_ n2_ n3_ n4_ n5_ n6_ n7_ n8_ n9_ n10_ n11_ n12_ n13_ n14_ n15_ n16_ n17_; clear hb hbox hg; have hnb43 := NB132_118.out; have hnc43 := NB118_132.out; have hnb44 := NB132_119.out; have hnc44 := NB119_132.out; have hnb45 := NB132_126.out; have hnc45 := NB126_132.out; have hcz46_0 : w42.cell? ⟨gb132, 0, none⟩ = some (.int .i64 0) := (blk_cell BK132.out 0).trans rfl; have hcz46_1 : w42.cell? ⟨gb132, 1, none⟩ = some (.int .i64 0) := (blk_cell BK132.out 1).trans rfl; have hcz46_2 : w42.cell? ⟨gb132, 2, none⟩ = some (.int .i64 0) := (blk_cell BK132.out 2).trans rfl; have hfz46_0 := blk_frozen BK132.out 0; have hfz46_1 := blk_frozen BK132.out 1; have hfz46_2 := blk_frozen BK132.out 2; have hnb47 := NB118_119.out; have hnc47 := NB119_118.out; have hnb48 := NB118_126.out; have hnc48 := NB126_118.out; have hcz49_0 : w42.cell? ⟨gb118, 0, none⟩ = some (.int .i64 a0_0) := (blk_cell BK118.out 0).trans rfl; have hcz49_1 : w42.cell? ⟨gb118, 1, none⟩ = some (.slice A0_1 l0_1.length c0_1) := (blk_cell BK118.out 1).trans rfl; have hcz49_2 : w42.cell? ⟨gb118, 2, none⟩ = some (.slice A0_2 l0_2.length c0_2) := (blk_cell BK118.out 2).trans rfl; have hfz49_0 := blk_frozen BK118.out 0; have hfz49_1 := blk_frozen BK118.out 1; have hfz49_2 := blk_frozen BK118.out 2; have p133 : 0 ≤ (((rd_T97 x11_2 0).f0) : Int) := of_decide_eq_true (by first | (with_reducible assumption) | assumption); have q133 : ((rd_T97 x11_2 0).f0) < (l0_2.length : Int) := of_decide_eq_true (by first | (with_reducible assumption) | assumption); obtain ⟨ad133, e133, hx133_0⟩ := Kd.at_int (Kd.V_reads' HO_119002.out).2.2 ((rd_T97 x11_2 0).f0) p133 q133; cases e133; have hn133_0 : ad133.block ≠ gb132 := V_blk HO_119002.out (by omega) (by decide) (fun _ hk => hk.2); have hn133_1 : ad133.block ≠ gb132 := V_blk HO_119002.out (by omega) (by decide) (fun _ hk => hk.2); have hn133_2 : ad133.block ≠ gb132 := V_blk HO_119002.out (by omega) (by decide) (fun _ hk => hk.2); replace hx133_0 := (cell_far (p := ⟨gb132, 0, none⟩) (by first | (rw [add_block]; exact hn133_0) | (show (Addr.add _ _).block ≠ _; rw [add_block]; exact hn133_0) | exact hn133_0) (.int .i64 ((rd_T97 x11_2 0).f0))).trans hx133_0; replace hx133_0 := (cell_far (p := ⟨gb132, 1, none⟩) (by first | (rw [add_block]; exact hn133_1) | (show (Addr.add _ _).block ≠ _; rw [add_block]; exact hn133_1) | exact hn133_1) (.int .i64 ((rd_T97 x11_2 0).f1))).trans hx133_0; replace hx133_0 := (cell_far (p := ⟨gb132, 2, none⟩) (by first | (rw [add_block]; exact hn133_2) | (show (Addr.add _ _).block ≠ _; rw [add_block]; exact hn133_2) | exact hn133_2) (.int .i64 ((rd_T97 x11_2 0).f2))).trans hx133_0; (try have hy133_0 := fun (n_ : Nat) => (show (((((w42.drewN n_).setCell ⟨gb132, 0, none⟩ (.int .i64 ((rd_T97 x11_2 0).f0))).setCell ⟨gb132, 1, none⟩ (.int .i64 ((rd_T97 x11_2 0).f1))).setCell ⟨gb132, 2, none⟩ (.int .i64 ((rd_T97 x11_2 0).f2)))).cell? _ = some _ from hx133_0)); clear hn133_0; clear hn133_1; clear hn133_2; replace p133 := eq_true p133; replace q133 := eq_true q133; have hnb50 := NB119_126.out; have hnc50 := NB126_119.out; have hcz51_0 : w42.cell? ⟨gb119, 0, none⟩ = some (.int .i64 a1_0) := (blk_cell BK119.out 0).trans rfl; have hcz51_1 : w42.cell? ⟨gb119, 1, none⟩ = some (.slice A1_1 l1_1.length c1_1) := (blk_cell BK119.out 1).trans rfl; have hcz51_2 : w42.cell? ⟨gb119, 2, none⟩ = some (.slice A1_2 l1_2.length c1_2) := (blk_cell BK119.out 2).trans rfl; have hfz51_0 := blk_frozen BK119.out 0; have hfz51_1 := blk_frozen BK119.out 1; have hfz51_2 := blk_frozen BK119.out 2; have p134 : 0 ≤ (((rd_T97 x11_2 0).f1) : Int) := of_decide_eq_true (by first | (with_reducible assumption) | assumption); have q134 : ((rd_T97 x11_2 0).f1) < (l1_2.length : Int) := of_decide_eq_true (by first | (with_reducible assumption) | assumption); obtain ⟨ad134, e134, hx134_0⟩ := Kd.at_int (Kd.V_reads' HO_120002.out).2.2 ((rd_T97 x11_2 0).f1) p134 q134; cases e134; have hn134_0 : ad134.block ≠ gb132 := V_blk HO_120002.out (by omega) (by decide) (fun _ hk => hk.2); have hn134_1 : ad134.block ≠ gb132 := V_blk HO_120002.out (by omega) (by decide) (fun _ hk => hk.2); have hn134_2 : ad134.block ≠ gb132 := V_blk HO_120002.out (by omega) (by decide) (fun _ hk => hk.2); replace hx134_0 := (cell_far (p := ⟨gb132, 0, none⟩) (by first | (rw [add_block]; exact hn134_0) | (show (Addr.add _ _).block ≠ _; rw [add_block]; exact hn134_0) | exact hn134_0) (.int .i64 ((rd_T97 x11_2 0).f0))).trans hx134_0; replace hx134_0 := (cell_far (p := ⟨gb132, 1, none⟩) (by first | (rw [add_block]; exact hn134_1) | (show (Addr.add _ _).block ≠ _; rw [add_block]; exact hn134_1) | exact hn134_1) (.int .i64 ((rd_T97 x11_2 0).f1))).trans hx134_0; replace hx134_0 := (cell_far (p := ⟨gb132, 2, none⟩) (by first | (rw [add_block]; exact hn134_2) | (show (Addr.add _ _).block ≠ _; rw [add_block]; exact hn134_2) | exact hn134_2) (.int .i64 ((rd_T97 x11_2 0).f2))).trans hx134_0; (try have hy134_0 := fun (n_ : Nat) => (show (((((w42.drewN n_).setCell ⟨gb132, 0, none⟩ (.int .i64 ((rd_T97 x11_2 0).f0))).setCell ⟨gb132, 1, none⟩ (.int .i64 ((rd_T97 x11_2 0).f1))).setCell ⟨gb132, 2, none⟩ (.int .i64 ((rd_T97 x11_2 0).f2)))).cell? _ = some _ from hx134_0)); clear hn134_0; clear hn134_1; clear hn134_2; replace p134 := eq_true p134; replace q134 := eq_true q134)))
  go_loopg [11, 65] k2 (fun kq v11 v65 w' => ∃ (x11_3 : List (S97)) (x65_3 : Int) (x127000_3 : List ((Int × Int) × Int)), v65 = .int .i64 x65_3 ∧ Aside0 (seqs_Differ.l2 kq x11_3 a0_0 x65_3 a0_0 l0_1 l0_2 a1_0 l1_1 l1_2 x127000_3 ((rd_T97 x11_2 0).f0) ((rd_T97 x11_2 0).f1) ((rd_T97 x11_2 0).f2) = some (r1, r2, r3)) ∧ Aside0 (kq ≤ k2) ∧ Aside0 (Kd.Q k97 97 w' w.heap.size (fun k_ => (w.heap.size ≤ k_) ∧ k_ ≠ gb132) v11 x11_3) ∧ Aside0 (Kd.V (Kd.slice 3 (Kd.int .i64)) 26 w' w.heap.size (fun k_ => ((P0_1_ k_ ∨ P0_2_ k_ ∨ P1_1_ k_ ∨ P1_2_ k_) ∨ w.heap.size ≤ k_) ∧ some k_ ≠ (v11 : Value).ownBlock ∧ k_ ≠ gb118 ∧ k_ ≠ gb119 ∧ k_ ≠ gb126 ∧ k_ ≠ gb132) (.slice A0_1 l0_1.length c0_1) l0_1) ∧ Aside0 (Kd.V (Kd.int .i64) 3 w' w.heap.size (fun k_ => ((P0_1_ k_ ∨ P0_2_ k_ ∨ P1_1_ k_ ∨ P1_2_ k_) ∨ w.heap.size ≤ k_) ∧ some k_ ≠ (v11 : Value).ownBlock ∧ k_ ≠ gb118 ∧ k_ ≠ gb119 ∧ k_ ≠ gb126 ∧ k_ ≠ gb132) (.slice (some ad133) l0_2.length c0_2) l0_2) ∧ Aside0 (Kd.V (Kd.slice 3 (Kd.int .i64)) 26 w' w.heap.size (fun k_ => ((P0_1_ k_ ∨ P0_2_ k_ ∨ P1_1_ k_ ∨ P1_2_ k_) ∨ w.heap.size ≤ k_) ∧ some k_ ≠ (v11 : Value).ownBlock ∧ k_ ≠ gb118 ∧ k_ ≠ gb119 ∧ k_ ≠ gb126 ∧ k_ ≠ gb132) (.slice A1_1 l1_1.length c1_1) l1_1) ∧ Aside0 (Kd.V (Kd.int .i64) 3 w' w.heap.size (fun k_ => ((P0_1_ k_ ∨ P0_2_ k_ ∨ P1_1_ k_ ∨ P1_2_ k_) ∨ w.heap.size ≤ k_) ∧ some k_ ≠ (v11 : Value).ownBlock ∧ k_ ≠ gb118 ∧ k_ ≠ gb119 ∧ k_ ≠ gb126 ∧ k_ ≠ gb132) (.slice (some ad134) l1_2.length c1_2) l1_2) ∧ Aside0 (w'.heap[gb118]? = some (.cells #[.int .i64 a0_0, (.slice A0_1 l0_1.length c0_1), (.slice (some ad133) l0_2.length c0_2)] 47 (0, 0))) ∧ Aside0 (w'.heap[gb119]? = some (.cells #[.int .i64 a1_0, (.slice A1_1 l1_1.length c1_1), (.slice (some ad134) l1_2.length c1_2)] 47 (0, 0))) ∧ Aside0 (w'.heap[gb126]? = some (mObj (fun p_ : Int × Int => Value.agg #[Value.int .i64 p_.1, Value.int .i64 p_.2]) (Value.int .i64) x127000_3)) ∧ Aside0 (w'.heap[gb132]? = some (.cells #[.int .i64 ((rd_T97 x11_2 0).f0), .int .i64 ((rd_T97 x11_2 0).f1), .int .i64 ((rd_T97 x11_2 0).f2)] 97 (0, 0))) ∧ Aside0 (Below w.heap.size w w'))
  case atStart => exact ⟨(x11_2), (0), (x127000_2), (by first | rfl | (simp; done) | (simp [*]; done)), H', ⟨Nat.le_refl _⟩, ⟨by (with_reducible repeat (first | apply Kd.Q_alloc | apply Kd.Q_drewN | apply Kd.Q_drew)); exact Kd.Q_mono (Kd.Q_far (p := ⟨gb132, 2, none⟩) (Kd.Q_far (p := ⟨gb132, 1, none⟩) (Kd.Q_far (p := ⟨gb132, 0, none⟩) (Kd.Q_mono HO_11.out (fun k_ hk => (⟨hk, hk.2⟩ : _ ∧ k_ ≠ gb132))) (fun _ hk => hk.2) (.int .i64 ((rd_T97 x11_2 0).f0))) (fun _ hk => hk.2) (.int .i64 ((rd_T97 x11_2 0).f1))) (fun _ hk => hk.2) (.int .i64 ((rd_T97 x11_2 0).f2))) (fun _ hk => ⟨hk.1.1, hk.1.2⟩)⟩, ⟨by (with_reducible repeat (first | apply Kd.V_alloc | apply Kd.V_drewN | apply Kd.V_drew)); exact Kd.V_mono (Kd.V_far (p := ⟨gb132, 2, none⟩) (Kd.V_far (p := ⟨gb132, 1, none⟩) (Kd.V_far (p := ⟨gb132, 0, none⟩) (Kd.V_mono HO_119001.out (fun k_ hk => (⟨hk, hk.2⟩ : _ ∧ k_ ≠ gb132))) (fun _ hk => hk.2) (.int .i64 ((rd_T97 x11_2 0).f0))) (fun _ hk => hk.2) (.int .i64 ((rd_T97 x11_2 0).f1))) (fun _ hk => hk.2) (.int .i64 ((rd_T97 x11_2 0).f2))) (fun _ hk => ⟨hk.1.1.1, ⟨hk.1.1.2.1, ⟨hk.1.1.2.2.1, ⟨hk.1.1.2.2.2.1, ⟨hk.1.1.2.2.2.2, hk.1.2⟩⟩⟩⟩⟩)⟩, ⟨by (with_reducible repeat (first | apply Kd.V_alloc | apply Kd.V_drewN | apply Kd.V_drew)); exact Kd.V_mono (Kd.V_far (p := ⟨gb132, 2, none⟩) (Kd.V_far (p := ⟨gb132, 1, none⟩) (Kd.V_far (p := ⟨gb132, 0, none⟩) (Kd.V_mono HO_119002.out (fun k_ hk => (⟨hk, hk.2⟩ : _ ∧ k_ ≠ gb132))) (fun _ hk => hk.2) (.int .i64 ((rd_T97 x11_2 0).f0))) (fun _ hk => hk.2) (.int .i64 ((rd_T97 x11_2 0).f1))) (fun _ hk => hk.2) (.int .i64 ((rd_T97 x11_2 0).f2))) (fun _ hk => ⟨hk.1.1.1, ⟨hk.1.1.2.1, ⟨hk.1.1.2.2.1, ⟨hk.1.1.2.2.2.1, ⟨hk.1.1.2.2.2.2, hk.1.2⟩⟩⟩⟩⟩)⟩, ⟨by (with_reducible repeat (first | apply Kd.V_alloc | apply Kd.V_drewN | apply Kd.V_drew)); exact Kd.V_mono (Kd.V_far (p := ⟨gb132, 2, none⟩) (Kd.V_far (p := ⟨gb132, 1, none⟩) (Kd.V_far (p := ⟨gb132, 0, none⟩) (Kd.V_mono HO_120001.out (fun k_ hk => (⟨hk, hk.2⟩ : _ ∧ k_ ≠ gb132))) (fun _ hk => hk.2) (.int .i64 ((rd_T97 x11_2 0).f0))) (fun _ hk => hk.2) (.int .i64 ((rd_T97 x11_2 0).f1))) (fun _ hk => hk.2) (.int .i64 ((rd_T97 x11_2 0).f2))) (fun _ hk => ⟨hk.1.1.1, ⟨hk.1.1.2.1, ⟨hk.1.1.2.2.1, ⟨hk.1.1.2.2.2.1, ⟨hk.1.1.2.2.2.2, hk.1.2⟩⟩⟩⟩⟩)⟩, ⟨by (with_reducible repeat (first | apply Kd.V_alloc | apply Kd.V_drewN | apply Kd.V_drew)); exact Kd.V_mono (Kd.V_far (p := ⟨gb132, 2, none⟩) (Kd.V_far (p := ⟨gb132, 1, none⟩) (Kd.V_far (p := ⟨gb132, 0, none⟩) (Kd.V_mono HO_120002.out (fun k_ hk => (⟨hk, hk.2⟩ : _ ∧ k_ ≠ gb132))) (fun _ hk => hk.2) (.int .i64 ((rd_T97 x11_2 0).f0))) (fun _ hk => hk.2) (.int .i64 ((rd_T97 x11_2 0).f1))) (fun _ hk => hk.2) (.int .i64 ((rd_T97 x11_2 0).f2))) (fun _ hk => ⟨hk.1.1.1, ⟨hk.1.1.2.1, ⟨hk.1.1.2.2.1, ⟨hk.1.1.2.2.2.1, ⟨hk.1.1.2.2.2.2, hk.1.2⟩⟩⟩⟩⟩)⟩, ⟨by (with_reducible repeat (first | refine blk_drewN ?_ _ | refine blk_drew ?_ | refine blk_alloc ?_ _)); refine blk_far ?_ NB118_132.out _; (with_reducible repeat (first | refine blk_drewN ?_ _ | refine blk_drew ?_ | refine blk_alloc ?_ _)); refine blk_far ?_ NB118_132.out _; (with_reducible repeat (first | refine blk_drewN ?_ _ | refine blk_drew ?_ | refine blk_alloc ?_ _)); refine blk_far ?_ NB118_132.out _; (with_reducible repeat (first | refine blk_drewN ?_ _ | refine blk_drew ?_ | refine blk_alloc ?_ _)); exact BK118.out⟩, ⟨by (with_reducible repeat (first | refine blk_drewN ?_ _ | refine blk_drew ?_ | refine blk_alloc ?_ _)); refine blk_far ?_ NB119_132.out _; (with_reducible repeat (first | refine blk_drewN ?_ _ | refine blk_drew ?_ | refine blk_alloc ?_ _)); refine blk_far ?_ NB119_132.out _; (with_reducible repeat (first | refine blk_drewN ?_ _ | refine blk_drew ?_ | refine blk_alloc ?_ _)); refine blk_far ?_ NB119_132.out _; (with_reducible repeat (first | refine blk_drewN ?_ _ | refine blk_drew ?_ | refine blk_alloc ?_ _)); exact BK119.out⟩, ⟨by (with_reducible repeat (first | refine blk_drewN ?_ _ | refine blk_drew ?_ | refine blk_alloc ?_ _)); refine blk_farO ?_ NB126_132.out _; (with_reducible repeat (first | refine blk_drewN ?_ _ | refine blk_drew ?_ | refine blk_alloc ?_ _)); refine blk_farO ?_ NB126_132.out _; (with_reducible repeat (first | refine blk_drewN ?_ _ | refine blk_drew ?_ | refine blk_alloc ?_ _)); refine blk_farO ?_ NB126_132.out _; (with_reducible repeat (first | refine blk_drewN ?_ _ | refine blk_drew ?_ | refine blk_alloc ?_ _)); exact MK126.out⟩, ⟨by (with_reducible repeat (first | refine blk_drewN ?_ _ | refine blk_drew ?_ | refine blk_alloc ?_ _)); refine blk_put (cs := #[.int .i64 ((rd_T97 x11_2 0).f0), .int .i64 ((rd_T97 x11_2 0).f1), .int .i64 0]) ?_ 2 _ rfl; (with_reducible repeat (first | refine blk_drewN ?_ _ | refine blk_drew ?_ | refine blk_alloc ?_ _)); refine blk_put (cs := #[.int .i64 ((rd_T97 x11_2 0).f0), .int .i64 0, .int .i64 0]) ?_ 1 _ rfl; (with_reducible repeat (first | refine blk_drewN ?_ _ | refine blk_drew ?_ | refine blk_alloc ?_ _)); refine blk_put (cs := #[.int .i64 0, .int .i64 0, .int .i64 0]) ?_ 0 _ rfl; (with_reducible repeat (first | refine blk_drewN ?_ _ | refine blk_drew ?_ | refine blk_alloc ?_ _)); exact BK132.out⟩, ⟨by repeat (first | (with_reducible first | exact HB.out | apply below_alloc | apply pw_below_drewN | apply below_drew1 | refine below_set ?_ GE118.out | refine below_set ?_ GE119.out | refine below_set ?_ GE126.out | refine below_set ?_ GE132.out) | exact HB.out)⟩⟩
  case round =>
   clear H'
   try clear c1
   try clear p1
   try clear q1
   try clear hx1
   try clear qi1
   try clear c2
   try clear p2
   try clear c3
   try clear c4
   try clear c5
   try clear p6
   try clear c11
   try clear c11b0
   try clear c12
   try clear c12b0
   try clear p12
   try clear q12
   try clear hx12
   try clear c13
   try clear c13b0
   try clear p13
   try clear q13
   try clear hx13
   try clear qi13
   try clear c15
   try clear c15b0
   try clear c15b1
   try clear c17
   try clear c18
   try clear c22
   try clear c23
   try clear c26
   try clear c26b0
   try clear c26b1
   try clear c27
   try clear c34
   try clear c34b0
   try clear c34b1
   try clear c35
   try clear c35b0
   try clear c35b1
   try clear c36
   try clear c36b0
   try clear c37
   try clear c37b0
   try clear c38
   try clear c38b0
   try clear c39
   try clear c39b0
   try clear c40
   try clear c40b0
   try clear c40b1
   try clear c43
   try clear c44
   try clear c45
   try clear c47
   try clear c48
   try clear c50
   try clear hcz19_0
   try clear hcz19_1
   try clear hcz19_2
   try clear hcz24_0
   try clear hcz24_1
   try clear hcz24_2
   try clear hcz28_0
   try clear hcz28_1
   try clear hcz28_2
   try clear hcz29_0
   try clear hcz29_1
   try clear hcz29_2
   try clear hcz46_0
   try clear hcz46_1
   try clear hcz46_2
   try clear hcz49_0
   try clear hcz49_1
   try clear hcz49_2
   try clear hcz51_0
   try clear hcz51_1
   try clear hcz51_2
   try clear hcz6_0
   try clear hcz6_1
   try clear hcz6_2
   try clear hcz7_0
   try clear hcz7_1
   try clear hcz7_2
   try clear hfz19_0
   try clear hfz19_1
   try clear hfz19_2
   try clear hfz24_0
   try clear hfz24_1
   try clear hfz24_2
   try clear hfz28_0
   try clear hfz28_1
   try clear hfz28_2
   try clear hfz29_0
   try clear hfz29_1
   try clear hfz29_2
   try clear hfz46_0
   try clear hfz46_1
   try clear hfz46_2
   try clear hfz49_0
   try clear hfz49_1
   try clear hfz49_2
   try clear hfz51_0
   try clear hfz51_1
   try clear hfz51_2
   try clear hfz6_0
   try clear hfz6_1
   try clear hfz6_2
   try clear hfz7_0
   try clear hfz7_1
   try clear hfz7_2
   try clear hx123_0
   try clear hx123_1
   try clear hx123_2
   try clear hx131_0
   try clear hx131_1
   try clear hx131_2
   try clear hx133_0
   try clear hx134_0
   try clear p1
   try clear p12
   try clear p123
   try clear p131
   try clear p133
   try clear p134
   try clear p2
   try clear p6
   try clear q1
   try clear q12
   try clear q123
   try clear q131
   try clear q133
   try clear q134
   obtain ⟨x11_3, x65_3, x127000_3, rfl, HA, HK3, HO_11, HO_119001, HO_119002, HO_120001, HO_120002, BK118, BK119, MK126, BK132, HB⟩ := hrel
   cases gk with
   | zero => exact absurd HA.out (by simp [seqs_Differ.l2])
   | succ k3 =>
    have H := HA.out
    clear HA
    simp only [seqs_Differ.l2] at H
    by_cases c52 : x65_3 < a0_0
    ·(
 rw [if_pos c52] at H
 have c52b0 : decide (x65_3 < a0_0) = true := decide_eq_true c52
 clear c52
 by_cases c53 : 0 ≤ ((rd_T97 x11_2 0).f0)
 ·rw [if_pos c53] at H
  have c53b0 : decide (0 ≤ ((rd_T97 x11_2 0).f0)) = true := decide_eq_true c53
  clear c53
  by_cases c54 : ((rd_T97 x11_2 0).f0) < (l0_1.length : Int)
  ·rw [if_pos c54] at H
   have c54b0 : decide (((rd_T97 x11_2 0).f0) < (l0_1.length : Int)) = true := decide_eq_true c54
   clear c54
   by_cases c55 : 0 ≤ x65_3
   ·rw [if_pos c55] at H
    have c55b0 : decide (0 ≤ x65_3) = true := decide_eq_true c55
    clear c55
    by_cases c56 : x65_3 < ((rd_L1 l0_1 ((rd_T97 x11_2 0).f0)).length : Int)
    ·(
 rw [if_pos c56] at H
 have c56b0 : decide (x65_3 < ((rd_L1 l0_1 ((rd_T97 x11_2 0).f0)).length : Int)) = true := decide_eq_true c56
 clear c56
 by_cases c57 : 0 ≤ ((rd_T97 x11_2 0).f1)
 ·rw [if_pos c57] at H
  have c57b0 : decide (0 ≤ ((rd_T97 x11_2 0).f1)) = true := decide_eq_true c57
  clear c57
  by_cases c58 : ((rd_T97 x11_2 0).f1) < (l1_1.length : Int)
  ·rw [if_pos c58] at H
   have c58b0 : decide (((rd_T97 x11_2 0).f1) < (l1_1.length : Int)) = true := decide_eq_true c58
   clear c58
   by_cases c59 : x65_3 < ((rd_L1 l1_1 ((rd_T97 x11_2 0).f1)).length : Int)
   ·rw [if_pos c59] at H
    have c59b0 : decide (x65_3 < ((rd_L1 l1_1 ((rd_T97 x11_2 0).f1)).length : Int)) = true := decide_eq_true c59
    clear c59
    by_cases c60 : (mget x127000_3 (rd (rd_L1 l0_1 ((rd_T97 x11_2 0).f0)) x65_3, rd (rd_L1 l1_1 ((rd_T97 x11_2 0).f1)) x65_3) 0) = 0
    ·(
 rw [if_pos c60] at H
 have c60b0 : ((mget x127000_3 (rd (rd_L1 l0_1 ((rd_T97 x11_2 0).f0)) x65_3, rd (rd_L1 l1_1 ((rd_T97 x11_2 0).f1)) x65_3) 0) == 0) = true := beq_iff_eq.mpr c60
 have c60b1 : ((mget x127000_3 (rd (rd_L1 l0_1 ((rd_T97 x11_2 0).f0)) x65_3, rd (rd_L1 l1_1 ((rd_T97 x11_2 0).f1)) x65_3) 0) != 0) = false := bne_eq_false_iff_eq.mpr c60
 clear c60
 obtain ⟨y139, hy139⟩ : ∃ y_ : List ((Int × Int) × Int), y_ = (mput x127000_3 (rd (rd_L1 l0_1 ((rd_T97 x11_2 0).f0)) x65_3, rd (rd_L1 l1_1 ((rd_T97 x11_2 0).f1)) x65_3) 1) := ⟨_, rfl⟩
 replace H : (if x11_3.length < 5864062014805 then (seqs_Differ.l2 k3 (x11_3 ++ [(⟨rd (rd_L1 l0_1 ((rd_T97 x11_2 0).f0)) x65_3, rd (rd_L1 l1_1 ((rd_T97 x11_2 0).f1)) x65_3, wrap64 ((wrap64 (((rd_T97 x11_2 0).f2) * a0_0)) + x65_3)⟩ : S97)]) a0_0 (wrap64 (x65_3 + 1)) a0_0 l0_1 l0_2 a1_0 l1_1 l1_2 y139 ((rd_T97 x11_2 0).f0) ((rd_T97 x11_2 0).f1) ((rd_T97 x11_2 0).f2)) else (none)) = some (r1, r2, r3) := by first | (rw [hy139]; with_reducible exact H) | (have H2_ := (Option.bind_some _ _).symm.trans H; rw [hy139]; with_reducible exact H2_) | (have H2_ := (Option.bind_some _ _).symm.trans H; with_reducible exact H2_) | with_reducible exact H | (rw [hy139]; exact H) | exact H
 have Ny139 := Aside0.mk hy139
 clear hy139
 by_cases c61 : x11_3.length < 5864062014805
 ·rw [if_pos c61] at H
  have LMc61 := Aside0.mk c61
  clear c61
  obtain ⟨y140, hy140⟩ : ∃ y_ : List (S97), y_ = (x11_3 ++ [(⟨rd (rd_L1 l0_1 ((rd_T97 x11_2 0).f0)) x65_3, rd (rd_L1 l1_1 ((rd_T97 x11_2 0).f1)) x65_3, wrap64 ((wrap64 (((rd_T97 x11_2 0).f2) * a0_0)) + x65_3)⟩ : S97)]) := ⟨_, rfl⟩
  replace H : (seqs_Differ.l2 k3 y140 a0_0 (wrap64 (x65_3 + 1)) a0_0 l0_1 l0_2 a1_0 l1_1 l1_2 y139 ((rd_T97 x11_2 0).f0) ((rd_T97 x11_2 0).f1) ((rd_T97 x11_2 0).f2)) = some (r1, r2, r3) := by first | (rw [hy140]; with_reducible exact H) | (have H2_ := (Option.bind_some _ _).symm.trans H; rw [hy140]; with_reducible exact H2_) | (have H2_ := (Option.bind_some _ _).symm.trans H; with_reducible exact H2_) | with_reducible exact H | (rw [hy140]; exact H) | exact H
  have Ny140 := Aside0.mk hy140
  clear hy140
  have H' := Aside0.mk H
  clear H
  have hnb62 := NB118_119.out
  have hnc62 := NB119_118.out
  have hnb63 := NB118_126.out
  have hnc63 := NB126_118.out
  have hnb64 := NB118_132.out
  have hnc64 := NB132_118.out
  have hcz65_0 : wr.cell? ⟨gb118, 0, none⟩ = some (.int .i64 a0_0) := (blk_cell BK118.out 0).trans rfl
  have hcz65_1 : wr.cell? ⟨gb118, 1, none⟩ = some (.slice A0_1 l0_1.length c0_1) := (blk_cell BK118.out 1).trans rfl
  have hcz65_2 : wr.cell? ⟨gb118, 2, none⟩ = some (.slice (some ad133) l0_2.length c0_2) := (blk_cell BK118.out 2).trans rfl
  have hfz65_0 := blk_frozen BK118.out 0
  have hfz65_1 := blk_frozen BK118.out 1
  have hfz65_2 := blk_frozen BK118.out 2
  have hnb66 := NB132_119.out
  have hnc66 := NB119_132.out
  have hnb67 := NB132_126.out
  have hnc67 := NB126_132.out
  have hcz68_0 : wr.cell? ⟨gb132, 0, none⟩ = some (.int .i64 ((rd_T97 x11_2 0).f0)) := (blk_cell BK132.out 0).trans rfl
  have hcz68_1 : wr.cell? ⟨gb132, 1, none⟩ = some (.int .i64 ((rd_T97 x11_2 0).f1)) := (blk_cell BK132.out 1).trans rfl
  have hcz68_2 : wr.cell? ⟨gb132, 2, none⟩ = some (.int .i64 ((rd_T97 x11_2 0).f2)) := (blk_cell BK132.out 2).trans rfl
  have hfz68_0 := blk_frozen BK132.out 0
  have hfz68_1 := blk_frozen BK132.out 1
  have hfz68_2 := blk_frozen BK132.out 2
  have p135 : 0 ≤ (((rd_T97 x11_2 0).f0) : Int) := of_decide_eq_true (by first | (with_reducible assumption) | assumption)
  have q135 : ((rd_T97 x11_2 0).f0) < (l0_1.length : Int) := of_decide_eq_true (by first | (with_reducible assumption) | assumption)
  obtain ⟨ad135, A135_0, c135_0, e135, hx135_0, hl135_0, hi135_0⟩ := at_L1 (Kd.V_reads' HO_119001.out).2.2 ((rd_T97 x11_2 0).f0) p135 q135
  cases e135
  obtain ⟨ce135, hce135, hMe135, hcc135⟩ := Kd.V_get HO_119001.out [] ((rd_T97 x11_2 0).f0) p135 (by first | exact q135 | exact of_decide_eq_true (by first | (with_reducible assumption) | assumption) | (have e_ := (Kd.V_reads' HO_119001.out).1; omega))
  obtain ⟨ua135_0, uc135_0, rfl, ul135_0, ge135_0⟩ := Kd.FK_slice_open hMe135
  have hv135_0 := hcc135 0 _ rfl
  rw [Nat.add_zero, show ((Kd.slice 3 (Kd.int .i64))).sz = 1 from rfl, Nat.mul_one] at hv135_0
  replace hv135_0 := Option.some.inj (hv135_0.symm.trans hx135_0)
  injection hv135_0 with hva_ hvn_ hvc_
  rw [hva_] at ge135_0
  rw [hvc_] at ul135_0
  have HL135_0 := Aside0.mk (show Kd.V (Kd.int .i64) 3 _ w.heap.size _ _ (rd_L1 l0_1 ((rd_T97 x11_2 0).f0)) from Kd.V_mk ul135_0 ge135_0)
  clear hva_ hvn_ hvc_ ge135_0 ul135_0
  clear hcc135 hce135
  have HR135_0 := Aside0.mk hi135_0
  have HC135_0 := Aside0.mk hl135_0
  clear hi135_0 hl135_0
  replace p135 := eq_true p135
  replace q135 := eq_true q135
  have p136 : 0 ≤ (x65_3 : Int) := of_decide_eq_true (by first | (with_reducible assumption) | assumption)
  have q136 : x65_3 < ((rd_L1 l0_1 ((rd_T97 x11_2 0).f0)).length : Int) := of_decide_eq_true (by first | (with_reducible assumption) | assumption)
  obtain ⟨ad136, e136, hx136_0⟩ := Kd.at_int (by repeat (first | (with_reducible exact HR135_0.out) | (with_reducible refine Kd.C_alloc ?_ _) | (with_reducible refine Kd.C_drewN ?_ _) | (with_reducible refine Kd.C_drew ?_) | exact HR135_0.out)) x65_3 p136 q136
  cases e136
  replace p136 := eq_true p136
  replace q136 := eq_true q136
  have hnb69 := NB119_126.out
  have hnc69 := NB126_119.out
  have hcz70_0 : wr.cell? ⟨gb119, 0, none⟩ = some (.int .i64 a1_0) := (blk_cell BK119.out 0).trans rfl
  have hcz70_1 : wr.cell? ⟨gb119, 1, none⟩ = some (.slice A1_1 l1_1.length c1_1) := (blk_cell BK119.out 1).trans rfl
  have hcz70_2 : wr.cell? ⟨gb119, 2, none⟩ = some (.slice (some ad134) l1_2.length c1_2) := (blk_cell BK119.out 2).trans rfl
  have hfz70_0 := blk_frozen BK119.out 0
  have hfz70_1 := blk_frozen BK119.out 1
  have hfz70_2 := blk_frozen BK119.out 2
  have p137 : 0 ≤ (((rd_T97 x11_2 0).f1) : Int) := of_decide_eq_true (by first | (with_reducible assumption) | assumption)
  have q137 : ((rd_T97 x11_2 0).f1) < (l1_1.length : Int) := of_decide_eq_true (by first | (with_reducible assumption) | assumption)
  obtain ⟨ad137, A137_0, c137_0, e137, hx137_0, hl137_0, hi137_0⟩ := at_L1 (Kd.V_reads' HO_120001.out).2.2 ((rd_T97 x11_2 0).f1) p137 q137
  cases e137
  obtain ⟨ce137, hce137, hMe137, hcc137⟩ := Kd.V_get HO_120001.out [] ((rd_T97 x11_2 0).f1) p137 (by first | exact q137 | exact of_decide_eq_true (by first | (with_reducible assumption) | assumption) | (have e_ := (Kd.V_reads' HO_120001.out).1; omega))
  obtain ⟨ua137_0, uc137_0, rfl, ul137_0, ge137_0⟩ := Kd.FK_slice_open hMe137
  have hv137_0 := hcc137 0 _ rfl
  rw [Nat.add_zero, show ((Kd.slice 3 (Kd.int .i64))).sz = 1 from rfl, Nat.mul_one] at hv137_0
  replace hv137_0 := Option.some.inj (hv137_0.symm.trans hx137_0)
  injection hv137_0 with hva_ hvn_ hvc_
  rw [hva_] at ge137_0
  rw [hvc_] at ul137_0
  have HL137_0 := Aside0.mk (show Kd.V (Kd.int .i64) 3 _ w.heap.size _ _ (rd_L1 l1_1 ((rd_T97 x11_2 0).f1)) from Kd.V_mk ul137_0 ge137_0)
  clear hva_ hvn_ hvc_ ge137_0 ul137_0
  clear hcc137 hce137
  have HR137_0 := Aside0.mk hi137_0
  have HC137_0 := Aside0.mk hl137_0
  clear hi137_0 hl137_0
  replace p137 := eq_true p137
  replace q137 := eq_true q137
  have p138 : 0 ≤ (x65_3 : Int) := of_decide_eq_true (by first | (with_reducible assumption) | assumption)
  have q138 : x65_3 < ((rd_L1 l1_1 ((rd_T97 x11_2 0).f1)).length : Int) := of_decide_eq_true (by first | (with_reducible assumption) | assumption)
  obtain ⟨ad138, e138, hx138_0⟩ := Kd.at_int (by repeat (first | (with_reducible exact HR137_0.out) | (with_reducible refine Kd.C_alloc ?_ _) | (with_reducible refine Kd.C_drewN ?_ _) | (with_reducible refine Kd.C_drew ?_) | exact HR137_0.out)) x65_3 p138 q138
  cases e138
  replace p138 := eq_true p138
  replace q138 := eq_true q138
  iterate 4 ((try go_quiet (fail)); try go_wp2_with (first | ((with_reducible refine gate_dst (N := 90) rfl ?_); refine mlook_event (t := 95) (kt := 87) (vt := 3) (g := gb126) (mkey_arr2 Try.underlying87 Try.underlying3 (by kernel_rfl) (by kernel_rfl)) Try.underlying95 0 (fun _ => by kernel_rfl) (ev := (Value.int .i64)) (m := x127000_3) (rd (rd_L1 l0_1 ((rd_T97 x11_2 0).f0)) x65_3, rd (rd_L1 l1_1 ((rd_T97 x11_2 0).f1)) x65_3) (show _ = some (mObj (fun p_ : Int × Int => Value.agg #[Value.int .i64 p_.1, Value.int .i64 p_.2]) (Value.int .i64) x127000_3) from by (with_reducible repeat (first | refine blk_drewN ?_ _ | refine blk_drew ?_ | refine blk_alloc ?_ _)); exact MK126.out) rfl ?hg ?hm ?hk ?_; (case hg => rfl); (case hm => rfl); (case hk => first | rfl | (go_simp; done) | (go_simp; rfl))) | ((with_reducible refine gate_mupd (t := 95) (p := 92) rfl ?_); refine mput_event (t := 95) (kt := 87) (vt := 3) (g := gb126) (mkey_arr2 Try.underlying87 Try.underlying3 (by kernel_rfl) (by kernel_rfl)) Try.underlying95 (.inl rfl) (rd (rd_L1 l0_1 ((rd_T97 x11_2 0).f0)) x65_3, rd (rd_L1 l1_1 ((rd_T97 x11_2 0).f1)) x65_3) 1 (show _ = some (mObj (fun p_ : Int × Int => Value.agg #[Value.int .i64 p_.1, Value.int .i64 p_.2]) (Value.int .i64) x127000_3) from by (with_reducible repeat (first | refine blk_drewN ?_ _ | refine blk_drew ?_ | refine blk_alloc ?_ _)); exact MK126.out) ?hg ?hn ?hm ?hk ?hv ?_; (case hg => rfl); (case hn => rfl); (case hm => rfl); (case hk => first | rfl | (go_simp; done) | (go_simp; rfl)); (case hv => first | rfl | (go_simp; done) | (go_simp; rfl)); intro w71 hbox hg hcell; rw [← Ny139.out] at hbox; have n0_ := Aside0.mk (Q_mput (by (with_reducible repeat (first | apply Kd.Q_alloc | apply Kd.Q_drewN | apply Kd.Q_drew)); exact HO_11.out) (show _ = some (mObj (fun p_ : Int × Int => Value.agg #[Value.int .i64 p_.1, Value.int .i64 p_.2]) (Value.int .i64) x127000_3) from by (with_reducible repeat (first | refine blk_drewN ?_ _ | refine blk_drew ?_ | refine blk_alloc ?_ _)); exact MK126.out) hg); have n1_ := Aside0.mk (Kd.V_grown (by (with_reducible repeat (first | apply Kd.V_alloc | apply Kd.V_drewN | apply Kd.V_drew)); exact HO_119001.out) hg (fun k_ hk e_ => by exact (hk.2.2.2.2.1) (Option.some.inj e_))); have n2_ := Aside0.mk (Kd.V_grown (by (with_reducible repeat (first | apply Kd.V_alloc | apply Kd.V_drewN | apply Kd.V_drew)); exact HO_119002.out) hg (fun k_ hk e_ => by exact (hk.2.2.2.2.1) (Option.some.inj e_))); have n3_ := Aside0.mk (Kd.V_grown (by (with_reducible repeat (first | apply Kd.V_alloc | apply Kd.V_drewN | apply Kd.V_drew)); exact HO_120001.out) hg (fun k_ hk e_ => by exact (hk.2.2.2.2.1) (Option.some.inj e_))); have n4_ := Aside0.mk (Kd.V_grown (by (with_reducible repeat (first | apply Kd.V_alloc | apply Kd.V_drewN | apply Kd.V_drew)); exact HO_120002.out) hg (fun k_ hk e_ => by exact (hk.2.2.2.2.1) (Option.some.inj e_))); have n5_ := Aside0.mk (blk_grown (g := gb118) (o := .cells #[.int .i64 a0_0, .slice (some ad135) l0_1.length c0_1, .slice (some ad133) l0_2.length c0_2] 47 (0, 0)) (by (with_reducible repeat (first | refine blk_drewN ?_ _ | refine blk_drew ?_ | refine blk_alloc ?_ _)); exact BK118.out) hg (fun e_ => NB118_126.out (Option.some.inj e_))); have n6_ := Aside0.mk (blk_grown (g := gb119) (o := .cells #[.int .i64 a1_0, .slice (some ad137) l1_1.length c1_1, .slice (some ad134) l1_2.length c1_2] 47 (0, 0)) (by (with_reducible repeat (first | refine blk_drewN ?_ _ | refine blk_drew ?_ | refine blk_alloc ?_ _)); exact BK119.out) hg (fun e_ => NB119_126.out (Option.some.inj e_))); have n7_ := Aside0.mk (hbox); have n8_ := Aside0.mk (blk_grown (g := gb132) (o := .cells #[.int .i64 ((rd_T97 x11_2 0).f0), .int .i64 ((rd_T97 x11_2 0).f1), .int .i64 ((rd_T97 x11_2 0).f2)] 97 (0, 0)) (by (with_reducible repeat (first | refine blk_drewN ?_ _ | refine blk_drew ?_ | refine blk_alloc ?_ _)); exact BK132.out) hg (fun e_ => NB132_126.out (Option.some.inj e_))); have n9_ := Aside0.mk (CK.C (ck_int .i64) hcell (show Kd.C (Kd.int .i64) _ (some ad136) (rd_L1 l0_1 ((rd_T97 x11_2 0).f0)).length (rd_L1 l0_1 ((rd_T97 x11_2 0).f0)) from by first | exact HR135_0.out | (exact by repeat (first | (with_reducible exact HR135_0.out) | (with_reducible refine Kd.C_alloc ?_ _) | (with_reducible refine Kd.C_drewN ?_ _) | (with_reducible refine Kd.C_drew ?_) | exact HR135_0.out)))); have n10_ := Aside0.mk (Kd.V_grown (by (with_reducible repeat (first | apply Kd.V_alloc | apply Kd.V_drewN | apply Kd.V_drew)); exact HL135_0.out) hg (fun k_ hk e_ => by exact (hk.2.2.2.2.1) (Option.some.inj e_))); have n11_ := Aside0.mk (CK.C (ck_int .i64) hcell (show Kd.C (Kd.int .i64) _ (some ad138) (rd_L1 l1_1 ((rd_T97 x11_2 0).f1)).length (rd_L1 l1_1 ((rd_T97 x11_2 0).f1)) from by first | exact HR137_0.out | (exact by repeat (first | (with_reducible exact HR137_0.out) | (with_reducible refine Kd.C_alloc ?_ _) | (with_reducible refine Kd.C_drewN ?_ _) | (with_reducible refine Kd.C_drew ?_) | exact HR137_0.out)))); have n12_ := Aside0.mk (Kd.V_grown (by (with_reducible repeat (first | apply Kd.V_alloc | apply Kd.V_drewN | apply Kd.V_drew)); exact HL137_0.out) hg (fun k_ hk e_ => by exact (hk.2.2.2.2.1) (Option.some.inj e_))); have n13_ := Aside0.mk (below_mput (by repeat (first | (with_reducible first | exact HB.out | apply below_alloc | apply pw_below_drewN | apply below_drew1 | refine below_set ?_ GE118.out | refine below_set ?_ GE119.out | refine below_set ?_ GE126.out | refine below_set ?_ GE132.out) | exact HB.out)) (below_size (by repeat (first | (with_reducible first | exact HB.out | apply below_alloc | apply pw_below_drewN | apply below_drew1 | refine below_set ?_ GE118.out | refine below_set ?_ GE119.out | refine below_set ?_ GE126.out | refine below_set ?_ GE132.out) | exact HB.out))) GE126.out hg); clear HO_11; clear HO_119001; clear HO_119002; clear HO_120001; clear HO_120002; clear BK118; clear BK119; clear MK126; clear BK132; clear HR135_0; clear HL135_0; clear HR137_0; clear HL137_0; clear HB; have HO_11 := n0_; have HO_119001 := n1_; have HO_119002 := n2_; have HO_120001 := n3_; have HO_120002 := n4_; have BK118 := n5_; have BK119 := n6_; have MK126 := n7_; have BK132 := n8_; have HR135_0 := n9_; have HL135_0 := n10_; have HR137_0 := n11_; have HL137_0 := n12_; have HB := n13_; clear n0_ n1_ n2_ n3_ n4_ n5_ n6_ n7_ n8_ n9_ n10_ n11_ n12_ n13_; clear hg hbox hcell; have hcz72_0 : w71.cell? ⟨gb132, 0, none⟩ = some (.int .i64 ((rd_T97 x11_2 0).f0)) := (blk_cell BK132.out 0).trans rfl; have hcz72_1 : w71.cell? ⟨gb132, 1, none⟩ = some (.int .i64 ((rd_T97 x11_2 0).f1)) := (blk_cell BK132.out 1).trans rfl; have hcz72_2 : w71.cell? ⟨gb132, 2, none⟩ = some (.int .i64 ((rd_T97 x11_2 0).f2)) := (blk_cell BK132.out 2).trans rfl; have hfz72_0 := blk_frozen BK132.out 0; have hfz72_1 := blk_frozen BK132.out 1; have hfz72_2 := blk_frozen BK132.out 2; have hcz73_0 : w71.cell? ⟨gb118, 0, none⟩ = some (.int .i64 a0_0) := (blk_cell BK118.out 0).trans rfl; have hcz73_1 : w71.cell? ⟨gb118, 1, none⟩ = some (.slice (some ad135) l0_1.length c0_1) := (blk_cell BK118.out 1).trans rfl; have hcz73_2 : w71.cell? ⟨gb118, 2, none⟩ = some (.slice (some ad133) l0_2.length c0_2) := (blk_cell BK118.out 2).trans rfl; have hfz73_0 := blk_frozen BK118.out 0; have hfz73_1 := blk_frozen BK118.out 1; have hfz73_2 := blk_frozen BK118.out 2) | ((with_reducible refine gate_builtin (b := .append) (xs := #[.tmp 96, .tmp 107]) rfl ?_); at_builtin; refine Kd.Q_append k97 (w0 := w) w.heap.size rfl (.tmp 96) (.tmp 107) 98 97 (.agg #[(.int .i64 0), (.int .i64 0), (.int .i64 0)]) 24 rfl Try.underlying98 info97 rfl (by decide) (by omega) u11 x11_3 (⟨rd (rd_L1 l0_1 ((rd_T97 x11_2 0).f0)) x65_3, rd (rd_L1 l1_1 ((rd_T97 x11_2 0).f1)) x65_3, wrap64 ((wrap64 (((rd_T97 x11_2 0).f2) * a0_0)) + x65_3)⟩ : S97) [.int .i64 (rd (rd_L1 l0_1 ((rd_T97 x11_2 0).f0)) x65_3), .int .i64 (rd (rd_L1 l1_1 ((rd_T97 x11_2 0).f1)) x65_3), .int .i64 (wrap64 ((wrap64 (((rd_T97 x11_2 0).f2) * a0_0)) + x65_3))] (fun k_ => (w.heap.size ≤ k_) ∧ k_ ≠ gb132) (fun _ => False) rfl rfl ?aP (fun _ hk => hk.elim) ?aF ?aO ?aB ?aS ?aL ?_; (case aP => exact k97_mkM _ _ _ (⟨rd (rd_L1 l0_1 ((rd_T97 x11_2 0).f0)) x65_3, rd (rd_L1 l1_1 ((rd_T97 x11_2 0).f1)) x65_3, wrap64 ((wrap64 (((rd_T97 x11_2 0).f2) * a0_0)) + x65_3)⟩ : S97)); (case aB => exact (by repeat (first | (with_reducible first | exact HB.out | apply below_alloc | apply pw_below_drewN | apply below_drew1 | refine below_set ?_ GE118.out | refine below_set ?_ GE119.out | refine below_set ?_ GE126.out | refine below_set ?_ GE132.out) | exact HB.out))); (case aF => exact (fun k_ hk => ⟨(Nat.le_trans (below_size (by repeat (first | (with_reducible first | exact HB.out | apply below_alloc | apply pw_below_drewN | apply below_drew1 | refine below_set ?_ GE118.out | refine below_set ?_ GE119.out | refine below_set ?_ GE126.out | refine below_set ?_ GE132.out) | exact HB.out))) hk), Kd.freshB (g := gb132) (o := .cells #[.int .i64 ((rd_T97 x11_2 0).f0), .int .i64 ((rd_T97 x11_2 0).f1), .int .i64 ((rd_T97 x11_2 0).f2)] 97 (0, 0)) (by (with_reducible repeat (first | refine blk_drewN ?_ _ | refine blk_drew ?_ | refine blk_alloc ?_ _)); exact BK132.out) k_ hk⟩)); (case aO => exact (by (with_reducible repeat (first | apply Kd.Q_alloc | apply Kd.Q_drewN | apply Kd.Q_drew)); exact HO_11.out)); (case aS => exact (below_size (by repeat (first | (with_reducible first | exact HB.out | apply below_alloc | apply pw_below_drewN | apply below_drew1 | refine below_set ?_ GE118.out | refine below_set ?_ GE119.out | refine below_set ?_ GE126.out | refine below_set ?_ GE132.out) | exact HB.out)))); (case aL => have := LMc61.out; omega); intro v141 w74 ho hb hg hat; rw [← Ny140.out] at ho; have n0_ := Aside0.mk (Kd.V_afterv (ok := (fun k_ => ((P0_1_ k_ ∨ P0_2_ k_ ∨ P1_1_ k_ ∨ P1_2_ k_) ∨ w.heap.size ≤ k_) ∧ k_ ≠ gb118 ∧ k_ ≠ gb119 ∧ k_ ≠ gb126 ∧ k_ ≠ gb132)) (by (with_reducible repeat (first | apply Kd.V_alloc | apply Kd.V_drewN | apply Kd.V_drew)); exact Kd.V_mono HO_119001.out (fun _ hk => ⟨⟨hk.1, ⟨hk.2.2.1, ⟨hk.2.2.2.1, ⟨hk.2.2.2.2.1, hk.2.2.2.2.2⟩⟩⟩⟩, hk.2.1⟩)) hg hat); have n1_ := Aside0.mk (Kd.V_afterv (ok := (fun k_ => ((P0_1_ k_ ∨ P0_2_ k_ ∨ P1_1_ k_ ∨ P1_2_ k_) ∨ w.heap.size ≤ k_) ∧ k_ ≠ gb118 ∧ k_ ≠ gb119 ∧ k_ ≠ gb126 ∧ k_ ≠ gb132)) (by (with_reducible repeat (first | apply Kd.V_alloc | apply Kd.V_drewN | apply Kd.V_drew)); exact Kd.V_mono HO_119002.out (fun _ hk => ⟨⟨hk.1, ⟨hk.2.2.1, ⟨hk.2.2.2.1, ⟨hk.2.2.2.2.1, hk.2.2.2.2.2⟩⟩⟩⟩, hk.2.1⟩)) hg hat); have n2_ := Aside0.mk (Kd.V_afterv (ok := (fun k_ => ((P0_1_ k_ ∨ P0_2_ k_ ∨ P1_1_ k_ ∨ P1_2_ k_) ∨ w.heap.size ≤ k_) ∧ k_ ≠ gb118 ∧ k_ ≠ gb119 ∧ k_ ≠ gb126 ∧ k_ ≠ gb132)) (by (with_reducible repeat (first | apply Kd.V_alloc | apply Kd.V_drewN | apply Kd.V_drew)); exact Kd.V_mono HO_120001.out (fun _ hk => ⟨⟨hk.1, ⟨hk.2.2.1, ⟨hk.2.2.2.1, ⟨hk.2.2.2.2.1, hk.2.2.2.2.2⟩⟩⟩⟩, hk.2.1⟩)) hg hat); have n3_ := Aside0.mk (Kd.V_afterv (ok := (fun k_ => ((P0_1_ k_ ∨ P0_2_ k_ ∨ P1_1_ k_ ∨ P1_2_ k_) ∨ w.heap.size ≤ k_) ∧ k_ ≠ gb118 ∧ k_ ≠ gb119 ∧ k_ ≠ gb126 ∧ k_ ≠ gb132)) (by (with_reducible repeat (first | apply Kd.V_alloc | apply Kd.V_drewN | apply Kd.V_drew)); exact Kd.V_mono HO_120002.out (fun _ hk => ⟨⟨hk.1, ⟨hk.2.2.1, ⟨hk.2.2.2.1, ⟨hk.2.2.2.2.1, hk.2.2.2.2.2⟩⟩⟩⟩, hk.2.1⟩)) hg hat); have n4_ := Aside0.mk (blk_grown (g := gb118) (o := .cells #[.int .i64 a0_0, .slice (some ad135) l0_1.length c0_1, .slice (some ad133) l0_2.length c0_2] 47 (0, 0)) (by (with_reducible repeat (first | refine blk_drewN ?_ _ | refine blk_drew ?_ | refine blk_alloc ?_ _)); exact BK118.out) hg (Kd.Q_ne HO_11.out BK118.out (by decide))); have n5_ := Aside0.mk (blk_grown (g := gb119) (o := .cells #[.int .i64 a1_0, .slice (some ad137) l1_1.length c1_1, .slice (some ad134) l1_2.length c1_2] 47 (0, 0)) (by (with_reducible repeat (first | refine blk_drewN ?_ _ | refine blk_drew ?_ | refine blk_alloc ?_ _)); exact BK119.out) hg (Kd.Q_ne HO_11.out BK119.out (by decide))); have n6_ := Aside0.mk (blk_grown (g := gb126) (o := mObj (fun p_ : Int × Int => Value.agg #[Value.int .i64 p_.1, Value.int .i64 p_.2]) (Value.int .i64) y139) (by (with_reducible repeat (first | refine blk_drewN ?_ _ | refine blk_drew ?_ | refine blk_alloc ?_ _)); exact MK126.out) hg (Q_neM HO_11.out MK126.out)); have n7_ := Aside0.mk (blk_grown (g := gb132) (o := .cells #[.int .i64 ((rd_T97 x11_2 0).f0), .int .i64 ((rd_T97 x11_2 0).f1), .int .i64 ((rd_T97 x11_2 0).f2)] 97 (0, 0)) (by (with_reducible repeat (first | refine blk_drewN ?_ _ | refine blk_drew ?_ | refine blk_alloc ?_ _)); exact BK132.out) hg (Kd.Q_away HO_11.out (fun _ hk => hk.2))); have n8_ := Aside0.mk (Kd.V_afterv (ok := (fun k_ => ((P0_1_ k_ ∨ P0_2_ k_ ∨ P1_1_ k_ ∨ P1_2_ k_) ∨ w.heap.size ≤ k_) ∧ k_ ≠ gb118 ∧ k_ ≠ gb119 ∧ k_ ≠ gb126 ∧ k_ ≠ gb132)) (by (with_reducible repeat (first | apply Kd.V_alloc | apply Kd.V_drewN | apply Kd.V_drew)); exact Kd.V_mono HL135_0.out (fun _ hk => ⟨⟨hk.1, ⟨hk.2.2.1, ⟨hk.2.2.2.1, ⟨hk.2.2.2.2.1, hk.2.2.2.2.2⟩⟩⟩⟩, hk.2.1⟩)) hg hat); have n9_ := Aside0.mk (Kd.V_afterv (ok := (fun k_ => ((P0_1_ k_ ∨ P0_2_ k_ ∨ P1_1_ k_ ∨ P1_2_ k_) ∨ w.heap.size ≤ k_) ∧ k_ ≠ gb118 ∧ k_ ≠ gb119 ∧ k_ ≠ gb126 ∧ k_ ≠ gb132)) (by (with_reducible repeat (first | apply Kd.V_alloc | apply Kd.V_drewN | apply Kd.V_drew)); exact Kd.V_mono HL137_0.out (fun _ hk => ⟨⟨hk.1, ⟨hk.2.2.1, ⟨hk.2.2.2.1, ⟨hk.2.2.2.2.1, hk.2.2.2.2.2⟩⟩⟩⟩, hk.2.1⟩)) hg hat); have n10_ := Aside0.mk (hb); have n11_ := Aside0.mk (ho); clear HO_119001; clear HO_119002; clear HO_120001; clear HO_120002; clear BK118; clear BK119; clear MK126; clear BK132; clear HL135_0; clear HL137_0; clear HB; clear HO_11; have HO_119001 := n0_; have HO_119002 := n1_; have HO_120001 := n2_; have HO_120002 := n3_; have BK118 := n4_; have BK119 := n5_; have MK126 := n6_; have BK132 := n7_; have HL135_0 := n8_; have HL137_0 := n9_; have HB := n10_; have HO142 := n11_; clear n0_ n1_ n2_ n3_ n4_ n5_ n6_ n7_ n8_ n9_ n10_ n11_; clear ho hb hg hat)))
  go_roundg k3
  case measure => have := HK1.out; have := HK2.out; have := HK3.out; omega
  case rel => exact ⟨(y140), (wrap64 (x65_3 + 1)), (y139), (by first | rfl | (simp; done) | (simp [*]; done)), H', ⟨by have := HK1.out; have := HK2.out; have := HK3.out; omega⟩, ⟨by (with_reducible repeat (first | apply Kd.Q_alloc | apply Kd.Q_drewN | apply Kd.Q_drew)); exact HO142.out⟩, ⟨by (with_reducible repeat (first | apply Kd.V_alloc | apply Kd.V_drewN | apply Kd.V_drew)); exact Kd.V_mono HO_119001.out (fun _ hk => ⟨hk.1.1, ⟨hk.2, ⟨hk.1.2.1, ⟨hk.1.2.2.1, ⟨hk.1.2.2.2.1, hk.1.2.2.2.2⟩⟩⟩⟩⟩)⟩, ⟨by (with_reducible repeat (first | apply Kd.V_alloc | apply Kd.V_drewN | apply Kd.V_drew)); exact Kd.V_mono HO_119002.out (fun _ hk => ⟨hk.1.1, ⟨hk.2, ⟨hk.1.2.1, ⟨hk.1.2.2.1, ⟨hk.1.2.2.2.1, hk.1.2.2.2.2⟩⟩⟩⟩⟩)⟩, ⟨by (with_reducible repeat (first | apply Kd.V_alloc | apply Kd.V_drewN | apply Kd.V_drew)); exact Kd.V_mono HO_120001.out (fun _ hk => ⟨hk.1.1, ⟨hk.2, ⟨hk.1.2.1, ⟨hk.1.2.2.1, ⟨hk.1.2.2.2.1, hk.1.2.2.2.2⟩⟩⟩⟩⟩)⟩, ⟨by (with_reducible repeat (first | apply Kd.V_alloc | apply Kd.V_drewN | apply Kd.V_drew)); exact Kd.V_mono HO_120002.out (fun _ hk => ⟨hk.1.1, ⟨hk.2, ⟨hk.1.2.1, ⟨hk.1.2.2.1, ⟨hk.1.2.2.2.1, hk.1.2.2.2.2⟩⟩⟩⟩⟩)⟩, ⟨by (with_reducible repeat (first | refine blk_drewN ?_ _ | refine blk_drew ?_ | refine blk_alloc ?_ _)); exact BK118.out⟩, ⟨by (with_reducible repeat (first | refine blk_drewN ?_ _ | refine blk_drew ?_ | refine blk_alloc ?_ _)); exact BK119.out⟩, ⟨by (with_reducible repeat (first | refine blk_drewN ?_ _ | refine blk_drew ?_ | refine blk_alloc ?_ _)); exact MK126.out⟩, ⟨by (with_reducible repeat (first | refine blk_drewN ?_ _ | refine blk_drew ?_ | refine blk_alloc ?_ _)); exact BK132.out⟩, ⟨by repeat (first | (with_reducible first | exact HB.out | apply below_alloc | apply pw_below_drewN | apply below_drew1 | refine below_set ?_ GE118.out | refine below_set ?_ GE119.out | refine below_set ?_ GE126.out | refine below_set ?_ GE132.out) | exact HB.out)⟩⟩
 ·rw [if_neg c61] at H
  exact absurd H (by simp))
    ·(
 rw [if_neg c60] at H
 have c60b0 : ((mget x127000_3 (rd (rd_L1 l0_1 ((rd_T97 x11_2 0).f0)) x65_3, rd (rd_L1 l1_1 ((rd_T97 x11_2 0).f1)) x65_3) 0) == 0) = false := beq_eq_false_iff_ne.mpr c60
 have c60b1 : ((mget x127000_3 (rd (rd_L1 l0_1 ((rd_T97 x11_2 0).f0)) x65_3, rd (rd_L1 l1_1 ((rd_T97 x11_2 0).f1)) x65_3) 0) != 0) = true := bne_iff_ne.mpr c60
 have H' := Aside0.mk H
 clear H
 have hnb75 := NB118_119.out
 have hnc75 := NB119_118.out
 have hnb76 := NB118_126.out
 have hnc76 := NB126_118.out
 have hnb77 := NB118_132.out
 have hnc77 := NB132_118.out
 have hcz78_0 : wr.cell? ⟨gb118, 0, none⟩ = some (.int .i64 a0_0) := (blk_cell BK118.out 0).trans rfl
 have hcz78_1 : wr.cell? ⟨gb118, 1, none⟩ = some (.slice A0_1 l0_1.length c0_1) := (blk_cell BK118.out 1).trans rfl
 have hcz78_2 : wr.cell? ⟨gb118, 2, none⟩ = some (.slice (some ad133) l0_2.length c0_2) := (blk_cell BK118.out 2).trans rfl
 have hfz78_0 := blk_frozen BK118.out 0
 have hfz78_1 := blk_frozen BK118.out 1
 have hfz78_2 := blk_frozen BK118.out 2
 have hnb79 := NB132_119.out
 have hnc79 := NB119_132.out
 have hnb80 := NB132_126.out
 have hnc80 := NB126_132.out
 have hcz81_0 : wr.cell? ⟨gb132, 0, none⟩ = some (.int .i64 ((rd_T97 x11_2 0).f0)) := (blk_cell BK132.out 0).trans rfl
 have hcz81_1 : wr.cell? ⟨gb132, 1, none⟩ = some (.int .i64 ((rd_T97 x11_2 0).f1)) := (blk_cell BK132.out 1).trans rfl
 have hcz81_2 : wr.cell? ⟨gb132, 2, none⟩ = some (.int .i64 ((rd_T97 x11_2 0).f2)) := (blk_cell BK132.out 2).trans rfl
 have hfz81_0 := blk_frozen BK132.out 0
 have hfz81_1 := blk_frozen BK132.out 1
 have hfz81_2 := blk_frozen BK132.out 2
 have p135 : 0 ≤ (((rd_T97 x11_2 0).f0) : Int) := of_decide_eq_true (by first | (with_reducible assumption) | assumption)
 have q135 : ((rd_T97 x11_2 0).f0) < (l0_1.length : Int) := of_decide_eq_true (by first | (with_reducible assumption) | assumption)
 obtain ⟨ad135, A135_0, c135_0, e135, hx135_0, hl135_0, hi135_0⟩ := at_L1 (Kd.V_reads' HO_119001.out).2.2 ((rd_T97 x11_2 0).f0) p135 q135
 cases e135
 obtain ⟨ce135, hce135, hMe135, hcc135⟩ := Kd.V_get HO_119001.out [] ((rd_T97 x11_2 0).f0) p135 (by first | exact q135 | exact of_decide_eq_true (by first | (with_reducible assumption) | assumption) | (have e_ := (Kd.V_reads' HO_119001.out).1; omega))
 obtain ⟨ua135_0, uc135_0, rfl, ul135_0, ge135_0⟩ := Kd.FK_slice_open hMe135
 have hv135_0 := hcc135 0 _ rfl
 rw [Nat.add_zero, show ((Kd.slice 3 (Kd.int .i64))).sz = 1 from rfl, Nat.mul_one] at hv135_0
 replace hv135_0 := Option.some.inj (hv135_0.symm.trans hx135_0)
 injection hv135_0 with hva_ hvn_ hvc_
 rw [hva_] at ge135_0
 rw [hvc_] at ul135_0
 have HL135_0 := Aside0.mk (show Kd.V (Kd.int .i64) 3 _ w.heap.size _ _ (rd_L1 l0_1 ((rd_T97 x11_2 0).f0)) from Kd.V_mk ul135_0 ge135_0)
 clear hva_ hvn_ hvc_ ge135_0 ul135_0
 clear hcc135 hce135
 have HR135_0 := Aside0.mk hi135_0
 have HC135_0 := Aside0.mk hl135_0
 clear hi135_0 hl135_0
 replace p135 := eq_true p135
 replace q135 := eq_true q135
 have p136 : 0 ≤ (x65_3 : Int) := of_decide_eq_true (by first | (with_reducible assumption) | assumption)
 have q136 : x65_3 < ((rd_L1 l0_1 ((rd_T97 x11_2 0).f0)).length : Int) := of_decide_eq_true (by first | (with_reducible assumption) | assumption)
 obtain ⟨ad136, e136, hx136_0⟩ := Kd.at_int (by repeat (first | (with_reducible exact HR135_0.out) | (with_reducible refine Kd.C_alloc ?_ _) | (with_reducible refine Kd.C_drewN ?_ _) | (with_reducible refine Kd.C_drew ?_) | exact HR135_0.out)) x65_3 p136 q136
 cases e136
 replace p136 := eq_true p136
 replace q136 := eq_true q136
 have hnb82 := NB119_126.out
 have hnc82 := NB126_119.out
 have hcz83_0 : wr.cell? ⟨gb119, 0, none⟩ = some (.int .i64 a1_0) := (blk_cell BK119.out 0).trans rfl
 have hcz83_1 : wr.cell? ⟨gb119, 1, none⟩ = some (.slice A1_1 l1_1.length c1_1) := (blk_cell BK119.out 1).trans rfl
 have hcz83_2 : wr.cell? ⟨gb119, 2, none⟩ = some (.slice (some ad134) l1_2.length c1_2) := (blk_cell BK119.out 2).trans rfl
 have hfz83_0 := blk_frozen BK119.out 0
 have hfz83_1 := blk_frozen BK119.out 1
 have hfz83_2 := blk_frozen BK119.out 2
 have p137 : 0 ≤ (((rd_T97 x11_2 0).f1) : Int) := of_decide_eq_true (by first | (with_reducible assumption) | assumption)
 have q137 : ((rd_T97 x11_2 0).f1) < (l1_1.length : Int) := of_decide_eq_true (by first | (with_reducible assumption) | assumption)
 obtain ⟨ad137, A137_0, c137_0, e137, hx137_0, hl137_0, hi137_0⟩ := at_L1 (Kd.V_reads' HO_120001.out).2.2 ((rd_T97 x11_2 0).f1) p137 q137
 cases e137
 obtain ⟨ce137, hce137, hMe137, hcc137⟩ := Kd.V_get HO_120001.out [] ((rd_T97 x11_2 0).f1) p137 (by first | exact q137 | exact of_decide_eq_true (by first | (with_reducible assumption) | assumption) | (have e_ := (Kd.V_reads' HO_120001.out).1; omega))
 obtain ⟨ua137_0, uc137_0, rfl, ul137_0, ge137_0⟩ := Kd.FK_slice_open hMe137
 have hv137_0 := hcc137 0 _ rfl
 rw [Nat.add_zero, show ((Kd.slice 3 (Kd.int .i64))).sz = 1 from rfl, Nat.mul_one] at hv137_0
 replace hv137_0 := Option.some.inj (hv137_0.symm.trans hx137_0)
 injection hv137_0 with hva_ hvn_ hvc_
 rw [hva_] at ge137_0
 rw [hvc_] at ul137_0
 have HL137_0 := Aside0.mk (show Kd.V (Kd.int .i64) 3 _ w.heap.size _ _ (rd_L1 l1_1 ((rd_T97 x11_2 0).f1)) from Kd.V_mk ul137_0 ge137_0)
 clear hva_ hvn_ hvc_ ge137_0 ul137_0
 clear hcc137 hce137
 have HR137_0 := Aside0.mk hi137_0
 have HC137_0 := Aside0.mk hl137_0
 clear hi137_0 hl137_0
 replace p137 := eq_true p137
 replace q137 := eq_true q137
 have p138 : 0 ≤ (x65_3 : Int) := of_decide_eq_true (by first | (with_reducible assumption) | assumption)
 have q138 : x65_3 < ((rd_L1 l1_1 ((rd_T97 x11_2 0).f1)).length : Int) := of_decide_eq_true (by first | (with_reducible assumption) | assumption)
 obtain ⟨ad138, e138, hx138_0⟩ := Kd.at_int (by repeat (first | (with_reducible exact HR137_0.out) | (with_reducible refine Kd.C_alloc ?_ _) | (with_reducible refine Kd.C_drewN ?_ _) | (with_reducible refine Kd.C_drew ?_) | exact HR137_0.out)) x65_3 p138 q138
 cases e138
 replace p138 := eq_true p138
 replace q138 := eq_true q138
 iterate 4 ((try go_quiet (fail)); try go_wp2_with (first | ((with_reducible refine gate_dst (N := 90) rfl ?_); refine mlook_event (t := 95) (kt := 87) (vt := 3) (g := gb126) (mkey_arr2 Try.underlying87 Try.underlying3 (by kernel_rfl) (by kernel_rfl)) Try.underlying95 0 (fun _ => by kernel_rfl) (ev := (Value.int .i64)) (m := x127000_3) (rd (rd_L1 l0_1 ((rd_T97 x11_2 0).f0)) x65_3, rd (rd_L1 l1_1 ((rd_T97 x11_2 0).f1)) x65_3) (show _ = some (mObj (fun p_ : Int × Int => Value.agg #[Value.int .i64 p_.1, Value.int .i64 p_.2]) (Value.int .i64) x127000_3) from by (with_reducible repeat (first | refine blk_drewN ?_ _ | refine blk_drew ?_ | refine blk_alloc ?_ _)); exact MK126.out) rfl ?hg ?hm ?hk ?_; (case hg => rfl); (case hm => rfl); (case hk => first | rfl | (go_simp; done) | (go_simp; rfl)))))
 go_roundg k3
 case measure => have := HK1.out; have := HK2.out; have := HK3.out; omega
 case rel => exact ⟨(x11_3), (wrap64 (x65_3 + 1)), (x127000_3), (by first | rfl | (simp; done) | (simp [*]; done)), H', ⟨by have := HK1.out; have := HK2.out; have := HK3.out; omega⟩, ⟨by (with_reducible repeat (first | apply Kd.Q_alloc | apply Kd.Q_drewN | apply Kd.Q_drew)); exact HO_11.out⟩, ⟨by (with_reducible repeat (first | apply Kd.V_alloc | apply Kd.V_drewN | apply Kd.V_drew)); exact HO_119001.out⟩, ⟨by (with_reducible repeat (first | apply Kd.V_alloc | apply Kd.V_drewN | apply Kd.V_drew)); exact HO_119002.out⟩, ⟨by (with_reducible repeat (first | apply Kd.V_alloc | apply Kd.V_drewN | apply Kd.V_drew)); exact HO_120001.out⟩, ⟨by (with_reducible repeat (first | apply Kd.V_alloc | apply Kd.V_drewN | apply Kd.V_drew)); exact HO_120002.out⟩, ⟨by (with_reducible repeat (first | refine blk_drewN ?_ _ | refine blk_drew ?_ | refine blk_alloc ?_ _)); exact BK118.out⟩, ⟨by (with_reducible repeat (first | refine blk_drewN ?_ _ | refine blk_drew ?_ | refine blk_alloc ?_ _)); exact BK119.out⟩, ⟨by (with_reducible repeat (first | refine blk_drewN ?_ _ | refine blk_drew ?_ | refine blk_alloc ?_ _)); exact MK126.out⟩, ⟨by (with_reducible repeat (first | refine blk_drewN ?_ _ | refine blk_drew ?_ | refine blk_alloc ?_ _)); exact BK132.out⟩, ⟨by repeat (first | (with_reducible first | exact HB.out | apply below_alloc | apply pw_below_drewN | apply below_drew1 | refine below_set ?_ GE118.out | refine below_set ?_ GE119.out | refine below_set ?_ GE126.out | refine below_set ?_ GE132.out) | exact HB.out)⟩⟩)
   ·rw [if_neg c59] at H
    exact absurd H (by simp)
  ·rw [if_neg c58] at H
   exact absurd H (by simp)
 ·rw [if_neg c57] at H
  exact absurd H (by simp))
    ·(
 rw [if_neg c56] at H
 exact absurd H (by simp))
   ·rw [if_neg c55] at H
    exact absurd H (by simp)
  ·rw [if_neg c54] at H
   exact absurd H (by simp)
 ·rw [if_neg c53] at H
  exact absurd H (by simp))
    ·(
 rw [if_neg c52] at H
 have c52b0 : decide (x65_3 < a0_0) = false := decide_eq_false c52
 clear c52
 by_cases c84 : 1 ≤ (x11_3.length : Int)
 ·rw [if_pos c84] at H
  have c84b0 := eq_true c84
  have c84b1 : decide (1 ≤ (x11_3.length : Int)) = true := decide_eq_true c84
  clear c84
  obtain ⟨y143, hy143⟩ : ∃ y_ : List (S97), y_ = (x11_3.drop (1 : Int).toNat) := ⟨_, rfl⟩
  replace H : (seqs_Differ.l1 k3 y143 a0_0 l0_1 l0_2 a1_0 l1_1 l1_2 x127000_3) = some (r1, r2, r3) := by first | (rw [hy143]; with_reducible exact H) | (have H2_ := (Option.bind_some _ _).symm.trans H; rw [hy143]; with_reducible exact H2_) | (have H2_ := (Option.bind_some _ _).symm.trans H; with_reducible exact H2_) | with_reducible exact H | (rw [hy143]; exact H) | exact H
  have Ny143 := Aside0.mk hy143
  clear hy143
  have H' := Aside0.mk H
  clear H
  obtain ⟨Ao85, co85, eo85, _⟩ := Kd.Q_slice HO_11.out
  subst eo85
  have q86 : (1 : Int) ≤ ((x11_3.length : Int) : Int) := of_decide_eq_true (by first | (with_reducible assumption) | assumption)
  obtain ⟨i086, hi086, _, hsz86, _⟩ := info_parts info97
  have hcut86 := cut_from (P := Try.prog) 98 97 .i64 Try.underlying98 hi086 3 hsz86 Ao85 x11_3.length co85 1 (by omega) q86
  have hr86 := Kd.Q_drop (k := (1 : Int).toNat) HO_11.out (by omega)
  obtain ⟨A86, hA86⟩ : ∃ A1, A1 = (if co85 = (1 : Int).toNat then Ao85 else (Ao85 : Option Addr).map (·.add ((1 : Int).toNat * 3))) := ⟨_, rfl⟩
  obtain ⟨c86, hc86⟩ : ∃ c1, c1 = co85 - (1 : Int).toNat := ⟨_, rfl⟩
  have hy86 : y143.length = x11_3.length - (1 : Int).toNat := (by rw [Ny143.out, List.length_drop])
  rw [← Ny143.out] at hr86
  rw [← hy86, ← hA86, ← hc86] at hcut86
  replace hr86 : Kd.Q k97 97 wr w.heap.size (fun k_ => (w.heap.size ≤ k_) ∧ k_ ≠ gb132) (.slice A86 y143.length c86) y143 := (by rw [hA86, hc86, hy86]; exact hr86)
  have HE86 : Aside0 ((Value.slice A86 y143.length c86).ownBlock = (.slice Ao85 x11_3.length co85 : Value).ownBlock) := ⟨by rw [hA86]; split <;> (cases (Ao85 : Option Addr) <;> rfl)⟩
  clear hy86 hi086 hsz86 HO_11 hA86 hc86
  have HO145 := Aside0.mk hr86
  clear hr86
  replace q86 := eq_true q86
  have n_ := Aside0.mk (Kd.V_mono (ok' := fun k_ => ((((P0_1_ k_ ∨ P0_2_ k_ ∨ P1_1_ k_ ∨ P1_2_ k_) ∨ w.heap.size ≤ k_)) ∧ (some k_ ≠ (.slice A86 y143.length c86 : Value).ownBlock ∧ (k_ ≠ gb118 ∧ (k_ ≠ gb119 ∧ (k_ ≠ gb126 ∧ k_ ≠ gb132)))))) HO_119001.out (fun k_ hk => ⟨hk.1, ⟨(by rw [HE86.out]; exact hk.2.1), ⟨hk.2.2.1, ⟨hk.2.2.2.1, ⟨hk.2.2.2.2.1, hk.2.2.2.2.2⟩⟩⟩⟩⟩))
  clear HO_119001
  have HO_119001 := n_
  clear n_
  have n_ := Aside0.mk (Kd.V_mono (ok' := fun k_ => ((((P0_1_ k_ ∨ P0_2_ k_ ∨ P1_1_ k_ ∨ P1_2_ k_) ∨ w.heap.size ≤ k_)) ∧ (some k_ ≠ (.slice A86 y143.length c86 : Value).ownBlock ∧ (k_ ≠ gb118 ∧ (k_ ≠ gb119 ∧ (k_ ≠ gb126 ∧ k_ ≠ gb132)))))) HO_119002.out (fun k_ hk => ⟨hk.1, ⟨(by rw [HE86.out]; exact hk.2.1), ⟨hk.2.2.1, ⟨hk.2.2.2.1, ⟨hk.2.2.2.2.1, hk.2.2.2.2.2⟩⟩⟩⟩⟩))
  clear HO_119002
  have HO_119002 := n_
  clear n_
  have n_ := Aside0.mk (Kd.V_mono (ok' := fun k_ => ((((P0_1_ k_ ∨ P0_2_ k_ ∨ P1_1_ k_ ∨ P1_2_ k_) ∨ w.heap.size ≤ k_)) ∧ (some k_ ≠ (.slice A86 y143.length c86 : Value).ownBlock ∧ (k_ ≠ gb118 ∧ (k_ ≠ gb119 ∧ (k_ ≠ gb126 ∧ k_ ≠ gb132)))))) HO_120001.out (fun k_ hk => ⟨hk.1, ⟨(by rw [HE86.out]; exact hk.2.1), ⟨hk.2.2.1, ⟨hk.2.2.2.1, ⟨hk.2.2.2.2.1, hk.2.2.2.2.2⟩⟩⟩⟩⟩))
  clear HO_120001
  have HO_120001 := n_
  clear n_
  have n_ := Aside0.mk (Kd.V_mono (ok' := fun k_ => ((((P0_1_ k_ ∨ P0_2_ k_ ∨ P1_1_ k_ ∨ P1_2_ k_) ∨ w.heap.size ≤ k_)) ∧ (some k_ ≠ (.slice A86 y143.length c86 : Value).ownBlock ∧ (k_ ≠ gb118 ∧ (k_ ≠ gb119 ∧ (k_ ≠ gb126 ∧ k_ ≠ gb132)))))) HO_120002.out (fun k_ hk => ⟨hk.1, ⟨(by rw [HE86.out]; exact hk.2.1), ⟨hk.2.2.1, ⟨hk.2.2.2.1, ⟨hk.2.2.2.2.1, hk.2.2.2.2.2⟩⟩⟩⟩⟩))
  clear HO_120002
  have HO_120002 := n_
  clear n_
  go_wp2
  repeat (go_quiet (fail); try go_wp2)
  go_roundg k3
  case measure => have := HK1.out; have := HK2.out; have := HK3.out; omega
  case rel => exact ⟨(y143), (x127000_3), H', ⟨by have := HK1.out; have := HK2.out; have := HK3.out; omega⟩, ⟨by (with_reducible repeat (first | apply Kd.Q_alloc | apply Kd.Q_drewN | apply Kd.Q_drew)); exact Kd.Q_mono HO145.out (fun _ hk => hk.1)⟩, ⟨by (with_reducible repeat (first | apply Kd.V_alloc | apply Kd.V_drewN | apply Kd.V_drew)); exact Kd.V_mono HO_119001.out (fun _ hk => ⟨hk.1, ⟨hk.2.1, ⟨hk.2.2.1, ⟨hk.2.2.2.1, hk.2.2.2.2.1⟩⟩⟩⟩)⟩, ⟨by (with_reducible repeat (first | apply Kd.V_alloc | apply Kd.V_drewN | apply Kd.V_drew)); exact Kd.V_mono HO_119002.out (fun _ hk => ⟨hk.1, ⟨hk.2.1, ⟨hk.2.2.1, ⟨hk.2.2.2.1, hk.2.2.2.2.1⟩⟩⟩⟩)⟩, ⟨by (with_reducible repeat (first | apply Kd.V_alloc | apply Kd.V_drewN | apply Kd.V_drew)); exact Kd.V_mono HO_120001.out (fun _ hk => ⟨hk.1, ⟨hk.2.1, ⟨hk.2.2.1, ⟨hk.2.2.2.1, hk.2.2.2.2.1⟩⟩⟩⟩)⟩, ⟨by (with_reducible repeat (first | apply Kd.V_alloc | apply Kd.V_drewN | apply Kd.V_drew)); exact Kd.V_mono HO_120002.out (fun _ hk => ⟨hk.1, ⟨hk.2.1, ⟨hk.2.2.1, ⟨hk.2.2.2.1, hk.2.2.2.2.1⟩⟩⟩⟩)⟩, ⟨by (with_reducible repeat (first | refine blk_drewN ?_ _ | refine blk_drew ?_ | refine blk_alloc ?_ _)); exact BK118.out⟩, ⟨by (with_reducible repeat (first | refine blk_drewN ?_ _ | refine blk_drew ?_ | refine blk_alloc ?_ _)); exact BK119.out⟩, ⟨by (with_reducible repeat (first | refine blk_drewN ?_ _ | refine blk_drew ?_ | refine blk_alloc ?_ _)); exact MK126.out⟩, ⟨by repeat (first | (with_reducible first | exact HB.out | apply below_alloc | apply pw_below_drewN | apply below_drew1 | refine below_set ?_ GE118.out | refine below_set ?_ GE119.out | refine below_set ?_ GE126.out | refine below_set ?_ GE132.out) | exact HB.out)⟩⟩
 ·rw [if_neg c84] at H
  exact absurd H (by simp))
 ·rw [if_neg c40] at H
  have c40b0 : ((rd l0_2 ((rd_T97 x11_2 0).f0)) == (rd l1_2 ((rd_T97 x11_2 0).f1))) = false := beq_eq_false_iff_ne.mpr c40
  have c40b1 : ((rd l0_2 ((rd_T97 x11_2 0).f0)) != (rd l1_2 ((rd_T97 x11_2 0).f1))) = true := bne_iff_ne.mpr c40
  simp only [Option.some.injEq, Prod.mk.injEq] at H
  obtain ⟨rfl, rfl, rfl⟩ := H
  obtain ⟨Ao87, co87, eo87, _⟩ := Kd.Q_slice HO_11.out
  subst eo87
  have p131 : 0 ≤ (0 : Int) := (by omega)
  have q131 : 0 < (x11_2.length : Int) := of_decide_eq_true (by first | (with_reducible assumption) | assumption)
  obtain ⟨ad131, e131, hx131_0, hx131_1, hx131_2⟩ := at_T97 (Kd.Q_reads' HO_11.out).2.2 0 p131 q131
  cases e131
  have qi131 : (0 < x11_2.length) = True := eq_true (by omega)
  (try rw [show ((0 : Int)).toNat = 0 from rfl] at hx131_0)
  (try rw [show 0 * 3 = 0 from rfl] at hx131_0)
  (try rw [Addr.add_zero'] at hx131_0)
  (try rw [show ((0 : Int)).toNat = 0 from rfl] at hx131_1)
  (try rw [show 0 * 3 = 0 from rfl] at hx131_1)
  (try rw [Addr.add_zero'] at hx131_1)
  (try rw [show ((0 : Int)).toNat = 0 from rfl] at hx131_2)
  (try rw [show 0 * 3 = 0 from rfl] at hx131_2)
  (try rw [Addr.add_zero'] at hx131_2)
  replace p131 := eq_true p131
  replace q131 := eq_true q131
  iterate 4 ((try go_quiet (fail)); try go_wp2_with (first | ((with_reducible refine gate_dst (N := 12) rfl ?_); refine box_event ?hg (N := 12) ?hd (cs := #[.int .i64 0, .int .i64 0, .int .i64 0]) (t := 97) ?hr ?_; (case hd => rfl); (case hg => rfl); (case hr => first | (go_simp; done) | (go_simp; rfl)); intro gb132 hg w88 hbox hb; have n0_ := Aside0.mk (Kd.Q_below (Kd.Q_elderB (by (with_reducible repeat (first | apply Kd.Q_alloc | apply Kd.Q_drewN | apply Kd.Q_drew)); exact HO_11.out) gb132 (Nat.le_of_eq hg.symm)) hb); have n1_ := Aside0.mk (Kd.V_below (Kd.V_elderB (by (with_reducible repeat (first | apply Kd.V_alloc | apply Kd.V_drewN | apply Kd.V_drew)); exact HO_119001.out) gb132 (Nat.le_of_eq hg.symm)) hb); have n2_ := Aside0.mk (Kd.V_below (Kd.V_elderB (by (with_reducible repeat (first | apply Kd.V_alloc | apply Kd.V_drewN | apply Kd.V_drew)); exact HO_119002.out) gb132 (Nat.le_of_eq hg.symm)) hb); have n3_ := Aside0.mk (Kd.V_below (Kd.V_elderB (by (with_reducible repeat (first | apply Kd.V_alloc | apply Kd.V_drewN | apply Kd.V_drew)); exact HO_120001.out) gb132 (Nat.le_of_eq hg.symm)) hb); have n4_ := Aside0.mk (Kd.V_below (Kd.V_elderB (by (with_reducible repeat (first | apply Kd.V_alloc | apply Kd.V_drewN | apply Kd.V_drew)); exact HO_120002.out) gb132 (Nat.le_of_eq hg.symm)) hb); have n5_ := Aside0.mk (blk_below (g := gb118) (o := .cells #[.int .i64 a0_0, .slice A0_1 l0_1.length c0_1, .slice A0_2 l0_2.length c0_2] 47 (0, 0)) (by (with_reducible repeat (first | refine blk_drewN ?_ _ | refine blk_drew ?_ | refine blk_alloc ?_ _)); exact BK118.out) hb); have n6_ := Aside0.mk (blk_below (g := gb119) (o := .cells #[.int .i64 a1_0, .slice A1_1 l1_1.length c1_1, .slice A1_2 l1_2.length c1_2] 47 (0, 0)) (by (with_reducible repeat (first | refine blk_drewN ?_ _ | refine blk_drew ?_ | refine blk_alloc ?_ _)); exact BK119.out) hb); have n7_ := Aside0.mk (blk_below (g := gb126) (o := mObj (fun p_ : Int × Int => Value.agg #[Value.int .i64 p_.1, Value.int .i64 p_.2]) (Value.int .i64) x127000_2) (by (with_reducible repeat (first | refine blk_drewN ?_ _ | refine blk_drew ?_ | refine blk_alloc ?_ _)); exact MK126.out) hb); have n8_ := Aside0.mk (below_step (by repeat (first | (with_reducible first | exact HB.out | apply below_alloc | apply pw_below_drewN | apply below_drew1 | refine below_set ?_ GE118.out | refine below_set ?_ GE119.out | refine below_set ?_ GE126.out) | exact HB.out)) hb); have n9_ := Aside0.mk (hbox); have n10_ := Aside0.mk ((by rw [hg]; exact (below_size (by repeat (first | (with_reducible first | exact HB.out | apply below_alloc | apply pw_below_drewN | apply below_drew1 | refine below_set ?_ GE118.out | refine below_set ?_ GE119.out | refine below_set ?_ GE126.out) | exact HB.out))) : w.heap.size ≤ gb132)); have n11_ := Aside0.mk ((by rw [hg]; exact (below_size (by repeat (first | (with_reducible first | exact HB.out | apply below_alloc | apply pw_below_drewN | apply below_drew1 | refine below_set ?_ GE118.out | refine below_set ?_ GE119.out | refine below_set ?_ GE126.out) | exact HB.out))) : w.heap.size ≤ gb132)); have n12_ := Aside0.mk ((by rw [hg]; exact Nat.ne_of_lt (blk_lt (g := gb118) (o := .cells #[.int .i64 a0_0, .slice A0_1 l0_1.length c0_1, .slice A0_2 l0_2.length c0_2] 47 (0, 0)) (by (with_reducible repeat (first | refine blk_drewN ?_ _ | refine blk_drew ?_ | refine blk_alloc ?_ _)); exact BK118.out)) : gb118 ≠ gb132)); have n13_ := Aside0.mk ((by rw [hg]; exact Nat.ne_of_gt (blk_lt (g := gb118) (o := .cells #[.int .i64 a0_0, .slice A0_1 l0_1.length c0_1, .slice A0_2 l0_2.length c0_2] 47 (0, 0)) (by (with_reducible repeat (first | refine blk_drewN ?_ _ | refine blk_drew ?_ | refine blk_alloc ?_ _)); exact BK118.out)) : gb132 ≠ gb118)); have n14_ := Aside0.mk ((by rw [hg]; exact Nat.ne_of_lt (blk_lt (g := gb119) (o := .cells #[.int .i64 a1_0, .slice A1_1 l1_1.length c1_1, .slice A1_2 l1_2.length c1_2] 47 (0, 0)) (by (with_reducible repeat (first | refine blk_drewN ?_ _ | refine blk_drew ?_ | refine blk_alloc ?_ _)); exact BK119.out)) : gb119 ≠ gb132)); have n15_ := Aside0.mk ((by rw [hg]; exact Nat.ne_of_gt (blk_lt (g := gb119) (o := .cells #[.int .i64 a1_0, .slice A1_1 l1_1.length c1_1, .slice A1_2 l1_2.length c1_2] 47 (0, 0)) (by (with_reducible repeat (first | refine blk_drewN ?_ _ | refine blk_drew ?_ | refine blk_alloc ?_ _)); exact BK119.out)) : gb132 ≠ gb119)); have n16_ := Aside0.mk ((by rw [hg]; exact Nat.ne_of_lt (blk_lt (g := gb126) (o := mObj (fun p_ : Int × Int => Value.agg #[Value.int .i64 p_.1, Value.int .i64 p_.2]) (Value.int .i64) x127000_2) (by (with_reducible repeat (first | refine blk_drewN ?_ _ | refine blk_drew ?_ | refine blk_alloc ?_ _)); exact MK126.out)) : gb126 ≠ gb132)); have n17_ := Aside0.mk ((by rw [hg]; exact Nat.ne_of_gt (blk_lt (g := gb126) (o := mObj (fun p_ : Int × Int => Value.agg #[Value.int .i64 p_.1, Value.int .i64 p_.2]) (Value.int .i64) x127000_2) (by (with_reducible repeat (first | refine blk_drewN ?_ _ | refine blk_drew ?_ | refine blk_alloc ?_ _)); exact MK126.out)) : gb132 ≠ gb126)); clear HO_11; clear HO_119001; clear HO_119002; clear HO_120001; clear HO_120002; clear BK118; clear BK119; clear MK126; clear HB; have HO_11 := n0_; have HO_119001 := n1_; have HO_119002 := n2_; have HO_120001 := n3_; have HO_120002 := n4_; have BK118 := n5_; have BK119 := n6_; have MK126 := n7_; have HB := n8_; have BK132 := n9_; have GW132 := n10_; have GE132 := n11_; have NB118_132 := n12_; have NB132_118 := n13_; have NB119_132 := n14_; have NB132_119 := n15_; have NB126_132 := n16_; have NB132_126 := n17_; clear n0_ n1_ n2_ n3_ n4_ n5_ n6_ n7_ n8_ n9_ n10_ n11_ n12_ n13_ n14_ n15_ n16_ n17_; clear hb hbox hg; have hnb89 := NB132_118.out; have hnc89 := NB118_132.out; have hnb90 := NB132_119.out; have hnc90 := NB119_132.out; have hnb91 := NB132_126.out; have hnc91 := NB126_132.out; have hcz92_0 : w88.cell? ⟨gb132, 0, none⟩ = some (.int .i64 0) := (blk_cell BK132.out 0).trans rfl; have hcz92_1 : w88.cell? ⟨gb132, 1, none⟩ = some (.int .i64 0) := (blk_cell BK132.out 1).trans rfl; have hcz92_2 : w88.cell? ⟨gb132, 2, none⟩ = some (.int .i64 0) := (blk_cell BK132.out 2).trans rfl; have hfz92_0 := blk_frozen BK132.out 0; have hfz92_1 := blk_frozen BK132.out 1; have hfz92_2 := blk_frozen BK132.out 2; have hnb93 := NB118_119.out; have hnc93 := NB119_118.out; have hnb94 := NB118_126.out; have hnc94 := NB126_118.out; have hcz95_0 : w88.cell? ⟨gb118, 0, none⟩ = some (.int .i64 a0_0) := (blk_cell BK118.out 0).trans rfl; have hcz95_1 : w88.cell? ⟨gb118, 1, none⟩ = some (.slice A0_1 l0_1.length c0_1) := (blk_cell BK118.out 1).trans rfl; have hcz95_2 : w88.cell? ⟨gb118, 2, none⟩ = some (.slice A0_2 l0_2.length c0_2) := (blk_cell BK118.out 2).trans rfl; have hfz95_0 := blk_frozen BK118.out 0; have hfz95_1 := blk_frozen BK118.out 1; have hfz95_2 := blk_frozen BK118.out 2; have p133 : 0 ≤ (((rd_T97 x11_2 0).f0) : Int) := of_decide_eq_true (by first | (with_reducible assumption) | assumption); have q133 : ((rd_T97 x11_2 0).f0) < (l0_2.length : Int) := of_decide_eq_true (by first | (with_reducible assumption) | assumption); obtain ⟨ad133, e133, hx133_0⟩ := Kd.at_int (Kd.V_reads' HO_119002.out).2.2 ((rd_T97 x11_2 0).f0) p133 q133; cases e133; have hn133_0 : ad133.block ≠ gb132 := V_blk HO_119002.out (by omega) (by decide) (fun _ hk => hk.2); have hn133_1 : ad133.block ≠ gb132 := V_blk HO_119002.out (by omega) (by decide) (fun _ hk => hk.2); have hn133_2 : ad133.block ≠ gb132 := V_blk HO_119002.out (by omega) (by decide) (fun _ hk => hk.2); replace hx133_0 := (cell_far (p := ⟨gb132, 0, none⟩) (by first | (rw [add_block]; exact hn133_0) | (show (Addr.add _ _).block ≠ _; rw [add_block]; exact hn133_0) | exact hn133_0) (.int .i64 ((rd_T97 x11_2 0).f0))).trans hx133_0; replace hx133_0 := (cell_far (p := ⟨gb132, 1, none⟩) (by first | (rw [add_block]; exact hn133_1) | (show (Addr.add _ _).block ≠ _; rw [add_block]; exact hn133_1) | exact hn133_1) (.int .i64 ((rd_T97 x11_2 0).f1))).trans hx133_0; replace hx133_0 := (cell_far (p := ⟨gb132, 2, none⟩) (by first | (rw [add_block]; exact hn133_2) | (show (Addr.add _ _).block ≠ _; rw [add_block]; exact hn133_2) | exact hn133_2) (.int .i64 ((rd_T97 x11_2 0).f2))).trans hx133_0; (try have hy133_0 := fun (n_ : Nat) => (show (((((w88.drewN n_).setCell ⟨gb132, 0, none⟩ (.int .i64 ((rd_T97 x11_2 0).f0))).setCell ⟨gb132, 1, none⟩ (.int .i64 ((rd_T97 x11_2 0).f1))).setCell ⟨gb132, 2, none⟩ (.int .i64 ((rd_T97 x11_2 0).f2)))).cell? _ = some _ from hx133_0)); clear hn133_0; clear hn133_1; clear hn133_2; replace p133 := eq_true p133; replace q133 := eq_true q133; have hnb96 := NB119_126.out; have hnc96 := NB126_119.out; have hcz97_0 : w88.cell? ⟨gb119, 0, none⟩ = some (.int .i64 a1_0) := (blk_cell BK119.out 0).trans rfl; have hcz97_1 : w88.cell? ⟨gb119, 1, none⟩ = some (.slice A1_1 l1_1.length c1_1) := (blk_cell BK119.out 1).trans rfl; have hcz97_2 : w88.cell? ⟨gb119, 2, none⟩ = some (.slice A1_2 l1_2.length c1_2) := (blk_cell BK119.out 2).trans rfl; have hfz97_0 := blk_frozen BK119.out 0; have hfz97_1 := blk_frozen BK119.out 1; have hfz97_2 := blk_frozen BK119.out 2; have p134 : 0 ≤ (((rd_T97 x11_2 0).f1) : Int) := of_decide_eq_true (by first | (with_reducible assumption) | assumption); have q134 : ((rd_T97 x11_2 0).f1) < (l1_2.length : Int) := of_decide_eq_true (by first | (with_reducible assumption) | assumption); obtain ⟨ad134, e134, hx134_0⟩ := Kd.at_int (Kd.V_reads' HO_120002.out).2.2 ((rd_T97 x11_2 0).f1) p134 q134; cases e134; have hn134_0 : ad134.block ≠ gb132 := V_blk HO_120002.out (by omega) (by decide) (fun _ hk => hk.2); have hn134_1 : ad134.block ≠ gb132 := V_blk HO_120002.out (by omega) (by decide) (fun _ hk => hk.2); have hn134_2 : ad134.block ≠ gb132 := V_blk HO_120002.out (by omega) (by decide) (fun _ hk => hk.2); replace hx134_0 := (cell_far (p := ⟨gb132, 0, none⟩) (by first | (rw [add_block]; exact hn134_0) | (show (Addr.add _ _).block ≠ _; rw [add_block]; exact hn134_0) | exact hn134_0) (.int .i64 ((rd_T97 x11_2 0).f0))).trans hx134_0; replace hx134_0 := (cell_far (p := ⟨gb132, 1, none⟩) (by first | (rw [add_block]; exact hn134_1) | (show (Addr.add _ _).block ≠ _; rw [add_block]; exact hn134_1) | exact hn134_1) (.int .i64 ((rd_T97 x11_2 0).f1))).trans hx134_0; replace hx134_0 := (cell_far (p := ⟨gb132, 2, none⟩) (by first | (rw [add_block]; exact hn134_2) | (show (Addr.add _ _).block ≠ _; rw [add_block]; exact hn134_2) | exact hn134_2) (.int .i64 ((rd_T97 x11_2 0).f2))).trans hx134_0; (try have hy134_0 := fun (n_ : Nat) => (show (((((w88.drewN n_).setCell ⟨gb132, 0, none⟩ (.int .i64 ((rd_T97 x11_2 0).f0))).setCell ⟨gb132, 1, none⟩ (.int .i64 ((rd_T97 x11_2 0).f1))).setCell ⟨gb132, 2, none⟩ (.int .i64 ((rd_T97 x11_2 0).f2)))).cell? _ = some _ from hx134_0)); clear hn134_0; clear hn134_1; clear hn134_2; replace p134 := eq_true p134; replace q134 := eq_true q134)))
  go_ret3
  exact ⟨by first | rfl | (simp [errW_none, errW_some] <;> rfl) | (simp [*, errW_none, errW_some] <;> rfl), by repeat (first | (with_reducible first | exact HB.out | apply below_alloc | apply pw_below_drewN | apply below_drew1 | refine below_set ?_ GE118.out | refine below_set ?_ GE119.out | refine below_set ?_ GE126.out | refine below_set ?_ GE132.out) | exact HB.out)⟩)
    ·(
 rw [if_neg c39] at H
 exact absurd H (by simp))
   ·rw [if_neg c38] at H
    exact absurd H (by simp)
  ·rw [if_neg c37] at H
   exact absurd H (by simp)
 ·rw [if_neg c36] at H
  exact absurd H (by simp))
    ·(
 rw [if_neg c35] at H
 exact absurd H (by simp))
   ·rw [if_neg c34] at H
    have c34b0 : decide (0 < (x11_2.length : Int)) = false := decide_eq_false c34
    have c34b1 : decide (0 < x11_2.length) = false := decide_eq_false (by omega)
    clear c34
    simp only [Option.some.injEq, Prod.mk.injEq] at H
    obtain ⟨rfl, rfl, rfl⟩ := H
    obtain ⟨Ao98, co98, eo98, _⟩ := Kd.Q_slice HO_11.out
    subst eo98
    go_wp2
    repeat (go_quiet (fail); try go_wp2)
    go_ret3
    exact ⟨by first | rfl | (simp [errW_none, errW_some] <;> rfl) | (simp [*, errW_none, errW_some] <;> rfl), by repeat (first | (with_reducible first | exact HB.out | apply below_alloc | apply pw_below_drewN | apply below_drew1 | refine below_set ?_ GE118.out | refine below_set ?_ GE119.out | refine below_set ?_ GE126.out) | exact HB.out)⟩)
    ·(
 rw [if_neg c26] at H
 have c26b0 : (a0_0 == a1_0) = false := beq_eq_false_iff_ne.mpr c26
 have c26b1 : (a0_0 != a1_0) = true := bne_iff_ne.mpr c26
 simp only [Option.some.injEq, Prod.mk.injEq] at H
 obtain ⟨rfl, rfl, rfl⟩ := H
 have hnb99 := NB118_119.out
 have hnc99 := NB119_118.out
 have hcz100_0 : wr.cell? ⟨gb118, 0, none⟩ = some (.int .i64 a0_0) := (blk_cell BK118.out 0).trans rfl
 have hcz100_1 : wr.cell? ⟨gb118, 1, none⟩ = some (.slice A0_1 l0_1.length c0_1) := (blk_cell BK118.out 1).trans rfl
 have hcz100_2 : wr.cell? ⟨gb118, 2, none⟩ = some (.slice A0_2 l0_2.length c0_2) := (blk_cell BK118.out 2).trans rfl
 have hfz100_0 := blk_frozen BK118.out 0
 have hfz100_1 := blk_frozen BK118.out 1
 have hfz100_2 := blk_frozen BK118.out 2
 have hcz101_0 : wr.cell? ⟨gb119, 0, none⟩ = some (.int .i64 a1_0) := (blk_cell BK119.out 0).trans rfl
 have hcz101_1 : wr.cell? ⟨gb119, 1, none⟩ = some (.slice A1_1 l1_1.length c1_1) := (blk_cell BK119.out 1).trans rfl
 have hcz101_2 : wr.cell? ⟨gb119, 2, none⟩ = some (.slice A1_2 l1_2.length c1_2) := (blk_cell BK119.out 2).trans rfl
 have hfz101_0 := blk_frozen BK119.out 0
 have hfz101_1 := blk_frozen BK119.out 1
 have hfz101_2 := blk_frozen BK119.out 2
 go_wp2
 repeat (go_quiet (fail); try go_wp2)
 go_ret3
 exact ⟨by first | rfl | (simp [errW_none, errW_some] <;> rfl) | (simp [*, errW_none, errW_some] <;> rfl), by repeat (first | (with_reducible first | exact HB.out | apply below_alloc | apply pw_below_drewN | apply below_drew1 | refine below_set ?_ GE118.out | refine below_set ?_ GE119.out) | exact HB.out)⟩)
end Go.Proofs.Ythbdmfhobienaaa.PSeqsDiffers
