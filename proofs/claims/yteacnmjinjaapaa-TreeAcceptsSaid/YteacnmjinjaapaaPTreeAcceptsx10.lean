-- Printed over the kit's print by a program of this session (wip/hprint.py), with contracts of its own hand.
import Derived.Test.YteacnmjinjaapaaPTreeAcceptsx0
namespace Go.Proofs.Yteacnmjinjaapaa.PTreeAccepts
open Go.RowKit Go.Proofs.YteacnmjinjaapaaW.PrintWords Go.Proofs.YteacnmjinjaapaaW.PrintLast Go.Proofs.YteacnmjinjaapaaW.PrintMore
attribute [local go_sem] max2_int min2_int max_two min_two max_three min_three max_four min_four   -- for this text's walks alone
set_option linter.unusedVariables false
set_option linter.unusedSimpArgs false

/-! ### evermoreref12_Accepts: function 38 -/
mutual
def evermoreref12_Accepts.l0 : Nat → List (List Bool) → Int → Int → Int → List (S157) → Int → List Int → List (S162) → Option (Bool)
 | 0, _, _, _, _, _, _, _, _ => none
 | k + 1, x5, x6, x209000, x209001, x209002, x209003, x209004, x210000 => if x6 < (x210000.length : Int) then (if 0 ≤ x6 then (if 0 ≤ x209001 then (if (x209001 : Int).toNat ≤ 281474976710656 then (evermoreref12_Accepts.l1 k x5 x6 (List.replicate (x209001 : Int).toNat false) 0 x209000 x209001 x209002 x209003 x209004 x210000 ((rd_T162 x210000 x6).f0) ((rd_T162 x210000 x6).f1) ((rd_T162 x210000 x6).f2)) else (none)) else (none)) else (none)) else (if 0 ≤ (wrap64 ((x5.length : Int) - 1)) then (if (wrap64 ((x5.length : Int) - 1)) < (x5.length : Int) then (evermoreref12_Accepts.l2 k (rd_L4 x5 (wrap64 ((x5.length : Int) - 1))) 0 x209000 x209001 x209002 x209003 x209004) else (none)) else (none))
def evermoreref12_Accepts.l1 : Nat → List (List Bool) → Int → List Bool → Int → Int → Int → List (S157) → Int → List Int → List (S162) → Int → Int → Int → Option (Bool)
 | 0, _, _, _, _, _, _, _, _, _, _, _, _, _ => none
 | k + 1, x5, x6, x8, x9, x209000, x209001, x209002, x209003, x209004, x210000, x212000, x212001, x212002 => if x9 < (x209002.length : Int) then (if 0 ≤ x9 then (if ((rd_T157 x209002 x9).f0) = x212000 then (evermoreref12_Accepts.j2 k x5 x6 x8 x9 ((((rd_T157 x209002 x9).f1) == (-1)) != (x212001 == (-1))) x209000 x209001 x209002 x209003 x209004 x210000 x212000 x212001 x212002 ((rd_T157 x209002 x9).f0) ((rd_T157 x209002 x9).f1) ((rd_T157 x209002 x9).f2) ((rd_T157 x209002 x9).f3)) else (evermoreref12_Accepts.j2 k x5 x6 x8 x9 true x209000 x209001 x209002 x209003 x209004 x210000 x212000 x212001 x212002 ((rd_T157 x209002 x9).f0) ((rd_T157 x209002 x9).f1) ((rd_T157 x209002 x9).f2) ((rd_T157 x209002 x9).f3))) else (none)) else (if x5.length < 5864062014805 then (evermoreref12_Accepts.l0 k (x5 ++ [x8]) (wrap64 (x6 + 1)) x209000 x209001 x209002 x209003 x209004 x210000) else (none))
def evermoreref12_Accepts.j2 : Nat → List (List Bool) → Int → List Bool → Int → Bool → Int → Int → List (S157) → Int → List Int → List (S162) → Int → Int → Int → Int → Int → Int → Int → Option (Bool)
 | 0, _, _, _, _, _, _, _, _, _, _, _, _, _, _, _, _, _, _ => none
 | k + 1, x5, x6, x8, x9, x53, x209000, x209001, x209002, x209003, x209004, x210000, x212000, x212001, x212002, x220000, x220001, x220002, x220003 => if x53 = true then (evermoreref12_Accepts.l1 k x5 x6 x8 (wrap64 (x9 + 1)) x209000 x209001 x209002 x209003 x209004 x210000 x212000 x212001 x212002) else (if x220001 = (-1) then (if 0 ≤ x220003 then (if x220003 < (x8.length : Int) then (evermoreref12_Accepts.l1 k x5 x6 (x8.set (x220003 : Int).toNat true) (wrap64 (x9 + 1)) x209000 x209001 x209002 x209003 x209004 x210000 x212000 x212001 x212002) else (none)) else (none)) else (if 0 ≤ x212001 then (if x212001 < (x5.length : Int) then (if 0 ≤ x220001 then (if x220001 < ((rd_L4 x5 x212001).length : Int) then (if rdOf false (rd_L4 x5 x212001) x220001 = true then (if 0 ≤ x212002 then (if x212002 < (x5.length : Int) then (if 0 ≤ x220002 then (if x220002 < ((rd_L4 x5 x212002).length : Int) then (if rdOf false (rd_L4 x5 x212002) x220002 = true then (if 0 ≤ x220003 then (if x220003 < (x8.length : Int) then (evermoreref12_Accepts.l1 k x5 x6 (x8.set (x220003 : Int).toNat true) (wrap64 (x9 + 1)) x209000 x209001 x209002 x209003 x209004 x210000 x212000 x212001 x212002) else (none)) else (none)) else (evermoreref12_Accepts.l1 k x5 x6 x8 (wrap64 (x9 + 1)) x209000 x209001 x209002 x209003 x209004 x210000 x212000 x212001 x212002)) else (none)) else (none)) else (none)) else (none)) else (evermoreref12_Accepts.l1 k x5 x6 x8 (wrap64 (x9 + 1)) x209000 x209001 x209002 x209003 x209004 x210000 x212000 x212001 x212002)) else (none)) else (none)) else (none)) else (none)))
def evermoreref12_Accepts.l2 : Nat → List Bool → Int → Int → Int → List (S157) → Int → List Int → Option (Bool)
 | 0, _, _, _, _, _, _, _ => none
 | k + 1, x11, x12, x209000, x209001, x209002, x209003, x209004 => if x12 < x209001 then (if 0 ≤ x12 then (if x12 < (x11.length : Int) then (if rdOf false x11 x12 = true then (if x12 < (x209004.length : Int) then (if (rd x209004 x12) = 1 then (some true) else (evermoreref12_Accepts.l2 k x11 (wrap64 (x12 + 1)) x209000 x209001 x209002 x209003 x209004)) else (none)) else (evermoreref12_Accepts.l2 k x11 (wrap64 (x12 + 1)) x209000 x209001 x209002 x209003 x209004)) else (none)) else (none)) else (some false)
end
def evermoreref12_Accepts.f (k : Nat) (a0_0 : Int) (a0_1 : Int) (l0_2 : List (S157)) (a0_3 : Int) (l0_4 : List Int) (l1_0 : List (S162)) : Option (Bool) := evermoreref12_Accepts.l0 k ([] : List (List Bool)) 0 a0_0 a0_1 l0_2 a0_3 l0_4 l1_0
theorem evermoreref12_Accepts.mono_l : ∀ k, (∀ y0 y1 y2 y3 y4 y5 y6 y7, LeO (evermoreref12_Accepts.l0 k y0 y1 y2 y3 y4 y5 y6 y7) (evermoreref12_Accepts.l0 (k + 1) y0 y1 y2 y3 y4 y5 y6 y7)) ∧ (∀ y0 y1 y2 y3 y4 y5 y6 y7 y8 y9 y10 y11 y12, LeO (evermoreref12_Accepts.l1 k y0 y1 y2 y3 y4 y5 y6 y7 y8 y9 y10 y11 y12) (evermoreref12_Accepts.l1 (k + 1) y0 y1 y2 y3 y4 y5 y6 y7 y8 y9 y10 y11 y12)) ∧ (∀ y0 y1 y2 y3 y4 y5 y6 y7 y8 y9 y10 y11 y12 y13 y14 y15 y16 y17, LeO (evermoreref12_Accepts.j2 k y0 y1 y2 y3 y4 y5 y6 y7 y8 y9 y10 y11 y12 y13 y14 y15 y16 y17) (evermoreref12_Accepts.j2 (k + 1) y0 y1 y2 y3 y4 y5 y6 y7 y8 y9 y10 y11 y12 y13 y14 y15 y16 y17)) ∧ (∀ y0 y1 y2 y3 y4 y5 y6, LeO (evermoreref12_Accepts.l2 k y0 y1 y2 y3 y4 y5 y6) (evermoreref12_Accepts.l2 (k + 1) y0 y1 y2 y3 y4 y5 y6))
 | 0 => ⟨fun _ _ _ _ _ _ _ _ r h => by simp [evermoreref12_Accepts.l0] at h, fun _ _ _ _ _ _ _ _ _ _ _ _ _ r h => by simp [evermoreref12_Accepts.l1] at h, fun _ _ _ _ _ _ _ _ _ _ _ _ _ _ _ _ _ _ r h => by simp [evermoreref12_Accepts.j2] at h, fun _ _ _ _ _ _ _ r h => by simp [evermoreref12_Accepts.l2] at h⟩
 | k + 1 => by
  obtain ⟨ih0, ih1, ih2, ih3⟩ := evermoreref12_Accepts.mono_l k
  refine ⟨?_, ?_, ?_, ?_⟩
  ·intro y0 y1 y2 y3 y4 y5 y6 y7
   unfold evermoreref12_Accepts.l0
   repeat' first
   | (with_reducible exact ih0 _ _ _ _ _ _ _ _)
   | (with_reducible exact ih1 _ _ _ _ _ _ _ _ _ _ _ _ _)
   | (with_reducible exact ih2 _ _ _ _ _ _ _ _ _ _ _ _ _ _ _ _ _ _)
   | (with_reducible exact ih3 _ _ _ _ _ _ _)
   | (with_reducible exact LeO.refl _)
   | (with_reducible exact LeO.none _)
   | (with_reducible refine LeO.ite ?_ ?_)
   | (with_reducible refine LeO.bind ?_ (fun _ => ?_))
   | exact ih0 _ _ _ _ _ _ _ _
   | exact ih1 _ _ _ _ _ _ _ _ _ _ _ _ _
   | exact ih2 _ _ _ _ _ _ _ _ _ _ _ _ _ _ _ _ _ _
   | exact ih3 _ _ _ _ _ _ _
   | exact LeO.none _
   | refine LeO.ite ?_ ?_
   | refine LeO.bind ?_ (fun _ => ?_)
  ·intro y0 y1 y2 y3 y4 y5 y6 y7 y8 y9 y10 y11 y12
   unfold evermoreref12_Accepts.l1
   repeat' first
   | (with_reducible exact ih0 _ _ _ _ _ _ _ _)
   | (with_reducible exact ih1 _ _ _ _ _ _ _ _ _ _ _ _ _)
   | (with_reducible exact ih2 _ _ _ _ _ _ _ _ _ _ _ _ _ _ _ _ _ _)
   | (with_reducible exact ih3 _ _ _ _ _ _ _)
   | (with_reducible exact LeO.refl _)
   | (with_reducible exact LeO.none _)
   | (with_reducible refine LeO.ite ?_ ?_)
   | (with_reducible refine LeO.bind ?_ (fun _ => ?_))
   | exact ih0 _ _ _ _ _ _ _ _
   | exact ih1 _ _ _ _ _ _ _ _ _ _ _ _ _
   | exact ih2 _ _ _ _ _ _ _ _ _ _ _ _ _ _ _ _ _ _
   | exact ih3 _ _ _ _ _ _ _
   | exact LeO.none _
   | refine LeO.ite ?_ ?_
   | refine LeO.bind ?_ (fun _ => ?_)
  ·intro y0 y1 y2 y3 y4 y5 y6 y7 y8 y9 y10 y11 y12 y13 y14 y15 y16 y17
   unfold evermoreref12_Accepts.j2
   repeat' first
   | (with_reducible exact ih0 _ _ _ _ _ _ _ _)
   | (with_reducible exact ih1 _ _ _ _ _ _ _ _ _ _ _ _ _)
   | (with_reducible exact ih2 _ _ _ _ _ _ _ _ _ _ _ _ _ _ _ _ _ _)
   | (with_reducible exact ih3 _ _ _ _ _ _ _)
   | (with_reducible exact LeO.refl _)
   | (with_reducible exact LeO.none _)
   | (with_reducible refine LeO.ite ?_ ?_)
   | (with_reducible refine LeO.bind ?_ (fun _ => ?_))
   | exact ih0 _ _ _ _ _ _ _ _
   | exact ih1 _ _ _ _ _ _ _ _ _ _ _ _ _
   | exact ih2 _ _ _ _ _ _ _ _ _ _ _ _ _ _ _ _ _ _
   | exact ih3 _ _ _ _ _ _ _
   | exact LeO.none _
   | refine LeO.ite ?_ ?_
   | refine LeO.bind ?_ (fun _ => ?_)
  ·intro y0 y1 y2 y3 y4 y5 y6
   unfold evermoreref12_Accepts.l2
   repeat' first
   | (with_reducible exact ih0 _ _ _ _ _ _ _ _)
   | (with_reducible exact ih1 _ _ _ _ _ _ _ _ _ _ _ _ _)
   | (with_reducible exact ih2 _ _ _ _ _ _ _ _ _ _ _ _ _ _ _ _ _ _)
   | (with_reducible exact ih3 _ _ _ _ _ _ _)
   | (with_reducible exact LeO.refl _)
   | (with_reducible exact LeO.none _)
   | (with_reducible refine LeO.ite ?_ ?_)
   | (with_reducible refine LeO.bind ?_ (fun _ => ?_))
   | exact ih0 _ _ _ _ _ _ _ _
   | exact ih1 _ _ _ _ _ _ _ _ _ _ _ _ _
   | exact ih2 _ _ _ _ _ _ _ _ _ _ _ _ _ _ _ _ _ _
   | exact ih3 _ _ _ _ _ _ _
   | exact LeO.none _
   | refine LeO.ite ?_ ?_
   | refine LeO.bind ?_ (fun _ => ?_)
theorem evermoreref12_Accepts.mono : ∀ a0 a1 a2 a3 a4 a5 k, LeO (evermoreref12_Accepts.f k a0 a1 a2 a3 a4 a5) (evermoreref12_Accepts.f (k + 1) a0 a1 a2 a3 a4 a5) := by
 intro a0 a1 a2 a3 a4 a5 k
 obtain ⟨ih0, ih1, ih2, ih3⟩ := evermoreref12_Accepts.mono_l k
 unfold evermoreref12_Accepts.f
 repeat' first
   | (with_reducible exact ih0 _ _ _ _ _ _ _ _)
   | (with_reducible exact ih1 _ _ _ _ _ _ _ _ _ _ _ _ _)
   | (with_reducible exact ih2 _ _ _ _ _ _ _ _ _ _ _ _ _ _ _ _ _ _)
   | (with_reducible exact ih3 _ _ _ _ _ _ _)
   | (with_reducible exact LeO.refl _)
   | (with_reducible exact LeO.none _)
   | (with_reducible refine LeO.ite ?_ ?_)
   | (with_reducible refine LeO.bind ?_ (fun _ => ?_))
   | exact ih0 _ _ _ _ _ _ _ _
   | exact ih1 _ _ _ _ _ _ _ _ _ _ _ _ _
   | exact ih2 _ _ _ _ _ _ _ _ _ _ _ _ _ _ _ _ _ _
   | exact ih3 _ _ _ _ _ _ _
   | exact LeO.none _
   | refine LeO.ite ?_ ?_
   | refine LeO.bind ?_ (fun _ => ?_)
set_option maxHeartbeats 8000000 in
set_option maxRecDepth 100000 in
theorem evermoreref12_Accepts.calls (k : Nat) (a0_0 : Int) (a0_1 : Int) (A0_2 : Option Addr) (c0_2 : Nat) (l0_2 : List (S157)) (a0_3 : Int) (A0_4 : Option Addr) (c0_4 : Nat) (l0_4 : List Int) (A1_0 : Option Addr) (c1_0 : Nat) (l1_0 : List (S162)) (r : Bool) (w : World) (hr0_2 : Kd.C k157 w A0_2 l0_2.length l0_2) (hc0_2 : l0_2.length ≤ c0_2) (hr0_4 : Kd.C (Kd.int .i64) w A0_4 l0_4.length l0_4) (hc0_4 : l0_4.length ≤ c0_4) (hr1_0 : Kd.C k162 w A1_0 l1_0.length l1_0) (hc1_0 : l1_0.length ≤ c1_0) (h : evermoreref12_Accepts.f k a0_0 a0_1 l0_2 a0_3 l0_4 l1_0 = some r) :
  Calls Try.prog 38 #[.agg #[.int .i64 a0_0, .int .i64 a0_1, .slice A0_2 l0_2.length c0_2, .int .i64 a0_3, .slice A0_4 l0_4.length c0_4], .agg #[.slice A1_0 l1_0.length c1_0]] w fun e w' => e = .returned (.bool r) ∧ Below w.heap.size w w' := by
 have hu56 := Try.underlying56
 have hu59 := Try.underlying59
 have hu162 := Try.underlying162
 have hu157 := Try.underlying157
 have HR0_2 := Aside0.mk hr0_2
 have HC0_2 := Aside0.mk hc0_2
 clear hr0_2 hc0_2
 have HR0_4 := Aside0.mk hr0_4
 have HC0_4 := Aside0.mk hc0_4
 clear hr0_4 hc0_4
 have HR1_0 := Aside0.mk hr1_0
 have HC1_0 := Aside0.mk hc1_0
 clear hr1_0 hc1_0
 have HB := Aside0.mk (Below.refl w.heap.size w)
 have H : (evermoreref12_Accepts.l0 k ([] : List (List Bool)) 0 a0_0 a0_1 l0_2 a0_3 l0_4 l1_0) = some r := h
 clear h
 have H' := Aside0.mk H
 clear H
 go_enter Try.func38, Try.ntmps38
 go_wp2_with (first | ((with_reducible refine gate_dst (N := 2) rfl ?_); refine box_event ?hg (N := 2) ?hd (cs := #[.int .i64 a0_0, .int .i64 a0_1, .slice A0_2 l0_2.length c0_2, .int .i64 a0_3, .slice A0_4 l0_4.length c0_4]) (t := 56) ?hr ?_; (case hd => rfl); (case hg => rfl); (case hr => first | (go_simp; done) | (go_simp; rfl)); intro gb208 hg w3 hbox hb; have n0_ := Aside0.mk (below_step (by repeat (first | (with_reducible first | exact HB.out | apply below_alloc | apply pw_below_drewN | apply below_drew1) | exact HB.out)) hb); have n1_ := Aside0.mk (hbox); have n2_ := Aside0.mk ((by rw [hg]; exact (below_size (by repeat (first | (with_reducible first | exact HB.out | apply below_alloc | apply pw_below_drewN | apply below_drew1) | exact HB.out))) : w.heap.size ≤ gb208)); have n3_ := Aside0.mk ((by rw [hg]; exact (below_size (by repeat (first | (with_reducible first | exact HB.out | apply below_alloc | apply pw_below_drewN | apply below_drew1) | exact HB.out))) : w.heap.size ≤ gb208)); clear HB; have HB := n0_; have BK208 := n1_; have GW208 := n2_; have GE208 := n3_; clear n0_ n1_ n2_ n3_; clear hb hbox hg) | ((with_reducible refine gate_dst (N := 3) rfl ?_); refine box_event ?hg (N := 3) ?hd (cs := #[.slice A1_0 l1_0.length c1_0]) (t := 59) ?hr ?_; (case hd => rfl); (case hg => rfl); (case hr => first | (go_simp; done) | (go_simp; rfl)); intro gb209 hg w4 hbox hb; have n0_ := Aside0.mk (blk_below (g := gb208) (o := .cells #[.int .i64 a0_0, .int .i64 a0_1, .slice A0_2 l0_2.length c0_2, .int .i64 a0_3, .slice A0_4 l0_4.length c0_4] 56 (0, 0)) (by (with_reducible repeat (first | refine blk_drewN ?_ _ | refine blk_drew ?_ | refine blk_alloc ?_ _)); exact BK208.out) hb); have n1_ := Aside0.mk (below_step (by repeat (first | (with_reducible first | exact HB.out | apply below_alloc | apply pw_below_drewN | apply below_drew1 | refine below_set ?_ GE208.out) | exact HB.out)) hb); have n2_ := Aside0.mk (hbox); have n3_ := Aside0.mk ((by rw [hg]; exact (below_size (by repeat (first | (with_reducible first | exact HB.out | apply below_alloc | apply pw_below_drewN | apply below_drew1 | refine below_set ?_ GE208.out) | exact HB.out))) : w.heap.size ≤ gb209)); have n4_ := Aside0.mk ((by rw [hg]; exact (below_size (by repeat (first | (with_reducible first | exact HB.out | apply below_alloc | apply pw_below_drewN | apply below_drew1 | refine below_set ?_ GE208.out) | exact HB.out))) : w.heap.size ≤ gb209)); have n5_ := Aside0.mk ((by rw [hg]; exact Nat.ne_of_lt (blk_lt (g := gb208) (o := .cells #[.int .i64 a0_0, .int .i64 a0_1, .slice A0_2 l0_2.length c0_2, .int .i64 a0_3, .slice A0_4 l0_4.length c0_4] 56 (0, 0)) (by (with_reducible repeat (first | refine blk_drewN ?_ _ | refine blk_drew ?_ | refine blk_alloc ?_ _)); exact BK208.out)) : gb208 ≠ gb209)); have n6_ := Aside0.mk ((by rw [hg]; exact Nat.ne_of_gt (blk_lt (g := gb208) (o := .cells #[.int .i64 a0_0, .int .i64 a0_1, .slice A0_2 l0_2.length c0_2, .int .i64 a0_3, .slice A0_4 l0_4.length c0_4] 56 (0, 0)) (by (with_reducible repeat (first | refine blk_drewN ?_ _ | refine blk_drew ?_ | refine blk_alloc ?_ _)); exact BK208.out)) : gb209 ≠ gb208)); clear BK208; clear HB; have BK208 := n0_; have HB := n1_; have BK209 := n2_; have GW209 := n3_; have GE209 := n4_; have NB208_209 := n5_; have NB209_208 := n6_; clear n0_ n1_ n2_ n3_ n4_ n5_ n6_; clear hb hbox hg))
 repeat (go_quiet (first | ((with_reducible refine gate_dst (N := 2) rfl ?_); refine box_event ?hg (N := 2) ?hd (cs := #[.int .i64 a0_0, .int .i64 a0_1, .slice A0_2 l0_2.length c0_2, .int .i64 a0_3, .slice A0_4 l0_4.length c0_4]) (t := 56) ?hr ?_; (case hd => rfl); (case hg => rfl); (case hr => first | (go_simp; done) | (go_simp; rfl)); intro gb208 hg w3 hbox hb; have n0_ := Aside0.mk (below_step (by repeat (first | (with_reducible first | exact HB.out | apply below_alloc | apply pw_below_drewN | apply below_drew1) | exact HB.out)) hb); have n1_ := Aside0.mk (hbox); have n2_ := Aside0.mk ((by rw [hg]; exact (below_size (by repeat (first | (with_reducible first | exact HB.out | apply below_alloc | apply pw_below_drewN | apply below_drew1) | exact HB.out))) : w.heap.size ≤ gb208)); have n3_ := Aside0.mk ((by rw [hg]; exact (below_size (by repeat (first | (with_reducible first | exact HB.out | apply below_alloc | apply pw_below_drewN | apply below_drew1) | exact HB.out))) : w.heap.size ≤ gb208)); clear HB; have HB := n0_; have BK208 := n1_; have GW208 := n2_; have GE208 := n3_; clear n0_ n1_ n2_ n3_; clear hb hbox hg) | ((with_reducible refine gate_dst (N := 3) rfl ?_); refine box_event ?hg (N := 3) ?hd (cs := #[.slice A1_0 l1_0.length c1_0]) (t := 59) ?hr ?_; (case hd => rfl); (case hg => rfl); (case hr => first | (go_simp; done) | (go_simp; rfl)); intro gb209 hg w4 hbox hb; have n0_ := Aside0.mk (blk_below (g := gb208) (o := .cells #[.int .i64 a0_0, .int .i64 a0_1, .slice A0_2 l0_2.length c0_2, .int .i64 a0_3, .slice A0_4 l0_4.length c0_4] 56 (0, 0)) (by (with_reducible repeat (first | refine blk_drewN ?_ _ | refine blk_drew ?_ | refine blk_alloc ?_ _)); exact BK208.out) hb); have n1_ := Aside0.mk (below_step (by repeat (first | (with_reducible first | exact HB.out | apply below_alloc | apply pw_below_drewN | apply below_drew1 | refine below_set ?_ GE208.out) | exact HB.out)) hb); have n2_ := Aside0.mk (hbox); have n3_ := Aside0.mk ((by rw [hg]; exact (below_size (by repeat (first | (with_reducible first | exact HB.out | apply below_alloc | apply pw_below_drewN | apply below_drew1 | refine below_set ?_ GE208.out) | exact HB.out))) : w.heap.size ≤ gb209)); have n4_ := Aside0.mk ((by rw [hg]; exact (below_size (by repeat (first | (with_reducible first | exact HB.out | apply below_alloc | apply pw_below_drewN | apply below_drew1 | refine below_set ?_ GE208.out) | exact HB.out))) : w.heap.size ≤ gb209)); have n5_ := Aside0.mk ((by rw [hg]; exact Nat.ne_of_lt (blk_lt (g := gb208) (o := .cells #[.int .i64 a0_0, .int .i64 a0_1, .slice A0_2 l0_2.length c0_2, .int .i64 a0_3, .slice A0_4 l0_4.length c0_4] 56 (0, 0)) (by (with_reducible repeat (first | refine blk_drewN ?_ _ | refine blk_drew ?_ | refine blk_alloc ?_ _)); exact BK208.out)) : gb208 ≠ gb209)); have n6_ := Aside0.mk ((by rw [hg]; exact Nat.ne_of_gt (blk_lt (g := gb208) (o := .cells #[.int .i64 a0_0, .int .i64 a0_1, .slice A0_2 l0_2.length c0_2, .int .i64 a0_3, .slice A0_4 l0_4.length c0_4] 56 (0, 0)) (by (with_reducible repeat (first | refine blk_drewN ?_ _ | refine blk_drew ?_ | refine blk_alloc ?_ _)); exact BK208.out)) : gb209 ≠ gb208)); clear BK208; clear HB; have BK208 := n0_; have HB := n1_; have BK209 := n2_; have GW209 := n3_; have GE209 := n4_; have NB208_209 := n5_; have NB209_208 := n6_; clear n0_ n1_ n2_ n3_ n4_ n5_ n6_; clear hb hbox hg)); try go_wp2_with (first | ((with_reducible refine gate_dst (N := 2) rfl ?_); refine box_event ?hg (N := 2) ?hd (cs := #[.int .i64 a0_0, .int .i64 a0_1, .slice A0_2 l0_2.length c0_2, .int .i64 a0_3, .slice A0_4 l0_4.length c0_4]) (t := 56) ?hr ?_; (case hd => rfl); (case hg => rfl); (case hr => first | (go_simp; done) | (go_simp; rfl)); intro gb208 hg w3 hbox hb; have n0_ := Aside0.mk (below_step (by repeat (first | (with_reducible first | exact HB.out | apply below_alloc | apply pw_below_drewN | apply below_drew1) | exact HB.out)) hb); have n1_ := Aside0.mk (hbox); have n2_ := Aside0.mk ((by rw [hg]; exact (below_size (by repeat (first | (with_reducible first | exact HB.out | apply below_alloc | apply pw_below_drewN | apply below_drew1) | exact HB.out))) : w.heap.size ≤ gb208)); have n3_ := Aside0.mk ((by rw [hg]; exact (below_size (by repeat (first | (with_reducible first | exact HB.out | apply below_alloc | apply pw_below_drewN | apply below_drew1) | exact HB.out))) : w.heap.size ≤ gb208)); clear HB; have HB := n0_; have BK208 := n1_; have GW208 := n2_; have GE208 := n3_; clear n0_ n1_ n2_ n3_; clear hb hbox hg) | ((with_reducible refine gate_dst (N := 3) rfl ?_); refine box_event ?hg (N := 3) ?hd (cs := #[.slice A1_0 l1_0.length c1_0]) (t := 59) ?hr ?_; (case hd => rfl); (case hg => rfl); (case hr => first | (go_simp; done) | (go_simp; rfl)); intro gb209 hg w4 hbox hb; have n0_ := Aside0.mk (blk_below (g := gb208) (o := .cells #[.int .i64 a0_0, .int .i64 a0_1, .slice A0_2 l0_2.length c0_2, .int .i64 a0_3, .slice A0_4 l0_4.length c0_4] 56 (0, 0)) (by (with_reducible repeat (first | refine blk_drewN ?_ _ | refine blk_drew ?_ | refine blk_alloc ?_ _)); exact BK208.out) hb); have n1_ := Aside0.mk (below_step (by repeat (first | (with_reducible first | exact HB.out | apply below_alloc | apply pw_below_drewN | apply below_drew1 | refine below_set ?_ GE208.out) | exact HB.out)) hb); have n2_ := Aside0.mk (hbox); have n3_ := Aside0.mk ((by rw [hg]; exact (below_size (by repeat (first | (with_reducible first | exact HB.out | apply below_alloc | apply pw_below_drewN | apply below_drew1 | refine below_set ?_ GE208.out) | exact HB.out))) : w.heap.size ≤ gb209)); have n4_ := Aside0.mk ((by rw [hg]; exact (below_size (by repeat (first | (with_reducible first | exact HB.out | apply below_alloc | apply pw_below_drewN | apply below_drew1 | refine below_set ?_ GE208.out) | exact HB.out))) : w.heap.size ≤ gb209)); have n5_ := Aside0.mk ((by rw [hg]; exact Nat.ne_of_lt (blk_lt (g := gb208) (o := .cells #[.int .i64 a0_0, .int .i64 a0_1, .slice A0_2 l0_2.length c0_2, .int .i64 a0_3, .slice A0_4 l0_4.length c0_4] 56 (0, 0)) (by (with_reducible repeat (first | refine blk_drewN ?_ _ | refine blk_drew ?_ | refine blk_alloc ?_ _)); exact BK208.out)) : gb208 ≠ gb209)); have n6_ := Aside0.mk ((by rw [hg]; exact Nat.ne_of_gt (blk_lt (g := gb208) (o := .cells #[.int .i64 a0_0, .int .i64 a0_1, .slice A0_2 l0_2.length c0_2, .int .i64 a0_3, .slice A0_4 l0_4.length c0_4] 56 (0, 0)) (by (with_reducible repeat (first | refine blk_drewN ?_ _ | refine blk_drew ?_ | refine blk_alloc ?_ _)); exact BK208.out)) : gb209 ≠ gb208)); clear BK208; clear HB; have BK208 := n0_; have HB := n1_; have BK209 := n2_; have GW209 := n3_; have GE209 := n4_; have NB208_209 := n5_; have NB209_208 := n6_; clear n0_ n1_ n2_ n3_ n4_ n5_ n6_; clear hb hbox hg)))
 go_loopg [5, 6] k (fun kq v5 v6 w' => ∃ (x5_1 : List (List Bool)) (x6_1 : Int), v6 = .int .i64 x6_1 ∧ Aside0 (evermoreref12_Accepts.l0 kq x5_1 x6_1 a0_0 a0_1 l0_2 a0_3 l0_4 l1_0 = some r) ∧ Aside0 (kq ≤ k) ∧ Aside0 (Kd.S (Kd.slice 4 Kd.bool) 127 w' w.heap.size (fun _ => True) v5 x5_1) ∧ Aside0 (w'.heap[gb208]? = some (.cells #[.int .i64 a0_0, .int .i64 a0_1, (.slice A0_2 l0_2.length c0_2), .int .i64 a0_3, (.slice A0_4 l0_4.length c0_4)] 56 (0, 0))) ∧ Aside0 (w'.heap[gb209]? = some (.cells #[(.slice A1_0 l1_0.length c1_0)] 59 (0, 0))) ∧ Aside0 (Below w.heap.size w w'))
 case atStart => exact ⟨(([] : List (List Bool))), (0), (by first | rfl | (simp; done) | (simp [*]; done)), H', ⟨Nat.le_refl _⟩, ⟨by first | exact Kd.S_nil _ _ _ _ _ | exact Kd.N_nil _ _ _ _ _ | exact Kd.V_nil _ _ _ _ _ | exact Kd.Q_nil _ _ _ _ _ | exact Kd.R_nil _ _ _ _ _⟩, ⟨by (with_reducible repeat (first | refine blk_drewN ?_ _ | refine blk_drew ?_ | refine blk_alloc ?_ _)); exact BK208.out⟩, ⟨by (with_reducible repeat (first | refine blk_drewN ?_ _ | refine blk_drew ?_ | refine blk_alloc ?_ _)); exact BK209.out⟩, ⟨by repeat (first | (with_reducible first | exact HB.out | apply below_alloc | apply pw_below_drewN | apply below_drew1 | refine below_set ?_ GE208.out | refine below_set ?_ GE209.out) | exact HB.out)⟩⟩
 case round =>
  clear H'
  try clear c1
  try clear p2
  try clear c3
  obtain ⟨x5_1, x6_1, rfl, HA, HK1, HO_5, BK208, BK209, HB⟩ := hrel
  cases gk with
  | zero => exact absurd HA.out (by simp [evermoreref12_Accepts.l0])
  | succ k1 =>
   have H := HA.out
   clear HA
   simp only [evermoreref12_Accepts.l0] at H
   by_cases c5 : x6_1 < (l1_0.length : Int)
   ·rw [if_pos c5] at H
    have c5b0 : decide (x6_1 < (l1_0.length : Int)) = true := decide_eq_true c5
    clear c5
    by_cases c6 : 0 ≤ x6_1
    ·(
 rw [if_pos c6] at H
 have c6b0 : decide (0 ≤ x6_1) = true := decide_eq_true c6
 clear c6
 by_cases c7 : 0 ≤ a0_1
 ·rw [if_pos c7] at H
  have c7b0 := eq_true c7
  have c7b1 : decide (0 ≤ a0_1) = true := decide_eq_true c7
  clear c7
  by_cases c8 : (a0_1 : Int).toNat ≤ 281474976710656
  ·rw [if_pos c8] at H
   have c8b0 := eq_true c8
   have c8b1 : decide ((a0_1 : Int).toNat ≤ 281474976710656) = true := decide_eq_true c8
   clear c8
   obtain ⟨y212, hy212⟩ : ∃ y_ : List Bool, y_ = (List.replicate (a0_1 : Int).toNat false) := ⟨_, rfl⟩
   replace H : (evermoreref12_Accepts.l1 k1 x5_1 x6_1 y212 0 a0_0 a0_1 l0_2 a0_3 l0_4 l1_0 ((rd_T162 l1_0 x6_1).f0) ((rd_T162 l1_0 x6_1).f1) ((rd_T162 l1_0 x6_1).f2)) = some r := by first | (rw [hy212]; with_reducible exact H) | (have H2_ := (Option.bind_some _ _).symm.trans H; rw [hy212]; with_reducible exact H2_) | (have H2_ := (Option.bind_some _ _).symm.trans H; with_reducible exact H2_) | with_reducible exact H | (rw [hy212]; exact H) | exact H
   have Ny212 := Aside0.mk hy212
   clear hy212
   have H' := Aside0.mk H
   clear H
   have hnb9 := NB209_208.out
   have hnc9 := NB208_209.out
   have hcz10_0 : wr.cell? ⟨gb209, 0, none⟩ = some (.slice A1_0 l1_0.length c1_0) := (blk_cell BK209.out 0).trans rfl
   have hfz10_0 := blk_frozen BK209.out 0
   have p210 : 0 ≤ (x6_1 : Int) := of_decide_eq_true (by first | (with_reducible assumption) | assumption)
   have q210 : x6_1 < (l1_0.length : Int) := of_decide_eq_true (by first | (with_reducible assumption) | assumption)
   obtain ⟨ad210, e210, hx210_0, hx210_1, hx210_2⟩ := at_T162 HR1_0.out x6_1 p210 q210
   cases e210
   replace hx210_0 := (HB.out.cell (World.block_lt_of_cell? w _ hx210_0)).trans hx210_0
   replace hx210_1 := (HB.out.cell (World.block_lt_of_cell? w _ hx210_1)).trans hx210_1
   replace hx210_2 := (HB.out.cell (World.block_lt_of_cell? w _ hx210_2)).trans hx210_2
   replace p210 := eq_true p210
   replace q210 := eq_true q210
   go_wp2_with (first | ((with_reducible refine gate_dst (N := 7) rfl ?_); refine box_event ?hg (N := 7) ?hd (cs := #[.int .i64 0, .int .i64 0, .int .i64 0]) (t := 162) ?hr ?_; (case hd => rfl); (case hg => rfl); (case hr => first | (go_simp; done) | (go_simp; rfl)); intro gb211 hg w11 hbox hb; have n0_ := Aside0.mk (Kd.S_below (by (with_reducible repeat (first | apply Kd.S_alloc | apply Kd.S_drewN | apply Kd.S_drew)); exact HO_5.out) hb); have n1_ := Aside0.mk (blk_below (g := gb208) (o := .cells #[.int .i64 a0_0, .int .i64 a0_1, .slice A0_2 l0_2.length c0_2, .int .i64 a0_3, .slice A0_4 l0_4.length c0_4] 56 (0, 0)) (by (with_reducible repeat (first | refine blk_drewN ?_ _ | refine blk_drew ?_ | refine blk_alloc ?_ _)); exact BK208.out) hb); have n2_ := Aside0.mk (blk_below (g := gb209) (o := .cells #[.slice (some ad210) l1_0.length c1_0] 59 (0, 0)) (by (with_reducible repeat (first | refine blk_drewN ?_ _ | refine blk_drew ?_ | refine blk_alloc ?_ _)); exact BK209.out) hb); have n3_ := Aside0.mk (below_step (by repeat (first | (with_reducible first | exact HB.out | apply below_alloc | apply pw_below_drewN | apply below_drew1 | refine below_set ?_ GE208.out | refine below_set ?_ GE209.out) | exact HB.out)) hb); have n4_ := Aside0.mk (hbox); have n5_ := Aside0.mk ((by rw [hg]; exact (below_size (by repeat (first | (with_reducible first | exact HB.out | apply below_alloc | apply pw_below_drewN | apply below_drew1 | refine below_set ?_ GE208.out | refine below_set ?_ GE209.out) | exact HB.out))) : w.heap.size ≤ gb211)); have n6_ := Aside0.mk ((by rw [hg]; exact (below_size (by repeat (first | (with_reducible first | exact HB.out | apply below_alloc | apply pw_below_drewN | apply below_drew1 | refine below_set ?_ GE208.out | refine below_set ?_ GE209.out) | exact HB.out))) : w.heap.size ≤ gb211)); have n7_ := Aside0.mk ((by rw [hg]; exact Nat.ne_of_lt (blk_lt (g := gb208) (o := .cells #[.int .i64 a0_0, .int .i64 a0_1, .slice A0_2 l0_2.length c0_2, .int .i64 a0_3, .slice A0_4 l0_4.length c0_4] 56 (0, 0)) (by (with_reducible repeat (first | refine blk_drewN ?_ _ | refine blk_drew ?_ | refine blk_alloc ?_ _)); exact BK208.out)) : gb208 ≠ gb211)); have n8_ := Aside0.mk ((by rw [hg]; exact Nat.ne_of_gt (blk_lt (g := gb208) (o := .cells #[.int .i64 a0_0, .int .i64 a0_1, .slice A0_2 l0_2.length c0_2, .int .i64 a0_3, .slice A0_4 l0_4.length c0_4] 56 (0, 0)) (by (with_reducible repeat (first | refine blk_drewN ?_ _ | refine blk_drew ?_ | refine blk_alloc ?_ _)); exact BK208.out)) : gb211 ≠ gb208)); have n9_ := Aside0.mk ((by rw [hg]; exact Nat.ne_of_lt (blk_lt (g := gb209) (o := .cells #[.slice (some ad210) l1_0.length c1_0] 59 (0, 0)) (by (with_reducible repeat (first | refine blk_drewN ?_ _ | refine blk_drew ?_ | refine blk_alloc ?_ _)); exact BK209.out)) : gb209 ≠ gb211)); have n10_ := Aside0.mk ((by rw [hg]; exact Nat.ne_of_gt (blk_lt (g := gb209) (o := .cells #[.slice (some ad210) l1_0.length c1_0] 59 (0, 0)) (by (with_reducible repeat (first | refine blk_drewN ?_ _ | refine blk_drew ?_ | refine blk_alloc ?_ _)); exact BK209.out)) : gb211 ≠ gb209)); clear HO_5; clear BK208; clear BK209; clear HB; have HO_5 := n0_; have BK208 := n1_; have BK209 := n2_; have HB := n3_; have BK211 := n4_; have GW211 := n5_; have GE211 := n6_; have NB208_211 := n7_; have NB211_208 := n8_; have NB209_211 := n9_; have NB211_209 := n10_; clear n0_ n1_ n2_ n3_ n4_ n5_ n6_ n7_ n8_ n9_ n10_; clear hb hbox hg; have hnb12 := NB211_208.out; have hnc12 := NB208_211.out; have hnb13 := NB211_209.out; have hnc13 := NB209_211.out; have hcz14_0 : w11.cell? ⟨gb211, 0, none⟩ = some (.int .i64 0) := (blk_cell BK211.out 0).trans rfl; have hcz14_1 : w11.cell? ⟨gb211, 1, none⟩ = some (.int .i64 0) := (blk_cell BK211.out 1).trans rfl; have hcz14_2 : w11.cell? ⟨gb211, 2, none⟩ = some (.int .i64 0) := (blk_cell BK211.out 2).trans rfl; have hfz14_0 := blk_frozen BK211.out 0; have hfz14_1 := blk_frozen BK211.out 1; have hfz14_2 := blk_frozen BK211.out 2; have hcz15_0 : w11.cell? ⟨gb208, 0, none⟩ = some (.int .i64 a0_0) := (blk_cell BK208.out 0).trans rfl; have hcz15_1 : w11.cell? ⟨gb208, 1, none⟩ = some (.int .i64 a0_1) := (blk_cell BK208.out 1).trans rfl; have hcz15_2 : w11.cell? ⟨gb208, 2, none⟩ = some (.slice A0_2 l0_2.length c0_2) := (blk_cell BK208.out 2).trans rfl; have hcz15_3 : w11.cell? ⟨gb208, 3, none⟩ = some (.int .i64 a0_3) := (blk_cell BK208.out 3).trans rfl; have hcz15_4 : w11.cell? ⟨gb208, 4, none⟩ = some (.slice A0_4 l0_4.length c0_4) := (blk_cell BK208.out 4).trans rfl; have hfz15_0 := blk_frozen BK208.out 0; have hfz15_1 := blk_frozen BK208.out 1; have hfz15_2 := blk_frozen BK208.out 2; have hfz15_3 := blk_frozen BK208.out 3; have hfz15_4 := blk_frozen BK208.out 4) | ((with_reducible refine gate_dst (N := 27) rfl ?_); refine Kd.R_make Kd.bool _ 4 rfl (N := 27) rfl 127 _ _ rfl a0_1 rfl rfl Try.underlying127 (.bool false) 1 info4 rfl (by decide) (by omega) false (ok := fun _ => True) (okp := fun _ => True) rfl (fun _ hk => hk) trivial (of_decide_eq_true (by first | (with_reducible assumption) | assumption)) (Nat.le_trans (Nat.mul_le_mul_right _ (of_decide_eq_true (by first | (with_reducible assumption) | assumption) : a0_1.toNat ≤ 281474976710656)) (by omega)) (Below.refl _ _) (Nat.le_refl _) ?_; intro v213 w16 ho17 hb hg_ hnew_; clear hg_ hnew_; (first | rw [← Ny212.out] at ho17 | (simp only [Int.reduceToNat] at ho17; rw [← Ny212.out] at ho17)); have n0_ := Aside0.mk (Kd.S_elder' (by (with_reducible repeat (first | apply Kd.S_alloc | apply Kd.S_drewN | apply Kd.S_drew)); exact (Kd.S_mono (Kd.S_far (p := ⟨gb211, 2, none⟩) (Kd.S_far (p := ⟨gb211, 1, none⟩) (Kd.S_far (p := ⟨gb211, 0, none⟩) (Kd.S_types HO_5.out BK211.out (by decide)) (fun _ hk => hk.2) (.int .i64 ((rd_T162 l1_0 x6_1).f0))) (fun _ hk => hk.2) (.int .i64 ((rd_T162 l1_0 x6_1).f1))) (fun _ hk => hk.2) (.int .i64 ((rd_T162 l1_0 x6_1).f2))) (fun _ h_ => h_.1))) (Kd.R_base ho17) hb); have n1_ := Aside0.mk (Kd.R_lower ho17 (below_size (by repeat (first | (with_reducible first | exact HB.out | apply below_alloc | apply pw_below_drewN | apply below_drew1 | refine below_set ?_ GE208.out | refine below_set ?_ GE209.out | refine below_set ?_ GE211.out) | exact HB.out)))); have n2_ := Aside0.mk (blk_below (g := gb208) (o := .cells #[.int .i64 a0_0, .int .i64 a0_1, .slice A0_2 l0_2.length c0_2, .int .i64 a0_3, .slice A0_4 l0_4.length c0_4] 56 (0, 0)) (by (with_reducible repeat (first | refine blk_drewN ?_ _ | refine blk_drew ?_ | refine blk_alloc ?_ _)); refine blk_far ?_ NB208_211.out _; (with_reducible repeat (first | refine blk_drewN ?_ _ | refine blk_drew ?_ | refine blk_alloc ?_ _)); refine blk_far ?_ NB208_211.out _; (with_reducible repeat (first | refine blk_drewN ?_ _ | refine blk_drew ?_ | refine blk_alloc ?_ _)); refine blk_far ?_ NB208_211.out _; (with_reducible repeat (first | refine blk_drewN ?_ _ | refine blk_drew ?_ | refine blk_alloc ?_ _)); exact BK208.out) hb); have n3_ := Aside0.mk (blk_below (g := gb209) (o := .cells #[.slice (some ad210) l1_0.length c1_0] 59 (0, 0)) (by (with_reducible repeat (first | refine blk_drewN ?_ _ | refine blk_drew ?_ | refine blk_alloc ?_ _)); refine blk_far ?_ NB209_211.out _; (with_reducible repeat (first | refine blk_drewN ?_ _ | refine blk_drew ?_ | refine blk_alloc ?_ _)); refine blk_far ?_ NB209_211.out _; (with_reducible repeat (first | refine blk_drewN ?_ _ | refine blk_drew ?_ | refine blk_alloc ?_ _)); refine blk_far ?_ NB209_211.out _; (with_reducible repeat (first | refine blk_drewN ?_ _ | refine blk_drew ?_ | refine blk_alloc ?_ _)); exact BK209.out) hb); have n4_ := Aside0.mk (blk_below (g := gb211) (o := .cells #[.int .i64 ((rd_T162 l1_0 x6_1).f0), .int .i64 ((rd_T162 l1_0 x6_1).f1), .int .i64 ((rd_T162 l1_0 x6_1).f2)] 162 (0, 0)) (by (with_reducible repeat (first | refine blk_drewN ?_ _ | refine blk_drew ?_ | refine blk_alloc ?_ _)); refine blk_put (cs := #[.int .i64 ((rd_T162 l1_0 x6_1).f0), .int .i64 ((rd_T162 l1_0 x6_1).f1), .int .i64 0]) ?_ 2 _ rfl; (with_reducible repeat (first | refine blk_drewN ?_ _ | refine blk_drew ?_ | refine blk_alloc ?_ _)); refine blk_put (cs := #[.int .i64 ((rd_T162 l1_0 x6_1).f0), .int .i64 0, .int .i64 0]) ?_ 1 _ rfl; (with_reducible repeat (first | refine blk_drewN ?_ _ | refine blk_drew ?_ | refine blk_alloc ?_ _)); refine blk_put (cs := #[.int .i64 0, .int .i64 0, .int .i64 0]) ?_ 0 _ rfl; (with_reducible repeat (first | refine blk_drewN ?_ _ | refine blk_drew ?_ | refine blk_alloc ?_ _)); exact BK211.out) hb); have n5_ := Aside0.mk (below_step (by repeat (first | (with_reducible first | exact HB.out | apply below_alloc | apply pw_below_drewN | apply below_drew1 | refine below_set ?_ GE208.out | refine below_set ?_ GE209.out | refine below_set ?_ GE211.out) | exact HB.out)) hb); clear HO_5; clear BK208; clear BK209; clear BK211; clear HB; have HO_5 := n0_; have HO214 := n1_; have BK208 := n2_; have BK209 := n3_; have BK211 := n4_; have HB := n5_; clear n0_ n1_ n2_ n3_ n4_ n5_; clear hb ho17))
   repeat (go_quiet (first | ((with_reducible refine gate_dst (N := 7) rfl ?_); refine box_event ?hg (N := 7) ?hd (cs := #[.int .i64 0, .int .i64 0, .int .i64 0]) (t := 162) ?hr ?_; (case hd => rfl); (case hg => rfl); (case hr => first | (go_simp; done) | (go_simp; rfl)); intro gb211 hg w11 hbox hb; have n0_ := Aside0.mk (Kd.S_below (by (with_reducible repeat (first | apply Kd.S_alloc | apply Kd.S_drewN | apply Kd.S_drew)); exact HO_5.out) hb); have n1_ := Aside0.mk (blk_below (g := gb208) (o := .cells #[.int .i64 a0_0, .int .i64 a0_1, .slice A0_2 l0_2.length c0_2, .int .i64 a0_3, .slice A0_4 l0_4.length c0_4] 56 (0, 0)) (by (with_reducible repeat (first | refine blk_drewN ?_ _ | refine blk_drew ?_ | refine blk_alloc ?_ _)); exact BK208.out) hb); have n2_ := Aside0.mk (blk_below (g := gb209) (o := .cells #[.slice (some ad210) l1_0.length c1_0] 59 (0, 0)) (by (with_reducible repeat (first | refine blk_drewN ?_ _ | refine blk_drew ?_ | refine blk_alloc ?_ _)); exact BK209.out) hb); have n3_ := Aside0.mk (below_step (by repeat (first | (with_reducible first | exact HB.out | apply below_alloc | apply pw_below_drewN | apply below_drew1 | refine below_set ?_ GE208.out | refine below_set ?_ GE209.out) | exact HB.out)) hb); have n4_ := Aside0.mk (hbox); have n5_ := Aside0.mk ((by rw [hg]; exact (below_size (by repeat (first | (with_reducible first | exact HB.out | apply below_alloc | apply pw_below_drewN | apply below_drew1 | refine below_set ?_ GE208.out | refine below_set ?_ GE209.out) | exact HB.out))) : w.heap.size ≤ gb211)); have n6_ := Aside0.mk ((by rw [hg]; exact (below_size (by repeat (first | (with_reducible first | exact HB.out | apply below_alloc | apply pw_below_drewN | apply below_drew1 | refine below_set ?_ GE208.out | refine below_set ?_ GE209.out) | exact HB.out))) : w.heap.size ≤ gb211)); have n7_ := Aside0.mk ((by rw [hg]; exact Nat.ne_of_lt (blk_lt (g := gb208) (o := .cells #[.int .i64 a0_0, .int .i64 a0_1, .slice A0_2 l0_2.length c0_2, .int .i64 a0_3, .slice A0_4 l0_4.length c0_4] 56 (0, 0)) (by (with_reducible repeat (first | refine blk_drewN ?_ _ | refine blk_drew ?_ | refine blk_alloc ?_ _)); exact BK208.out)) : gb208 ≠ gb211)); have n8_ := Aside0.mk ((by rw [hg]; exact Nat.ne_of_gt (blk_lt (g := gb208) (o := .cells #[.int .i64 a0_0, .int .i64 a0_1, .slice A0_2 l0_2.length c0_2, .int .i64 a0_3, .slice A0_4 l0_4.length c0_4] 56 (0, 0)) (by (with_reducible repeat (first | refine blk_drewN ?_ _ | refine blk_drew ?_ | refine blk_alloc ?_ _)); exact BK208.out)) : gb211 ≠ gb208)); have n9_ := Aside0.mk ((by rw [hg]; exact Nat.ne_of_lt (blk_lt (g := gb209) (o := .cells #[.slice (some ad210) l1_0.length c1_0] 59 (0, 0)) (by (with_reducible repeat (first | refine blk_drewN ?_ _ | refine blk_drew ?_ | refine blk_alloc ?_ _)); exact BK209.out)) : gb209 ≠ gb211)); have n10_ := Aside0.mk ((by rw [hg]; exact Nat.ne_of_gt (blk_lt (g := gb209) (o := .cells #[.slice (some ad210) l1_0.length c1_0] 59 (0, 0)) (by (with_reducible repeat (first | refine blk_drewN ?_ _ | refine blk_drew ?_ | refine blk_alloc ?_ _)); exact BK209.out)) : gb211 ≠ gb209)); clear HO_5; clear BK208; clear BK209; clear HB; have HO_5 := n0_; have BK208 := n1_; have BK209 := n2_; have HB := n3_; have BK211 := n4_; have GW211 := n5_; have GE211 := n6_; have NB208_211 := n7_; have NB211_208 := n8_; have NB209_211 := n9_; have NB211_209 := n10_; clear n0_ n1_ n2_ n3_ n4_ n5_ n6_ n7_ n8_ n9_ n10_; clear hb hbox hg; have hnb12 := NB211_208.out; have hnc12 := NB208_211.out; have hnb13 := NB211_209.out; have hnc13 := NB209_211.out; have hcz14_0 : w11.cell? ⟨gb211, 0, none⟩ = some (.int .i64 0) := (blk_cell BK211.out 0).trans rfl; have hcz14_1 : w11.cell? ⟨gb211, 1, none⟩ = some (.int .i64 0) := (blk_cell BK211.out 1).trans rfl; have hcz14_2 : w11.cell? ⟨gb211, 2, none⟩ = some (.int .i64 0) := (blk_cell BK211.out 2).trans rfl; have hfz14_0 := blk_frozen BK211.out 0; have hfz14_1 := blk_frozen BK211.out 1; have hfz14_2 := blk_frozen BK211.out 2; have hcz15_0 : w11.cell? ⟨gb208, 0, none⟩ = some (.int .i64 a0_0) := (blk_cell BK208.out 0).trans rfl; have hcz15_1 : w11.cell? ⟨gb208, 1, none⟩ = some (.int .i64 a0_1) := (blk_cell BK208.out 1).trans rfl; have hcz15_2 : w11.cell? ⟨gb208, 2, none⟩ = some (.slice A0_2 l0_2.length c0_2) := (blk_cell BK208.out 2).trans rfl; have hcz15_3 : w11.cell? ⟨gb208, 3, none⟩ = some (.int .i64 a0_3) := (blk_cell BK208.out 3).trans rfl; have hcz15_4 : w11.cell? ⟨gb208, 4, none⟩ = some (.slice A0_4 l0_4.length c0_4) := (blk_cell BK208.out 4).trans rfl; have hfz15_0 := blk_frozen BK208.out 0; have hfz15_1 := blk_frozen BK208.out 1; have hfz15_2 := blk_frozen BK208.out 2; have hfz15_3 := blk_frozen BK208.out 3; have hfz15_4 := blk_frozen BK208.out 4) | ((with_reducible refine gate_dst (N := 27) rfl ?_); refine Kd.R_make Kd.bool _ 4 rfl (N := 27) rfl 127 _ _ rfl a0_1 rfl rfl Try.underlying127 (.bool false) 1 info4 rfl (by decide) (by omega) false (ok := fun _ => True) (okp := fun _ => True) rfl (fun _ hk => hk) trivial (of_decide_eq_true (by first | (with_reducible assumption) | assumption)) (Nat.le_trans (Nat.mul_le_mul_right _ (of_decide_eq_true (by first | (with_reducible assumption) | assumption) : a0_1.toNat ≤ 281474976710656)) (by omega)) (Below.refl _ _) (Nat.le_refl _) ?_; intro v213 w16 ho17 hb hg_ hnew_; clear hg_ hnew_; (first | rw [← Ny212.out] at ho17 | (simp only [Int.reduceToNat] at ho17; rw [← Ny212.out] at ho17)); have n0_ := Aside0.mk (Kd.S_elder' (by (with_reducible repeat (first | apply Kd.S_alloc | apply Kd.S_drewN | apply Kd.S_drew)); exact (Kd.S_mono (Kd.S_far (p := ⟨gb211, 2, none⟩) (Kd.S_far (p := ⟨gb211, 1, none⟩) (Kd.S_far (p := ⟨gb211, 0, none⟩) (Kd.S_types HO_5.out BK211.out (by decide)) (fun _ hk => hk.2) (.int .i64 ((rd_T162 l1_0 x6_1).f0))) (fun _ hk => hk.2) (.int .i64 ((rd_T162 l1_0 x6_1).f1))) (fun _ hk => hk.2) (.int .i64 ((rd_T162 l1_0 x6_1).f2))) (fun _ h_ => h_.1))) (Kd.R_base ho17) hb); have n1_ := Aside0.mk (Kd.R_lower ho17 (below_size (by repeat (first | (with_reducible first | exact HB.out | apply below_alloc | apply pw_below_drewN | apply below_drew1 | refine below_set ?_ GE208.out | refine below_set ?_ GE209.out | refine below_set ?_ GE211.out) | exact HB.out)))); have n2_ := Aside0.mk (blk_below (g := gb208) (o := .cells #[.int .i64 a0_0, .int .i64 a0_1, .slice A0_2 l0_2.length c0_2, .int .i64 a0_3, .slice A0_4 l0_4.length c0_4] 56 (0, 0)) (by (with_reducible repeat (first | refine blk_drewN ?_ _ | refine blk_drew ?_ | refine blk_alloc ?_ _)); refine blk_far ?_ NB208_211.out _; (with_reducible repeat (first | refine blk_drewN ?_ _ | refine blk_drew ?_ | refine blk_alloc ?_ _)); refine blk_far ?_ NB208_211.out _; (with_reducible repeat (first | refine blk_drewN ?_ _ | refine blk_drew ?_ | refine blk_alloc ?_ _)); refine blk_far ?_ NB208_211.out _; (with_reducible repeat (first | refine blk_drewN ?_ _ | refine blk_drew ?_ | refine blk_alloc ?_ _)); exact BK208.out) hb); have n3_ := Aside0.mk (blk_below (g := gb209) (o := .cells #[.slice (some ad210) l1_0.length c1_0] 59 (0, 0)) (by (with_reducible repeat (first | refine blk_drewN ?_ _ | refine blk_drew ?_ | refine blk_alloc ?_ _)); refine blk_far ?_ NB209_211.out _; (with_reducible repeat (first | refine blk_drewN ?_ _ | refine blk_drew ?_ | refine blk_alloc ?_ _)); refine blk_far ?_ NB209_211.out _; (with_reducible repeat (first | refine blk_drewN ?_ _ | refine blk_drew ?_ | refine blk_alloc ?_ _)); refine blk_far ?_ NB209_211.out _; (with_reducible repeat (first | refine blk_drewN ?_ _ | refine blk_drew ?_ | refine blk_alloc ?_ _)); exact BK209.out) hb); have n4_ := Aside0.mk (blk_below (g := gb211) (o := .cells #[.int .i64 ((rd_T162 l1_0 x6_1).f0), .int .i64 ((rd_T162 l1_0 x6_1).f1), .int .i64 ((rd_T162 l1_0 x6_1).f2)] 162 (0, 0)) (by (with_reducible repeat (first | refine blk_drewN ?_ _ | refine blk_drew ?_ | refine blk_alloc ?_ _)); refine blk_put (cs := #[.int .i64 ((rd_T162 l1_0 x6_1).f0), .int .i64 ((rd_T162 l1_0 x6_1).f1), .int .i64 0]) ?_ 2 _ rfl; (with_reducible repeat (first | refine blk_drewN ?_ _ | refine blk_drew ?_ | refine blk_alloc ?_ _)); refine blk_put (cs := #[.int .i64 ((rd_T162 l1_0 x6_1).f0), .int .i64 0, .int .i64 0]) ?_ 1 _ rfl; (with_reducible repeat (first | refine blk_drewN ?_ _ | refine blk_drew ?_ | refine blk_alloc ?_ _)); refine blk_put (cs := #[.int .i64 0, .int .i64 0, .int .i64 0]) ?_ 0 _ rfl; (with_reducible repeat (first | refine blk_drewN ?_ _ | refine blk_drew ?_ | refine blk_alloc ?_ _)); exact BK211.out) hb); have n5_ := Aside0.mk (below_step (by repeat (first | (with_reducible first | exact HB.out | apply below_alloc | apply pw_below_drewN | apply below_drew1 | refine below_set ?_ GE208.out | refine below_set ?_ GE209.out | refine below_set ?_ GE211.out) | exact HB.out)) hb); clear HO_5; clear BK208; clear BK209; clear BK211; clear HB; have HO_5 := n0_; have HO214 := n1_; have BK208 := n2_; have BK209 := n3_; have BK211 := n4_; have HB := n5_; clear n0_ n1_ n2_ n3_ n4_ n5_; clear hb ho17)); try go_wp2_with (first | ((with_reducible refine gate_dst (N := 7) rfl ?_); refine box_event ?hg (N := 7) ?hd (cs := #[.int .i64 0, .int .i64 0, .int .i64 0]) (t := 162) ?hr ?_; (case hd => rfl); (case hg => rfl); (case hr => first | (go_simp; done) | (go_simp; rfl)); intro gb211 hg w11 hbox hb; have n0_ := Aside0.mk (Kd.S_below (by (with_reducible repeat (first | apply Kd.S_alloc | apply Kd.S_drewN | apply Kd.S_drew)); exact HO_5.out) hb); have n1_ := Aside0.mk (blk_below (g := gb208) (o := .cells #[.int .i64 a0_0, .int .i64 a0_1, .slice A0_2 l0_2.length c0_2, .int .i64 a0_3, .slice A0_4 l0_4.length c0_4] 56 (0, 0)) (by (with_reducible repeat (first | refine blk_drewN ?_ _ | refine blk_drew ?_ | refine blk_alloc ?_ _)); exact BK208.out) hb); have n2_ := Aside0.mk (blk_below (g := gb209) (o := .cells #[.slice (some ad210) l1_0.length c1_0] 59 (0, 0)) (by (with_reducible repeat (first | refine blk_drewN ?_ _ | refine blk_drew ?_ | refine blk_alloc ?_ _)); exact BK209.out) hb); have n3_ := Aside0.mk (below_step (by repeat (first | (with_reducible first | exact HB.out | apply below_alloc | apply pw_below_drewN | apply below_drew1 | refine below_set ?_ GE208.out | refine below_set ?_ GE209.out) | exact HB.out)) hb); have n4_ := Aside0.mk (hbox); have n5_ := Aside0.mk ((by rw [hg]; exact (below_size (by repeat (first | (with_reducible first | exact HB.out | apply below_alloc | apply pw_below_drewN | apply below_drew1 | refine below_set ?_ GE208.out | refine below_set ?_ GE209.out) | exact HB.out))) : w.heap.size ≤ gb211)); have n6_ := Aside0.mk ((by rw [hg]; exact (below_size (by repeat (first | (with_reducible first | exact HB.out | apply below_alloc | apply pw_below_drewN | apply below_drew1 | refine below_set ?_ GE208.out | refine below_set ?_ GE209.out) | exact HB.out))) : w.heap.size ≤ gb211)); have n7_ := Aside0.mk ((by rw [hg]; exact Nat.ne_of_lt (blk_lt (g := gb208) (o := .cells #[.int .i64 a0_0, .int .i64 a0_1, .slice A0_2 l0_2.length c0_2, .int .i64 a0_3, .slice A0_4 l0_4.length c0_4] 56 (0, 0)) (by (with_reducible repeat (first | refine blk_drewN ?_ _ | refine blk_drew ?_ | refine blk_alloc ?_ _)); exact BK208.out)) : gb208 ≠ gb211)); have n8_ := Aside0.mk ((by rw [hg]; exact Nat.ne_of_gt (blk_lt (g := gb208) (o := .cells #[.int .i64 a0_0, .int .i64 a0_1, .slice A0_2 l0_2.length c0_2, .int .i64 a0_3, .slice A0_4 l0_4.length c0_4] 56 (0, 0)) (by (with_reducible repeat (first | refine blk_drewN ?_ _ | refine blk_drew ?_ | refine blk_alloc ?_ _)); exact BK208.out)) : gb211 ≠ gb208)); have n9_ := Aside0.mk ((by rw [hg]; exact Nat.ne_of_lt (blk_lt (g := gb209) (o := .cells #[.slice (some ad210) l1_0.length c1_0] 59 (0, 0)) (by (with_reducible repeat (first | refine blk_drewN ?_ _ | refine blk_drew ?_ | refine blk_alloc ?_ _)); exact BK209.out)) : gb209 ≠ gb211)); have n10_ := Aside0.mk ((by rw [hg]; exact Nat.ne_of_gt (blk_lt (g := gb209) (o := .cells #[.slice (some ad210) l1_0.length c1_0] 59 (0, 0)) (by (with_reducible repeat (first | refine blk_drewN ?_ _ | refine blk_drew ?_ | refine blk_alloc ?_ _)); exact BK209.out)) : gb211 ≠ gb209)); clear HO_5; clear BK208; clear BK209; clear HB; have HO_5 := n0_; have BK208 := n1_; have BK209 := n2_; have HB := n3_; have BK211 := n4_; have GW211 := n5_; have GE211 := n6_; have NB208_211 := n7_; have NB211_208 := n8_; have NB209_211 := n9_; have NB211_209 := n10_; clear n0_ n1_ n2_ n3_ n4_ n5_ n6_ n7_ n8_ n9_ n10_; clear hb hbox hg; have hnb12 := NB211_208.out; have hnc12 := NB208_211.out; have hnb13 := NB211_209.out; have hnc13 := NB209_211.out; have hcz14_0 : w11.cell? ⟨gb211, 0, none⟩ = some (.int .i64 0) := (blk_cell BK211.out 0).trans rfl; have hcz14_1 : w11.cell? ⟨gb211, 1, none⟩ = some (.int .i64 0) := (blk_cell BK211.out 1).trans rfl; have hcz14_2 : w11.cell? ⟨gb211, 2, none⟩ = some (.int .i64 0) := (blk_cell BK211.out 2).trans rfl; have hfz14_0 := blk_frozen BK211.out 0; have hfz14_1 := blk_frozen BK211.out 1; have hfz14_2 := blk_frozen BK211.out 2; have hcz15_0 : w11.cell? ⟨gb208, 0, none⟩ = some (.int .i64 a0_0) := (blk_cell BK208.out 0).trans rfl; have hcz15_1 : w11.cell? ⟨gb208, 1, none⟩ = some (.int .i64 a0_1) := (blk_cell BK208.out 1).trans rfl; have hcz15_2 : w11.cell? ⟨gb208, 2, none⟩ = some (.slice A0_2 l0_2.length c0_2) := (blk_cell BK208.out 2).trans rfl; have hcz15_3 : w11.cell? ⟨gb208, 3, none⟩ = some (.int .i64 a0_3) := (blk_cell BK208.out 3).trans rfl; have hcz15_4 : w11.cell? ⟨gb208, 4, none⟩ = some (.slice A0_4 l0_4.length c0_4) := (blk_cell BK208.out 4).trans rfl; have hfz15_0 := blk_frozen BK208.out 0; have hfz15_1 := blk_frozen BK208.out 1; have hfz15_2 := blk_frozen BK208.out 2; have hfz15_3 := blk_frozen BK208.out 3; have hfz15_4 := blk_frozen BK208.out 4) | ((with_reducible refine gate_dst (N := 27) rfl ?_); refine Kd.R_make Kd.bool _ 4 rfl (N := 27) rfl 127 _ _ rfl a0_1 rfl rfl Try.underlying127 (.bool false) 1 info4 rfl (by decide) (by omega) false (ok := fun _ => True) (okp := fun _ => True) rfl (fun _ hk => hk) trivial (of_decide_eq_true (by first | (with_reducible assumption) | assumption)) (Nat.le_trans (Nat.mul_le_mul_right _ (of_decide_eq_true (by first | (with_reducible assumption) | assumption) : a0_1.toNat ≤ 281474976710656)) (by omega)) (Below.refl _ _) (Nat.le_refl _) ?_; intro v213 w16 ho17 hb hg_ hnew_; clear hg_ hnew_; (first | rw [← Ny212.out] at ho17 | (simp only [Int.reduceToNat] at ho17; rw [← Ny212.out] at ho17)); have n0_ := Aside0.mk (Kd.S_elder' (by (with_reducible repeat (first | apply Kd.S_alloc | apply Kd.S_drewN | apply Kd.S_drew)); exact (Kd.S_mono (Kd.S_far (p := ⟨gb211, 2, none⟩) (Kd.S_far (p := ⟨gb211, 1, none⟩) (Kd.S_far (p := ⟨gb211, 0, none⟩) (Kd.S_types HO_5.out BK211.out (by decide)) (fun _ hk => hk.2) (.int .i64 ((rd_T162 l1_0 x6_1).f0))) (fun _ hk => hk.2) (.int .i64 ((rd_T162 l1_0 x6_1).f1))) (fun _ hk => hk.2) (.int .i64 ((rd_T162 l1_0 x6_1).f2))) (fun _ h_ => h_.1))) (Kd.R_base ho17) hb); have n1_ := Aside0.mk (Kd.R_lower ho17 (below_size (by repeat (first | (with_reducible first | exact HB.out | apply below_alloc | apply pw_below_drewN | apply below_drew1 | refine below_set ?_ GE208.out | refine below_set ?_ GE209.out | refine below_set ?_ GE211.out) | exact HB.out)))); have n2_ := Aside0.mk (blk_below (g := gb208) (o := .cells #[.int .i64 a0_0, .int .i64 a0_1, .slice A0_2 l0_2.length c0_2, .int .i64 a0_3, .slice A0_4 l0_4.length c0_4] 56 (0, 0)) (by (with_reducible repeat (first | refine blk_drewN ?_ _ | refine blk_drew ?_ | refine blk_alloc ?_ _)); refine blk_far ?_ NB208_211.out _; (with_reducible repeat (first | refine blk_drewN ?_ _ | refine blk_drew ?_ | refine blk_alloc ?_ _)); refine blk_far ?_ NB208_211.out _; (with_reducible repeat (first | refine blk_drewN ?_ _ | refine blk_drew ?_ | refine blk_alloc ?_ _)); refine blk_far ?_ NB208_211.out _; (with_reducible repeat (first | refine blk_drewN ?_ _ | refine blk_drew ?_ | refine blk_alloc ?_ _)); exact BK208.out) hb); have n3_ := Aside0.mk (blk_below (g := gb209) (o := .cells #[.slice (some ad210) l1_0.length c1_0] 59 (0, 0)) (by (with_reducible repeat (first | refine blk_drewN ?_ _ | refine blk_drew ?_ | refine blk_alloc ?_ _)); refine blk_far ?_ NB209_211.out _; (with_reducible repeat (first | refine blk_drewN ?_ _ | refine blk_drew ?_ | refine blk_alloc ?_ _)); refine blk_far ?_ NB209_211.out _; (with_reducible repeat (first | refine blk_drewN ?_ _ | refine blk_drew ?_ | refine blk_alloc ?_ _)); refine blk_far ?_ NB209_211.out _; (with_reducible repeat (first | refine blk_drewN ?_ _ | refine blk_drew ?_ | refine blk_alloc ?_ _)); exact BK209.out) hb); have n4_ := Aside0.mk (blk_below (g := gb211) (o := .cells #[.int .i64 ((rd_T162 l1_0 x6_1).f0), .int .i64 ((rd_T162 l1_0 x6_1).f1), .int .i64 ((rd_T162 l1_0 x6_1).f2)] 162 (0, 0)) (by (with_reducible repeat (first | refine blk_drewN ?_ _ | refine blk_drew ?_ | refine blk_alloc ?_ _)); refine blk_put (cs := #[.int .i64 ((rd_T162 l1_0 x6_1).f0), .int .i64 ((rd_T162 l1_0 x6_1).f1), .int .i64 0]) ?_ 2 _ rfl; (with_reducible repeat (first | refine blk_drewN ?_ _ | refine blk_drew ?_ | refine blk_alloc ?_ _)); refine blk_put (cs := #[.int .i64 ((rd_T162 l1_0 x6_1).f0), .int .i64 0, .int .i64 0]) ?_ 1 _ rfl; (with_reducible repeat (first | refine blk_drewN ?_ _ | refine blk_drew ?_ | refine blk_alloc ?_ _)); refine blk_put (cs := #[.int .i64 0, .int .i64 0, .int .i64 0]) ?_ 0 _ rfl; (with_reducible repeat (first | refine blk_drewN ?_ _ | refine blk_drew ?_ | refine blk_alloc ?_ _)); exact BK211.out) hb); have n5_ := Aside0.mk (below_step (by repeat (first | (with_reducible first | exact HB.out | apply below_alloc | apply pw_below_drewN | apply below_drew1 | refine below_set ?_ GE208.out | refine below_set ?_ GE209.out | refine below_set ?_ GE211.out) | exact HB.out)) hb); clear HO_5; clear BK208; clear BK209; clear BK211; clear HB; have HO_5 := n0_; have HO214 := n1_; have BK208 := n2_; have BK209 := n3_; have BK211 := n4_; have HB := n5_; clear n0_ n1_ n2_ n3_ n4_ n5_; clear hb ho17)))
   go_loopg [9] k1 (fun kq v9 w' => ∃ (x8_2 : List Bool) (x9_2 : Int), v9 = .int .i64 x9_2 ∧ Aside0 (evermoreref12_Accepts.l1 kq x5_1 x6_1 x8_2 x9_2 a0_0 a0_1 l0_2 a0_3 l0_4 l1_0 ((rd_T162 l1_0 x6_1).f0) ((rd_T162 l1_0 x6_1).f1) ((rd_T162 l1_0 x6_1).f2) = some r) ∧ Aside0 (kq ≤ k1) ∧ Aside0 (Kd.S (Kd.slice 4 Kd.bool) 127 w' w.heap.size (fun k_ => some k_ ≠ (v213 : Value).ownBlock) u5 x5_1) ∧ Aside0 (Kd.R Kd.bool 4 w' w.heap.size (fun _ => True) v213 x8_2) ∧ Aside0 (w'.heap[gb208]? = some (.cells #[.int .i64 a0_0, .int .i64 a0_1, (.slice A0_2 l0_2.length c0_2), .int .i64 a0_3, (.slice A0_4 l0_4.length c0_4)] 56 (0, 0))) ∧ Aside0 (w'.heap[gb209]? = some (.cells #[(.slice (some ad210) l1_0.length c1_0)] 59 (0, 0))) ∧ Aside0 (w'.heap[gb211]? = some (.cells #[.int .i64 ((rd_T162 l1_0 x6_1).f0), .int .i64 ((rd_T162 l1_0 x6_1).f1), .int .i64 ((rd_T162 l1_0 x6_1).f2)] 162 (0, 0))) ∧ Aside0 (Below w.heap.size w w'))
   case atStart => exact ⟨(y212), (0), (by first | rfl | (simp; done) | (simp [*]; done)), H', ⟨Nat.le_refl _⟩, ⟨by (with_reducible repeat (first | apply Kd.S_alloc | apply Kd.S_drewN | apply Kd.S_drew)); exact Kd.S_mono HO_5.out (fun _ hk => hk.2)⟩, ⟨by (with_reducible repeat (first | apply Kd.R_alloc | apply Kd.R_drewN | apply Kd.R_drew)); exact HO214.out⟩, ⟨by (with_reducible repeat (first | refine blk_drewN ?_ _ | refine blk_drew ?_ | refine blk_alloc ?_ _)); exact BK208.out⟩, ⟨by (with_reducible repeat (first | refine blk_drewN ?_ _ | refine blk_drew ?_ | refine blk_alloc ?_ _)); exact BK209.out⟩, ⟨by (with_reducible repeat (first | refine blk_drewN ?_ _ | refine blk_drew ?_ | refine blk_alloc ?_ _)); exact BK211.out⟩, ⟨by repeat (first | (with_reducible first | exact HB.out | apply below_alloc | apply pw_below_drewN | apply below_drew1 | refine below_set ?_ GE208.out | refine below_set ?_ GE209.out | refine below_set ?_ GE211.out) | exact HB.out)⟩⟩
   case round =>
    clear H'
    try clear c1
    try clear p2
    try clear q2
    try clear hx2
    try clear c3
    try clear c5
    try clear c5b0
    try clear c6
    try clear c6b0
    try clear c7
    try clear c7b0
    try clear c7b1
    try clear c8
    try clear c8b0
    try clear c8b1
    try clear c9
    try clear c12
    try clear c13
    try clear hcz10_0
    try clear hcz14_0
    try clear hcz14_1
    try clear hcz14_2
    try clear hcz15_0
    try clear hcz15_1
    try clear hcz15_2
    try clear hcz15_3
    try clear hcz15_4
    try clear hfz10_0
    try clear hfz14_0
    try clear hfz14_1
    try clear hfz14_2
    try clear hfz15_0
    try clear hfz15_1
    try clear hfz15_2
    try clear hfz15_3
    try clear hfz15_4
    try clear hx210_0
    try clear hx210_1
    try clear hx210_2
    try clear p2
    try clear p210
    try clear q210
    obtain ⟨x8_2, x9_2, rfl, HA, HK2, HO_5, HO_8, BK208, BK209, BK211, HB⟩ := hrel
    cases gk with
    | zero => exact absurd HA.out (by simp [evermoreref12_Accepts.l1])
    | succ k2 =>
     have H := HA.out
     clear HA
     simp only [evermoreref12_Accepts.l1] at H
     by_cases c18 : x9_2 < (l0_2.length : Int)
     ·(
 rw [if_pos c18] at H
 have c18b0 : decide (x9_2 < (l0_2.length : Int)) = true := decide_eq_true c18
 clear c18
 by_cases c19 : 0 ≤ x9_2
 ·rw [if_pos c19] at H
  have c19b0 : decide (0 ≤ x9_2) = true := decide_eq_true c19
  clear c19
  have HC20 := Aside0.mk H
  clear H
  have hnb21 := NB208_209.out
  have hnc21 := NB209_208.out
  have hnb22 := NB208_211.out
  have hnc22 := NB211_208.out
  have hcz23_0 : wr.cell? ⟨gb208, 0, none⟩ = some (.int .i64 a0_0) := (blk_cell BK208.out 0).trans rfl
  have hcz23_1 : wr.cell? ⟨gb208, 1, none⟩ = some (.int .i64 a0_1) := (blk_cell BK208.out 1).trans rfl
  have hcz23_2 : wr.cell? ⟨gb208, 2, none⟩ = some (.slice A0_2 l0_2.length c0_2) := (blk_cell BK208.out 2).trans rfl
  have hcz23_3 : wr.cell? ⟨gb208, 3, none⟩ = some (.int .i64 a0_3) := (blk_cell BK208.out 3).trans rfl
  have hcz23_4 : wr.cell? ⟨gb208, 4, none⟩ = some (.slice A0_4 l0_4.length c0_4) := (blk_cell BK208.out 4).trans rfl
  have hfz23_0 := blk_frozen BK208.out 0
  have hfz23_1 := blk_frozen BK208.out 1
  have hfz23_2 := blk_frozen BK208.out 2
  have hfz23_3 := blk_frozen BK208.out 3
  have hfz23_4 := blk_frozen BK208.out 4
  have p218 : 0 ≤ (x9_2 : Int) := of_decide_eq_true (by first | (with_reducible assumption) | assumption)
  have q218 : x9_2 < (l0_2.length : Int) := of_decide_eq_true (by first | (with_reducible assumption) | assumption)
  obtain ⟨ad218, e218, hx218_0, hx218_1, hx218_2, hx218_3⟩ := at_T157 HR0_2.out x9_2 p218 q218
  cases e218
  replace hx218_0 := (HB.out.cell (World.block_lt_of_cell? w _ hx218_0)).trans hx218_0
  replace hx218_1 := (HB.out.cell (World.block_lt_of_cell? w _ hx218_1)).trans hx218_1
  replace hx218_2 := (HB.out.cell (World.block_lt_of_cell? w _ hx218_2)).trans hx218_2
  replace hx218_3 := (HB.out.cell (World.block_lt_of_cell? w _ hx218_3)).trans hx218_3
  replace p218 := eq_true p218
  replace q218 := eq_true q218
  go_upto_region 11 with (first | ((with_reducible refine gate_dst (N := 10) rfl ?_); refine box_event ?hg (N := 10) ?hd (cs := #[.int .i64 0, .int .i64 0, .int .i64 0, .int .i64 0]) (t := 157) ?hr ?_; (case hd => rfl); (case hg => rfl); (case hr => first | (go_simp; done) | (go_simp; rfl)); intro gb219 hg w24 hbox hb; have n0_ := Aside0.mk (Kd.S_below (by (with_reducible repeat (first | apply Kd.S_alloc | apply Kd.S_drewN | apply Kd.S_drew)); exact HO_5.out) hb); have n1_ := Aside0.mk (Kd.R_below (by (with_reducible repeat (first | apply Kd.R_alloc | apply Kd.R_drewN | apply Kd.R_drew)); exact HO_8.out) hb); have n2_ := Aside0.mk (blk_below (g := gb208) (o := .cells #[.int .i64 a0_0, .int .i64 a0_1, .slice (some ad218) l0_2.length c0_2, .int .i64 a0_3, .slice A0_4 l0_4.length c0_4] 56 (0, 0)) (by (with_reducible repeat (first | refine blk_drewN ?_ _ | refine blk_drew ?_ | refine blk_alloc ?_ _)); exact BK208.out) hb); have n3_ := Aside0.mk (blk_below (g := gb209) (o := .cells #[.slice (some ad210) l1_0.length c1_0] 59 (0, 0)) (by (with_reducible repeat (first | refine blk_drewN ?_ _ | refine blk_drew ?_ | refine blk_alloc ?_ _)); exact BK209.out) hb); have n4_ := Aside0.mk (blk_below (g := gb211) (o := .cells #[.int .i64 ((rd_T162 l1_0 x6_1).f0), .int .i64 ((rd_T162 l1_0 x6_1).f1), .int .i64 ((rd_T162 l1_0 x6_1).f2)] 162 (0, 0)) (by (with_reducible repeat (first | refine blk_drewN ?_ _ | refine blk_drew ?_ | refine blk_alloc ?_ _)); exact BK211.out) hb); have n5_ := Aside0.mk (below_step (by repeat (first | (with_reducible first | exact HB.out | apply below_alloc | apply pw_below_drewN | apply below_drew1 | refine below_set ?_ GE208.out | refine below_set ?_ GE209.out | refine below_set ?_ GE211.out) | exact HB.out)) hb); have n6_ := Aside0.mk (hbox); have n7_ := Aside0.mk ((by rw [hg]; exact (below_size (by repeat (first | (with_reducible first | exact HB.out | apply below_alloc | apply pw_below_drewN | apply below_drew1 | refine below_set ?_ GE208.out | refine below_set ?_ GE209.out | refine below_set ?_ GE211.out) | exact HB.out))) : w.heap.size ≤ gb219)); have n8_ := Aside0.mk ((by rw [hg]; exact (below_size (by repeat (first | (with_reducible first | exact HB.out | apply below_alloc | apply pw_below_drewN | apply below_drew1 | refine below_set ?_ GE208.out | refine below_set ?_ GE209.out | refine below_set ?_ GE211.out) | exact HB.out))) : w.heap.size ≤ gb219)); have n9_ := Aside0.mk ((by rw [hg]; exact Nat.ne_of_lt (blk_lt (g := gb208) (o := .cells #[.int .i64 a0_0, .int .i64 a0_1, .slice (some ad218) l0_2.length c0_2, .int .i64 a0_3, .slice A0_4 l0_4.length c0_4] 56 (0, 0)) (by (with_reducible repeat (first | refine blk_drewN ?_ _ | refine blk_drew ?_ | refine blk_alloc ?_ _)); exact BK208.out)) : gb208 ≠ gb219)); have n10_ := Aside0.mk ((by rw [hg]; exact Nat.ne_of_gt (blk_lt (g := gb208) (o := .cells #[.int .i64 a0_0, .int .i64 a0_1, .slice (some ad218) l0_2.length c0_2, .int .i64 a0_3, .slice A0_4 l0_4.length c0_4] 56 (0, 0)) (by (with_reducible repeat (first | refine blk_drewN ?_ _ | refine blk_drew ?_ | refine blk_alloc ?_ _)); exact BK208.out)) : gb219 ≠ gb208)); have n11_ := Aside0.mk ((by rw [hg]; exact Nat.ne_of_lt (blk_lt (g := gb209) (o := .cells #[.slice (some ad210) l1_0.length c1_0] 59 (0, 0)) (by (with_reducible repeat (first | refine blk_drewN ?_ _ | refine blk_drew ?_ | refine blk_alloc ?_ _)); exact BK209.out)) : gb209 ≠ gb219)); have n12_ := Aside0.mk ((by rw [hg]; exact Nat.ne_of_gt (blk_lt (g := gb209) (o := .cells #[.slice (some ad210) l1_0.length c1_0] 59 (0, 0)) (by (with_reducible repeat (first | refine blk_drewN ?_ _ | refine blk_drew ?_ | refine blk_alloc ?_ _)); exact BK209.out)) : gb219 ≠ gb209)); have n13_ := Aside0.mk ((by rw [hg]; exact Nat.ne_of_lt (blk_lt (g := gb211) (o := .cells #[.int .i64 ((rd_T162 l1_0 x6_1).f0), .int .i64 ((rd_T162 l1_0 x6_1).f1), .int .i64 ((rd_T162 l1_0 x6_1).f2)] 162 (0, 0)) (by (with_reducible repeat (first | refine blk_drewN ?_ _ | refine blk_drew ?_ | refine blk_alloc ?_ _)); exact BK211.out)) : gb211 ≠ gb219)); have n14_ := Aside0.mk ((by rw [hg]; exact Nat.ne_of_gt (blk_lt (g := gb211) (o := .cells #[.int .i64 ((rd_T162 l1_0 x6_1).f0), .int .i64 ((rd_T162 l1_0 x6_1).f1), .int .i64 ((rd_T162 l1_0 x6_1).f2)] 162 (0, 0)) (by (with_reducible repeat (first | refine blk_drewN ?_ _ | refine blk_drew ?_ | refine blk_alloc ?_ _)); exact BK211.out)) : gb219 ≠ gb211)); clear HO_5; clear HO_8; clear BK208; clear BK209; clear BK211; clear HB; have HO_5 := n0_; have HO_8 := n1_; have BK208 := n2_; have BK209 := n3_; have BK211 := n4_; have HB := n5_; have BK219 := n6_; have GW219 := n7_; have GE219 := n8_; have NB208_219 := n9_; have NB219_208 := n10_; have NB209_219 := n11_; have NB219_209 := n12_; have NB211_219 := n13_; have NB219_211 := n14_; clear n0_ n1_ n2_ n3_ n4_ n5_ n6_ n7_ n8_ n9_ n10_ n11_ n12_ n13_ n14_; clear hb hbox hg; have hnb25 := NB219_208.out; have hnc25 := NB208_219.out; have hnb26 := NB219_209.out; have hnc26 := NB209_219.out; have hnb27 := NB219_211.out; have hnc27 := NB211_219.out; have hcz28_0 : w24.cell? ⟨gb219, 0, none⟩ = some (.int .i64 0) := (blk_cell BK219.out 0).trans rfl; have hcz28_1 : w24.cell? ⟨gb219, 1, none⟩ = some (.int .i64 0) := (blk_cell BK219.out 1).trans rfl; have hcz28_2 : w24.cell? ⟨gb219, 2, none⟩ = some (.int .i64 0) := (blk_cell BK219.out 2).trans rfl; have hcz28_3 : w24.cell? ⟨gb219, 3, none⟩ = some (.int .i64 0) := (blk_cell BK219.out 3).trans rfl; have hfz28_0 := blk_frozen BK219.out 0; have hfz28_1 := blk_frozen BK219.out 1; have hfz28_2 := blk_frozen BK219.out 2; have hfz28_3 := blk_frozen BK219.out 3))
  repeat (go_quiet (first | ((with_reducible refine gate_dst (N := 10) rfl ?_); refine box_event ?hg (N := 10) ?hd (cs := #[.int .i64 0, .int .i64 0, .int .i64 0, .int .i64 0]) (t := 157) ?hr ?_; (case hd => rfl); (case hg => rfl); (case hr => first | (go_simp; done) | (go_simp; rfl)); intro gb219 hg w24 hbox hb; have n0_ := Aside0.mk (Kd.S_below (by (with_reducible repeat (first | apply Kd.S_alloc | apply Kd.S_drewN | apply Kd.S_drew)); exact HO_5.out) hb); have n1_ := Aside0.mk (Kd.R_below (by (with_reducible repeat (first | apply Kd.R_alloc | apply Kd.R_drewN | apply Kd.R_drew)); exact HO_8.out) hb); have n2_ := Aside0.mk (blk_below (g := gb208) (o := .cells #[.int .i64 a0_0, .int .i64 a0_1, .slice (some ad218) l0_2.length c0_2, .int .i64 a0_3, .slice A0_4 l0_4.length c0_4] 56 (0, 0)) (by (with_reducible repeat (first | refine blk_drewN ?_ _ | refine blk_drew ?_ | refine blk_alloc ?_ _)); exact BK208.out) hb); have n3_ := Aside0.mk (blk_below (g := gb209) (o := .cells #[.slice (some ad210) l1_0.length c1_0] 59 (0, 0)) (by (with_reducible repeat (first | refine blk_drewN ?_ _ | refine blk_drew ?_ | refine blk_alloc ?_ _)); exact BK209.out) hb); have n4_ := Aside0.mk (blk_below (g := gb211) (o := .cells #[.int .i64 ((rd_T162 l1_0 x6_1).f0), .int .i64 ((rd_T162 l1_0 x6_1).f1), .int .i64 ((rd_T162 l1_0 x6_1).f2)] 162 (0, 0)) (by (with_reducible repeat (first | refine blk_drewN ?_ _ | refine blk_drew ?_ | refine blk_alloc ?_ _)); exact BK211.out) hb); have n5_ := Aside0.mk (below_step (by repeat (first | (with_reducible first | exact HB.out | apply below_alloc | apply pw_below_drewN | apply below_drew1 | refine below_set ?_ GE208.out | refine below_set ?_ GE209.out | refine below_set ?_ GE211.out) | exact HB.out)) hb); have n6_ := Aside0.mk (hbox); have n7_ := Aside0.mk ((by rw [hg]; exact (below_size (by repeat (first | (with_reducible first | exact HB.out | apply below_alloc | apply pw_below_drewN | apply below_drew1 | refine below_set ?_ GE208.out | refine below_set ?_ GE209.out | refine below_set ?_ GE211.out) | exact HB.out))) : w.heap.size ≤ gb219)); have n8_ := Aside0.mk ((by rw [hg]; exact (below_size (by repeat (first | (with_reducible first | exact HB.out | apply below_alloc | apply pw_below_drewN | apply below_drew1 | refine below_set ?_ GE208.out | refine below_set ?_ GE209.out | refine below_set ?_ GE211.out) | exact HB.out))) : w.heap.size ≤ gb219)); have n9_ := Aside0.mk ((by rw [hg]; exact Nat.ne_of_lt (blk_lt (g := gb208) (o := .cells #[.int .i64 a0_0, .int .i64 a0_1, .slice (some ad218) l0_2.length c0_2, .int .i64 a0_3, .slice A0_4 l0_4.length c0_4] 56 (0, 0)) (by (with_reducible repeat (first | refine blk_drewN ?_ _ | refine blk_drew ?_ | refine blk_alloc ?_ _)); exact BK208.out)) : gb208 ≠ gb219)); have n10_ := Aside0.mk ((by rw [hg]; exact Nat.ne_of_gt (blk_lt (g := gb208) (o := .cells #[.int .i64 a0_0, .int .i64 a0_1, .slice (some ad218) l0_2.length c0_2, .int .i64 a0_3, .slice A0_4 l0_4.length c0_4] 56 (0, 0)) (by (with_reducible repeat (first | refine blk_drewN ?_ _ | refine blk_drew ?_ | refine blk_alloc ?_ _)); exact BK208.out)) : gb219 ≠ gb208)); have n11_ := Aside0.mk ((by rw [hg]; exact Nat.ne_of_lt (blk_lt (g := gb209) (o := .cells #[.slice (some ad210) l1_0.length c1_0] 59 (0, 0)) (by (with_reducible repeat (first | refine blk_drewN ?_ _ | refine blk_drew ?_ | refine blk_alloc ?_ _)); exact BK209.out)) : gb209 ≠ gb219)); have n12_ := Aside0.mk ((by rw [hg]; exact Nat.ne_of_gt (blk_lt (g := gb209) (o := .cells #[.slice (some ad210) l1_0.length c1_0] 59 (0, 0)) (by (with_reducible repeat (first | refine blk_drewN ?_ _ | refine blk_drew ?_ | refine blk_alloc ?_ _)); exact BK209.out)) : gb219 ≠ gb209)); have n13_ := Aside0.mk ((by rw [hg]; exact Nat.ne_of_lt (blk_lt (g := gb211) (o := .cells #[.int .i64 ((rd_T162 l1_0 x6_1).f0), .int .i64 ((rd_T162 l1_0 x6_1).f1), .int .i64 ((rd_T162 l1_0 x6_1).f2)] 162 (0, 0)) (by (with_reducible repeat (first | refine blk_drewN ?_ _ | refine blk_drew ?_ | refine blk_alloc ?_ _)); exact BK211.out)) : gb211 ≠ gb219)); have n14_ := Aside0.mk ((by rw [hg]; exact Nat.ne_of_gt (blk_lt (g := gb211) (o := .cells #[.int .i64 ((rd_T162 l1_0 x6_1).f0), .int .i64 ((rd_T162 l1_0 x6_1).f1), .int .i64 ((rd_T162 l1_0 x6_1).f2)] 162 (0, 0)) (by (with_reducible repeat (first | refine blk_drewN ?_ _ | refine blk_drew ?_ | refine blk_alloc ?_ _)); exact BK211.out)) : gb219 ≠ gb211)); clear HO_5; clear HO_8; clear BK208; clear BK209; clear BK211; clear HB; have HO_5 := n0_; have HO_8 := n1_; have BK208 := n2_; have BK209 := n3_; have BK211 := n4_; have HB := n5_; have BK219 := n6_; have GW219 := n7_; have GE219 := n8_; have NB208_219 := n9_; have NB219_208 := n10_; have NB209_219 := n11_; have NB219_209 := n12_; have NB211_219 := n13_; have NB219_211 := n14_; clear n0_ n1_ n2_ n3_ n4_ n5_ n6_ n7_ n8_ n9_ n10_ n11_ n12_ n13_ n14_; clear hb hbox hg; have hnb25 := NB219_208.out; have hnc25 := NB208_219.out; have hnb26 := NB219_209.out; have hnc26 := NB209_219.out; have hnb27 := NB219_211.out; have hnc27 := NB211_219.out; have hcz28_0 : w24.cell? ⟨gb219, 0, none⟩ = some (.int .i64 0) := (blk_cell BK219.out 0).trans rfl; have hcz28_1 : w24.cell? ⟨gb219, 1, none⟩ = some (.int .i64 0) := (blk_cell BK219.out 1).trans rfl; have hcz28_2 : w24.cell? ⟨gb219, 2, none⟩ = some (.int .i64 0) := (blk_cell BK219.out 2).trans rfl; have hcz28_3 : w24.cell? ⟨gb219, 3, none⟩ = some (.int .i64 0) := (blk_cell BK219.out 3).trans rfl; have hfz28_0 := blk_frozen BK219.out 0; have hfz28_1 := blk_frozen BK219.out 1; have hfz28_2 := blk_frozen BK219.out 2; have hfz28_3 := blk_frozen BK219.out 3)); go_upto_region 11 with (first | ((with_reducible refine gate_dst (N := 10) rfl ?_); refine box_event ?hg (N := 10) ?hd (cs := #[.int .i64 0, .int .i64 0, .int .i64 0, .int .i64 0]) (t := 157) ?hr ?_; (case hd => rfl); (case hg => rfl); (case hr => first | (go_simp; done) | (go_simp; rfl)); intro gb219 hg w24 hbox hb; have n0_ := Aside0.mk (Kd.S_below (by (with_reducible repeat (first | apply Kd.S_alloc | apply Kd.S_drewN | apply Kd.S_drew)); exact HO_5.out) hb); have n1_ := Aside0.mk (Kd.R_below (by (with_reducible repeat (first | apply Kd.R_alloc | apply Kd.R_drewN | apply Kd.R_drew)); exact HO_8.out) hb); have n2_ := Aside0.mk (blk_below (g := gb208) (o := .cells #[.int .i64 a0_0, .int .i64 a0_1, .slice (some ad218) l0_2.length c0_2, .int .i64 a0_3, .slice A0_4 l0_4.length c0_4] 56 (0, 0)) (by (with_reducible repeat (first | refine blk_drewN ?_ _ | refine blk_drew ?_ | refine blk_alloc ?_ _)); exact BK208.out) hb); have n3_ := Aside0.mk (blk_below (g := gb209) (o := .cells #[.slice (some ad210) l1_0.length c1_0] 59 (0, 0)) (by (with_reducible repeat (first | refine blk_drewN ?_ _ | refine blk_drew ?_ | refine blk_alloc ?_ _)); exact BK209.out) hb); have n4_ := Aside0.mk (blk_below (g := gb211) (o := .cells #[.int .i64 ((rd_T162 l1_0 x6_1).f0), .int .i64 ((rd_T162 l1_0 x6_1).f1), .int .i64 ((rd_T162 l1_0 x6_1).f2)] 162 (0, 0)) (by (with_reducible repeat (first | refine blk_drewN ?_ _ | refine blk_drew ?_ | refine blk_alloc ?_ _)); exact BK211.out) hb); have n5_ := Aside0.mk (below_step (by repeat (first | (with_reducible first | exact HB.out | apply below_alloc | apply pw_below_drewN | apply below_drew1 | refine below_set ?_ GE208.out | refine below_set ?_ GE209.out | refine below_set ?_ GE211.out) | exact HB.out)) hb); have n6_ := Aside0.mk (hbox); have n7_ := Aside0.mk ((by rw [hg]; exact (below_size (by repeat (first | (with_reducible first | exact HB.out | apply below_alloc | apply pw_below_drewN | apply below_drew1 | refine below_set ?_ GE208.out | refine below_set ?_ GE209.out | refine below_set ?_ GE211.out) | exact HB.out))) : w.heap.size ≤ gb219)); have n8_ := Aside0.mk ((by rw [hg]; exact (below_size (by repeat (first | (with_reducible first | exact HB.out | apply below_alloc | apply pw_below_drewN | apply below_drew1 | refine below_set ?_ GE208.out | refine below_set ?_ GE209.out | refine below_set ?_ GE211.out) | exact HB.out))) : w.heap.size ≤ gb219)); have n9_ := Aside0.mk ((by rw [hg]; exact Nat.ne_of_lt (blk_lt (g := gb208) (o := .cells #[.int .i64 a0_0, .int .i64 a0_1, .slice (some ad218) l0_2.length c0_2, .int .i64 a0_3, .slice A0_4 l0_4.length c0_4] 56 (0, 0)) (by (with_reducible repeat (first | refine blk_drewN ?_ _ | refine blk_drew ?_ | refine blk_alloc ?_ _)); exact BK208.out)) : gb208 ≠ gb219)); have n10_ := Aside0.mk ((by rw [hg]; exact Nat.ne_of_gt (blk_lt (g := gb208) (o := .cells #[.int .i64 a0_0, .int .i64 a0_1, .slice (some ad218) l0_2.length c0_2, .int .i64 a0_3, .slice A0_4 l0_4.length c0_4] 56 (0, 0)) (by (with_reducible repeat (first | refine blk_drewN ?_ _ | refine blk_drew ?_ | refine blk_alloc ?_ _)); exact BK208.out)) : gb219 ≠ gb208)); have n11_ := Aside0.mk ((by rw [hg]; exact Nat.ne_of_lt (blk_lt (g := gb209) (o := .cells #[.slice (some ad210) l1_0.length c1_0] 59 (0, 0)) (by (with_reducible repeat (first | refine blk_drewN ?_ _ | refine blk_drew ?_ | refine blk_alloc ?_ _)); exact BK209.out)) : gb209 ≠ gb219)); have n12_ := Aside0.mk ((by rw [hg]; exact Nat.ne_of_gt (blk_lt (g := gb209) (o := .cells #[.slice (some ad210) l1_0.length c1_0] 59 (0, 0)) (by (with_reducible repeat (first | refine blk_drewN ?_ _ | refine blk_drew ?_ | refine blk_alloc ?_ _)); exact BK209.out)) : gb219 ≠ gb209)); have n13_ := Aside0.mk ((by rw [hg]; exact Nat.ne_of_lt (blk_lt (g := gb211) (o := .cells #[.int .i64 ((rd_T162 l1_0 x6_1).f0), .int .i64 ((rd_T162 l1_0 x6_1).f1), .int .i64 ((rd_T162 l1_0 x6_1).f2)] 162 (0, 0)) (by (with_reducible repeat (first | refine blk_drewN ?_ _ | refine blk_drew ?_ | refine blk_alloc ?_ _)); exact BK211.out)) : gb211 ≠ gb219)); have n14_ := Aside0.mk ((by rw [hg]; exact Nat.ne_of_gt (blk_lt (g := gb211) (o := .cells #[.int .i64 ((rd_T162 l1_0 x6_1).f0), .int .i64 ((rd_T162 l1_0 x6_1).f1), .int .i64 ((rd_T162 l1_0 x6_1).f2)] 162 (0, 0)) (by (with_reducible repeat (first | refine blk_drewN ?_ _ | refine blk_drew ?_ | refine blk_alloc ?_ _)); exact BK211.out)) : gb219 ≠ gb211)); clear HO_5; clear HO_8; clear BK208; clear BK209; clear BK211; clear HB; have HO_5 := n0_; have HO_8 := n1_; have BK208 := n2_; have BK209 := n3_; have BK211 := n4_; have HB := n5_; have BK219 := n6_; have GW219 := n7_; have GE219 := n8_; have NB208_219 := n9_; have NB219_208 := n10_; have NB209_219 := n11_; have NB219_209 := n12_; have NB211_219 := n13_; have NB219_211 := n14_; clear n0_ n1_ n2_ n3_ n4_ n5_ n6_ n7_ n8_ n9_ n10_ n11_ n12_ n13_ n14_; clear hb hbox hg; have hnb25 := NB219_208.out; have hnc25 := NB208_219.out; have hnb26 := NB219_209.out; have hnc26 := NB209_219.out; have hnb27 := NB219_211.out; have hnc27 := NB211_219.out; have hcz28_0 : w24.cell? ⟨gb219, 0, none⟩ = some (.int .i64 0) := (blk_cell BK219.out 0).trans rfl; have hcz28_1 : w24.cell? ⟨gb219, 1, none⟩ = some (.int .i64 0) := (blk_cell BK219.out 1).trans rfl; have hcz28_2 : w24.cell? ⟨gb219, 2, none⟩ = some (.int .i64 0) := (blk_cell BK219.out 2).trans rfl; have hcz28_3 : w24.cell? ⟨gb219, 3, none⟩ = some (.int .i64 0) := (blk_cell BK219.out 3).trans rfl; have hfz28_0 := blk_frozen BK219.out 0; have hfz28_1 := blk_frozen BK219.out 1; have hfz28_2 := blk_frozen BK219.out 2; have hfz28_3 := blk_frozen BK219.out 3)))
  (try simp only [Act.put, List.setIfInBounds_toArray, List.set_cons_zero, List.set_cons_succ])
  go_cut [53] (fun v53 wc => ∃ (kq : Nat) (x53_19 : Bool), v53 = .bool x53_19 ∧ Aside0 (evermoreref12_Accepts.j2 kq x5_1 x6_1 x8_2 x9_2 x53_19 a0_0 a0_1 l0_2 a0_3 l0_4 l1_0 ((rd_T162 l1_0 x6_1).f0) ((rd_T162 l1_0 x6_1).f1) ((rd_T162 l1_0 x6_1).f2) ((rd_T157 l0_2 x9_2).f0) ((rd_T157 l0_2 x9_2).f1) ((rd_T157 l0_2 x9_2).f2) ((rd_T157 l0_2 x9_2).f3) = some r) ∧ Aside0 (kq ≤ k2) ∧ Aside0 (Kd.S (Kd.slice 4 Kd.bool) 127 wc w.heap.size (fun k_ => some k_ ≠ (v213 : Value).ownBlock) u5 x5_1) ∧ Aside0 (Kd.R Kd.bool 4 wc w.heap.size (fun _ => True) v213 x8_2) ∧ Aside0 (wc.heap[gb208]? = some (.cells #[.int .i64 a0_0, .int .i64 a0_1, (.slice (some ad218) l0_2.length c0_2), .int .i64 a0_3, (.slice A0_4 l0_4.length c0_4)] 56 (0, 0))) ∧ Aside0 (wc.heap[gb209]? = some (.cells #[(.slice (some ad210) l1_0.length c1_0)] 59 (0, 0))) ∧ Aside0 (wc.heap[gb211]? = some (.cells #[.int .i64 ((rd_T162 l1_0 x6_1).f0), .int .i64 ((rd_T162 l1_0 x6_1).f1), .int .i64 ((rd_T162 l1_0 x6_1).f2)] 162 (0, 0))) ∧ Aside0 (wc.heap[gb219]? = some (.cells #[.int .i64 ((rd_T157 l0_2 x9_2).f0), .int .i64 ((rd_T157 l0_2 x9_2).f1), .int .i64 ((rd_T157 l0_2 x9_2).f2), .int .i64 ((rd_T157 l0_2 x9_2).f3)] 157 (0, 0))) ∧ Aside0 (Below w.heap.size w wc))
  case first =>
   have H := HC20.out
   clear HC20
   by_cases c29 : ((rd_T157 l0_2 x9_2).f0) = ((rd_T162 l1_0 x6_1).f0)
   ·rw [if_pos c29] at H
    have c29b0 : (((rd_T157 l0_2 x9_2).f0) == ((rd_T162 l1_0 x6_1).f0)) = true := beq_iff_eq.mpr c29
    have c29b1 : (((rd_T157 l0_2 x9_2).f0) != ((rd_T162 l1_0 x6_1).f0)) = false := bne_eq_false_iff_eq.mpr c29
    clear c29
    (first | rw [c29b0] | (simp only [i64_w, i32_w]; rw [c29b0]) | skip)
    have H' := Aside0.mk H
    clear H
    have hnb30 := NB219_208.out
    have hnc30 := NB208_219.out
    have hnb31 := NB219_209.out
    have hnc31 := NB209_219.out
    have hnb32 := NB219_211.out
    have hnc32 := NB211_219.out
    have hcz33_0 : w24.cell? ⟨gb219, 0, none⟩ = some (.int .i64 0) := (blk_cell BK219.out 0).trans rfl
    have hcz33_1 : w24.cell? ⟨gb219, 1, none⟩ = some (.int .i64 0) := (blk_cell BK219.out 1).trans rfl
    have hcz33_2 : w24.cell? ⟨gb219, 2, none⟩ = some (.int .i64 0) := (blk_cell BK219.out 2).trans rfl
    have hcz33_3 : w24.cell? ⟨gb219, 3, none⟩ = some (.int .i64 0) := (blk_cell BK219.out 3).trans rfl
    have hfz33_0 := blk_frozen BK219.out 0
    have hfz33_1 := blk_frozen BK219.out 1
    have hfz33_2 := blk_frozen BK219.out 2
    have hfz33_3 := blk_frozen BK219.out 3
    have hnb34 := NB211_208.out
    have hnc34 := NB208_211.out
    have hnb35 := NB211_209.out
    have hnc35 := NB209_211.out
    have hcz36_0 : w24.cell? ⟨gb211, 0, none⟩ = some (.int .i64 ((rd_T162 l1_0 x6_1).f0)) := (blk_cell BK211.out 0).trans rfl
    have hcz36_1 : w24.cell? ⟨gb211, 1, none⟩ = some (.int .i64 ((rd_T162 l1_0 x6_1).f1)) := (blk_cell BK211.out 1).trans rfl
    have hcz36_2 : w24.cell? ⟨gb211, 2, none⟩ = some (.int .i64 ((rd_T162 l1_0 x6_1).f2)) := (blk_cell BK211.out 2).trans rfl
    have hfz36_0 := blk_frozen BK211.out 0
    have hfz36_1 := blk_frozen BK211.out 1
    have hfz36_2 := blk_frozen BK211.out 2
    go_wp2
    repeat (go_quiet (fail); try go_wp2)
    go_meet
    case rel => exact ⟨_, (((((rd_T157 l0_2 x9_2).f1) == (-1)) != (((rd_T162 l1_0 x6_1).f1) == (-1)))), (by first | rfl | (simp; done) | (simp [*]; done)), H', ⟨by have := HK1.out; have := HK2.out; first | omega | exact Nat.le_refl _⟩, ⟨by (with_reducible repeat (first | apply Kd.S_alloc | apply Kd.S_drewN | apply Kd.S_drew)); exact Kd.S_mono (Kd.S_far (p := ⟨gb219, 3, none⟩) (Kd.S_far (p := ⟨gb219, 2, none⟩) (Kd.S_far (p := ⟨gb219, 1, none⟩) (Kd.S_far (p := ⟨gb219, 0, none⟩) (Kd.S_types HO_5.out BK219.out (by decide)) (fun _ hk => hk.2) (.int .i64 ((rd_T157 l0_2 x9_2).f0))) (fun _ hk => hk.2) (.int .i64 ((rd_T157 l0_2 x9_2).f1))) (fun _ hk => hk.2) (.int .i64 ((rd_T157 l0_2 x9_2).f2))) (fun _ hk => hk.2) (.int .i64 ((rd_T157 l0_2 x9_2).f3))) (fun _ hk => hk.1)⟩, ⟨by (with_reducible repeat (first | apply Kd.R_alloc | apply Kd.R_drewN | apply Kd.R_drew)); exact Kd.R_mono (Kd.R_far (p := ⟨gb219, 3, none⟩) (Kd.R_far (p := ⟨gb219, 2, none⟩) (Kd.R_far (p := ⟨gb219, 1, none⟩) (Kd.R_far (p := ⟨gb219, 0, none⟩) (Kd.R_types HO_8.out BK219.out (by decide)) (fun _ hk => hk.2) (.int .i64 ((rd_T157 l0_2 x9_2).f0))) (fun _ hk => hk.2) (.int .i64 ((rd_T157 l0_2 x9_2).f1))) (fun _ hk => hk.2) (.int .i64 ((rd_T157 l0_2 x9_2).f2))) (fun _ hk => hk.2) (.int .i64 ((rd_T157 l0_2 x9_2).f3))) (fun _ hk => trivial)⟩, ⟨by (with_reducible repeat (first | refine blk_drewN ?_ _ | refine blk_drew ?_ | refine blk_alloc ?_ _)); refine blk_far ?_ NB208_219.out _; (with_reducible repeat (first | refine blk_drewN ?_ _ | refine blk_drew ?_ | refine blk_alloc ?_ _)); refine blk_far ?_ NB208_219.out _; (with_reducible repeat (first | refine blk_drewN ?_ _ | refine blk_drew ?_ | refine blk_alloc ?_ _)); refine blk_far ?_ NB208_219.out _; (with_reducible repeat (first | refine blk_drewN ?_ _ | refine blk_drew ?_ | refine blk_alloc ?_ _)); refine blk_far ?_ NB208_219.out _; (with_reducible repeat (first | refine blk_drewN ?_ _ | refine blk_drew ?_ | refine blk_alloc ?_ _)); exact BK208.out⟩, ⟨by (with_reducible repeat (first | refine blk_drewN ?_ _ | refine blk_drew ?_ | refine blk_alloc ?_ _)); refine blk_far ?_ NB209_219.out _; (with_reducible repeat (first | refine blk_drewN ?_ _ | refine blk_drew ?_ | refine blk_alloc ?_ _)); refine blk_far ?_ NB209_219.out _; (with_reducible repeat (first | refine blk_drewN ?_ _ | refine blk_drew ?_ | refine blk_alloc ?_ _)); refine blk_far ?_ NB209_219.out _; (with_reducible repeat (first | refine blk_drewN ?_ _ | refine blk_drew ?_ | refine blk_alloc ?_ _)); refine blk_far ?_ NB209_219.out _; (with_reducible repeat (first | refine blk_drewN ?_ _ | refine blk_drew ?_ | refine blk_alloc ?_ _)); exact BK209.out⟩, ⟨by (with_reducible repeat (first | refine blk_drewN ?_ _ | refine blk_drew ?_ | refine blk_alloc ?_ _)); refine blk_far ?_ NB211_219.out _; (with_reducible repeat (first | refine blk_drewN ?_ _ | refine blk_drew ?_ | refine blk_alloc ?_ _)); refine blk_far ?_ NB211_219.out _; (with_reducible repeat (first | refine blk_drewN ?_ _ | refine blk_drew ?_ | refine blk_alloc ?_ _)); refine blk_far ?_ NB211_219.out _; (with_reducible repeat (first | refine blk_drewN ?_ _ | refine blk_drew ?_ | refine blk_alloc ?_ _)); refine blk_far ?_ NB211_219.out _; (with_reducible repeat (first | refine blk_drewN ?_ _ | refine blk_drew ?_ | refine blk_alloc ?_ _)); exact BK211.out⟩, ⟨by (with_reducible repeat (first | refine blk_drewN ?_ _ | refine blk_drew ?_ | refine blk_alloc ?_ _)); refine blk_put (cs := #[.int .i64 ((rd_T157 l0_2 x9_2).f0), .int .i64 ((rd_T157 l0_2 x9_2).f1), .int .i64 ((rd_T157 l0_2 x9_2).f2), .int .i64 0]) ?_ 3 _ rfl; (with_reducible repeat (first | refine blk_drewN ?_ _ | refine blk_drew ?_ | refine blk_alloc ?_ _)); refine blk_put (cs := #[.int .i64 ((rd_T157 l0_2 x9_2).f0), .int .i64 ((rd_T157 l0_2 x9_2).f1), .int .i64 0, .int .i64 0]) ?_ 2 _ rfl; (with_reducible repeat (first | refine blk_drewN ?_ _ | refine blk_drew ?_ | refine blk_alloc ?_ _)); refine blk_put (cs := #[.int .i64 ((rd_T157 l0_2 x9_2).f0), .int .i64 0, .int .i64 0, .int .i64 0]) ?_ 1 _ rfl; (with_reducible repeat (first | refine blk_drewN ?_ _ | refine blk_drew ?_ | refine blk_alloc ?_ _)); refine blk_put (cs := #[.int .i64 0, .int .i64 0, .int .i64 0, .int .i64 0]) ?_ 0 _ rfl; (with_reducible repeat (first | refine blk_drewN ?_ _ | refine blk_drew ?_ | refine blk_alloc ?_ _)); exact BK219.out⟩, ⟨by repeat (first | (with_reducible first | exact HB.out | apply below_alloc | apply pw_below_drewN | apply below_drew1 | refine below_set ?_ GE208.out | refine below_set ?_ GE209.out | refine below_set ?_ GE211.out | refine below_set ?_ GE219.out) | exact HB.out)⟩⟩
   ·rw [if_neg c29] at H
    have c29b0 : (((rd_T157 l0_2 x9_2).f0) == ((rd_T162 l1_0 x6_1).f0)) = false := beq_eq_false_iff_ne.mpr c29
    have c29b1 : (((rd_T157 l0_2 x9_2).f0) != ((rd_T162 l1_0 x6_1).f0)) = true := bne_iff_ne.mpr c29
    (first | rw [c29b0] | (simp only [i64_w, i32_w]; rw [c29b0]) | skip)
    have H' := Aside0.mk H
    clear H
    have hnb37 := NB219_208.out
    have hnc37 := NB208_219.out
    have hnb38 := NB219_209.out
    have hnc38 := NB209_219.out
    have hnb39 := NB219_211.out
    have hnc39 := NB211_219.out
    have hcz40_0 : w24.cell? ⟨gb219, 0, none⟩ = some (.int .i64 0) := (blk_cell BK219.out 0).trans rfl
    have hcz40_1 : w24.cell? ⟨gb219, 1, none⟩ = some (.int .i64 0) := (blk_cell BK219.out 1).trans rfl
    have hcz40_2 : w24.cell? ⟨gb219, 2, none⟩ = some (.int .i64 0) := (blk_cell BK219.out 2).trans rfl
    have hcz40_3 : w24.cell? ⟨gb219, 3, none⟩ = some (.int .i64 0) := (blk_cell BK219.out 3).trans rfl
    have hfz40_0 := blk_frozen BK219.out 0
    have hfz40_1 := blk_frozen BK219.out 1
    have hfz40_2 := blk_frozen BK219.out 2
    have hfz40_3 := blk_frozen BK219.out 3
    have hnb41 := NB211_208.out
    have hnc41 := NB208_211.out
    have hnb42 := NB211_209.out
    have hnc42 := NB209_211.out
    have hcz43_0 : w24.cell? ⟨gb211, 0, none⟩ = some (.int .i64 ((rd_T162 l1_0 x6_1).f0)) := (blk_cell BK211.out 0).trans rfl
    have hcz43_1 : w24.cell? ⟨gb211, 1, none⟩ = some (.int .i64 ((rd_T162 l1_0 x6_1).f1)) := (blk_cell BK211.out 1).trans rfl
    have hcz43_2 : w24.cell? ⟨gb211, 2, none⟩ = some (.int .i64 ((rd_T162 l1_0 x6_1).f2)) := (blk_cell BK211.out 2).trans rfl
    have hfz43_0 := blk_frozen BK211.out 0
    have hfz43_1 := blk_frozen BK211.out 1
    have hfz43_2 := blk_frozen BK211.out 2
    go_wp2
    repeat (go_quiet (fail); try go_wp2)
    go_meet
    case rel => exact ⟨_, (true), (by first | rfl | (simp; done) | (simp [*]; done)), H', ⟨by have := HK1.out; have := HK2.out; first | omega | exact Nat.le_refl _⟩, ⟨by (with_reducible repeat (first | apply Kd.S_alloc | apply Kd.S_drewN | apply Kd.S_drew)); exact Kd.S_mono (Kd.S_far (p := ⟨gb219, 3, none⟩) (Kd.S_far (p := ⟨gb219, 2, none⟩) (Kd.S_far (p := ⟨gb219, 1, none⟩) (Kd.S_far (p := ⟨gb219, 0, none⟩) (Kd.S_types HO_5.out BK219.out (by decide)) (fun _ hk => hk.2) (.int .i64 ((rd_T157 l0_2 x9_2).f0))) (fun _ hk => hk.2) (.int .i64 ((rd_T157 l0_2 x9_2).f1))) (fun _ hk => hk.2) (.int .i64 ((rd_T157 l0_2 x9_2).f2))) (fun _ hk => hk.2) (.int .i64 ((rd_T157 l0_2 x9_2).f3))) (fun _ hk => hk.1)⟩, ⟨by (with_reducible repeat (first | apply Kd.R_alloc | apply Kd.R_drewN | apply Kd.R_drew)); exact Kd.R_mono (Kd.R_far (p := ⟨gb219, 3, none⟩) (Kd.R_far (p := ⟨gb219, 2, none⟩) (Kd.R_far (p := ⟨gb219, 1, none⟩) (Kd.R_far (p := ⟨gb219, 0, none⟩) (Kd.R_types HO_8.out BK219.out (by decide)) (fun _ hk => hk.2) (.int .i64 ((rd_T157 l0_2 x9_2).f0))) (fun _ hk => hk.2) (.int .i64 ((rd_T157 l0_2 x9_2).f1))) (fun _ hk => hk.2) (.int .i64 ((rd_T157 l0_2 x9_2).f2))) (fun _ hk => hk.2) (.int .i64 ((rd_T157 l0_2 x9_2).f3))) (fun _ hk => trivial)⟩, ⟨by (with_reducible repeat (first | refine blk_drewN ?_ _ | refine blk_drew ?_ | refine blk_alloc ?_ _)); refine blk_far ?_ NB208_219.out _; (with_reducible repeat (first | refine blk_drewN ?_ _ | refine blk_drew ?_ | refine blk_alloc ?_ _)); refine blk_far ?_ NB208_219.out _; (with_reducible repeat (first | refine blk_drewN ?_ _ | refine blk_drew ?_ | refine blk_alloc ?_ _)); refine blk_far ?_ NB208_219.out _; (with_reducible repeat (first | refine blk_drewN ?_ _ | refine blk_drew ?_ | refine blk_alloc ?_ _)); refine blk_far ?_ NB208_219.out _; (with_reducible repeat (first | refine blk_drewN ?_ _ | refine blk_drew ?_ | refine blk_alloc ?_ _)); exact BK208.out⟩, ⟨by (with_reducible repeat (first | refine blk_drewN ?_ _ | refine blk_drew ?_ | refine blk_alloc ?_ _)); refine blk_far ?_ NB209_219.out _; (with_reducible repeat (first | refine blk_drewN ?_ _ | refine blk_drew ?_ | refine blk_alloc ?_ _)); refine blk_far ?_ NB209_219.out _; (with_reducible repeat (first | refine blk_drewN ?_ _ | refine blk_drew ?_ | refine blk_alloc ?_ _)); refine blk_far ?_ NB209_219.out _; (with_reducible repeat (first | refine blk_drewN ?_ _ | refine blk_drew ?_ | refine blk_alloc ?_ _)); refine blk_far ?_ NB209_219.out _; (with_reducible repeat (first | refine blk_drewN ?_ _ | refine blk_drew ?_ | refine blk_alloc ?_ _)); exact BK209.out⟩, ⟨by (with_reducible repeat (first | refine blk_drewN ?_ _ | refine blk_drew ?_ | refine blk_alloc ?_ _)); refine blk_far ?_ NB211_219.out _; (with_reducible repeat (first | refine blk_drewN ?_ _ | refine blk_drew ?_ | refine blk_alloc ?_ _)); refine blk_far ?_ NB211_219.out _; (with_reducible repeat (first | refine blk_drewN ?_ _ | refine blk_drew ?_ | refine blk_alloc ?_ _)); refine blk_far ?_ NB211_219.out _; (with_reducible repeat (first | refine blk_drewN ?_ _ | refine blk_drew ?_ | refine blk_alloc ?_ _)); refine blk_far ?_ NB211_219.out _; (with_reducible repeat (first | refine blk_drewN ?_ _ | refine blk_drew ?_ | refine blk_alloc ?_ _)); exact BK211.out⟩, ⟨by (with_reducible repeat (first | refine blk_drewN ?_ _ | refine blk_drew ?_ | refine blk_alloc ?_ _)); refine blk_put (cs := #[.int .i64 ((rd_T157 l0_2 x9_2).f0), .int .i64 ((rd_T157 l0_2 x9_2).f1), .int .i64 ((rd_T157 l0_2 x9_2).f2), .int .i64 0]) ?_ 3 _ rfl; (with_reducible repeat (first | refine blk_drewN ?_ _ | refine blk_drew ?_ | refine blk_alloc ?_ _)); refine blk_put (cs := #[.int .i64 ((rd_T157 l0_2 x9_2).f0), .int .i64 ((rd_T157 l0_2 x9_2).f1), .int .i64 0, .int .i64 0]) ?_ 2 _ rfl; (with_reducible repeat (first | refine blk_drewN ?_ _ | refine blk_drew ?_ | refine blk_alloc ?_ _)); refine blk_put (cs := #[.int .i64 ((rd_T157 l0_2 x9_2).f0), .int .i64 0, .int .i64 0, .int .i64 0]) ?_ 1 _ rfl; (with_reducible repeat (first | refine blk_drewN ?_ _ | refine blk_drew ?_ | refine blk_alloc ?_ _)); refine blk_put (cs := #[.int .i64 0, .int .i64 0, .int .i64 0, .int .i64 0]) ?_ 0 _ rfl; (with_reducible repeat (first | refine blk_drewN ?_ _ | refine blk_drew ?_ | refine blk_alloc ?_ _)); exact BK219.out⟩, ⟨by repeat (first | (with_reducible first | exact HB.out | apply below_alloc | apply pw_below_drewN | apply below_drew1 | refine below_set ?_ GE208.out | refine below_set ?_ GE209.out | refine below_set ?_ GE211.out | refine below_set ?_ GE219.out) | exact HB.out)⟩⟩
  case rest =>
   clear HC20
   try clear c1
   try clear c2
   try clear p2
   try clear q2
   try clear hx2
   try clear c3
   try clear c4
   try clear c5
   try clear c5b0
   try clear c6
   try clear c6b0
   try clear c7
   try clear c7b0
   try clear c7b1
   try clear c8
   try clear c8b0
   try clear c8b1
   try clear c9
   try clear c12
   try clear c13
   try clear c18
   try clear c18b0
   try clear c19
   try clear c19b0
   try clear c21
   try clear p21
   try clear q21
   try clear hx21
   try clear c22
   try clear c25
   try clear c26
   try clear c27
   try clear c29
   try clear c29b0
   try clear c29b1
   try clear c30
   try clear c31
   try clear c32
   try clear c34
   try clear c35
   try clear c37
   try clear c38
   try clear c39
   try clear c41
   try clear c42
   try clear hcz10_0
   try clear hcz14_0
   try clear hcz14_1
   try clear hcz14_2
   try clear hcz15_0
   try clear hcz15_1
   try clear hcz15_2
   try clear hcz15_3
   try clear hcz15_4
   try clear hcz23_0
   try clear hcz23_1
   try clear hcz23_2
   try clear hcz23_3
   try clear hcz23_4
   try clear hcz28_0
   try clear hcz28_1
   try clear hcz28_2
   try clear hcz28_3
   try clear hcz33_0
   try clear hcz33_1
   try clear hcz33_2
   try clear hcz33_3
   try clear hcz36_0
   try clear hcz36_1
   try clear hcz36_2
   try clear hcz40_0
   try clear hcz40_1
   try clear hcz40_2
   try clear hcz40_3
   try clear hcz43_0
   try clear hcz43_1
   try clear hcz43_2
   try clear hfz10_0
   try clear hfz14_0
   try clear hfz14_1
   try clear hfz14_2
   try clear hfz15_0
   try clear hfz15_1
   try clear hfz15_2
   try clear hfz15_3
   try clear hfz15_4
   try clear hfz23_0
   try clear hfz23_1
   try clear hfz23_2
   try clear hfz23_3
   try clear hfz23_4
   try clear hfz28_0
   try clear hfz28_1
   try clear hfz28_2
   try clear hfz28_3
   try clear hfz33_0
   try clear hfz33_1
   try clear hfz33_2
   try clear hfz33_3
   try clear hfz36_0
   try clear hfz36_1
   try clear hfz36_2
   try clear hfz40_0
   try clear hfz40_1
   try clear hfz40_2
   try clear hfz40_3
   try clear hfz43_0
   try clear hfz43_1
   try clear hfz43_2
   try clear hx210_0
   try clear hx210_1
   try clear hx210_2
   try clear hx218_0
   try clear hx218_1
   try clear hx218_2
   try clear hx218_3
   try clear p2
   try clear p210
   try clear p218
   try clear q2
   try clear q210
   try clear q218
   obtain ⟨kq, x53_19, rfl, HA, HJ19, HO_5, HO_8, BK208, BK209, BK211, BK219, HB⟩ := hcut
   cases kq with
   | zero => exact absurd HA.out (by simp [evermoreref12_Accepts.j2])
   | succ kj19 =>
    have H := HA.out
    clear HA
    simp only [evermoreref12_Accepts.j2] at H
    by_cases c44 : x53_19 = true
    ·(
 subst c44
 have H1 : (evermoreref12_Accepts.l1 kj19 x5_1 x6_1 x8_2 (wrap64 (x9_2 + 1)) a0_0 a0_1 l0_2 a0_3 l0_4 l1_0 ((rd_T162 l1_0 x6_1).f0) ((rd_T162 l1_0 x6_1).f1) ((rd_T162 l1_0 x6_1).f2)) = some r := by rw [if_pos rfl] at H; exact H
 clear H
 have H := H1
 clear H1
 have H' := Aside0.mk H
 clear H
 go_wp2
 repeat (go_quiet (fail); try go_wp2)
 go_roundg kj19
 case measure => have := HK1.out; have := HK2.out; have := HJ19.out; omega
 case rel => exact ⟨(x8_2), (wrap64 (x9_2 + 1)), (by first | rfl | (simp; done) | (simp [*]; done)), H', ⟨by have := HK1.out; have := HK2.out; have := HJ19.out; omega⟩, ⟨by (with_reducible repeat (first | apply Kd.S_alloc | apply Kd.S_drewN | apply Kd.S_drew)); exact HO_5.out⟩, ⟨by (with_reducible repeat (first | apply Kd.R_alloc | apply Kd.R_drewN | apply Kd.R_drew)); exact HO_8.out⟩, ⟨by (with_reducible repeat (first | refine blk_drewN ?_ _ | refine blk_drew ?_ | refine blk_alloc ?_ _)); exact BK208.out⟩, ⟨by (with_reducible repeat (first | refine blk_drewN ?_ _ | refine blk_drew ?_ | refine blk_alloc ?_ _)); exact BK209.out⟩, ⟨by (with_reducible repeat (first | refine blk_drewN ?_ _ | refine blk_drew ?_ | refine blk_alloc ?_ _)); exact BK211.out⟩, ⟨by repeat (first | (with_reducible first | exact HB.out | apply below_alloc | apply pw_below_drewN | apply below_drew1 | refine below_set ?_ GE208.out | refine below_set ?_ GE209.out | refine below_set ?_ GE211.out | refine below_set ?_ GE219.out) | exact HB.out)⟩⟩)
    ·(
 replace c44 := Bool.eq_false_iff.mpr c44
 subst c44
 have H1 : (if ((rd_T157 l0_2 x9_2).f1) = (-1) then (if 0 ≤ ((rd_T157 l0_2 x9_2).f3) then (if ((rd_T157 l0_2 x9_2).f3) < (x8_2.length : Int) then (evermoreref12_Accepts.l1 kj19 x5_1 x6_1 (x8_2.set (((rd_T157 l0_2 x9_2).f3) : Int).toNat true) (wrap64 (x9_2 + 1)) a0_0 a0_1 l0_2 a0_3 l0_4 l1_0 ((rd_T162 l1_0 x6_1).f0) ((rd_T162 l1_0 x6_1).f1) ((rd_T162 l1_0 x6_1).f2)) else (none)) else (none)) else (if 0 ≤ ((rd_T162 l1_0 x6_1).f1) then (if ((rd_T162 l1_0 x6_1).f1) < (x5_1.length : Int) then (if 0 ≤ ((rd_T157 l0_2 x9_2).f1) then (if ((rd_T157 l0_2 x9_2).f1) < ((rd_L4 x5_1 ((rd_T162 l1_0 x6_1).f1)).length : Int) then (if rdOf false (rd_L4 x5_1 ((rd_T162 l1_0 x6_1).f1)) ((rd_T157 l0_2 x9_2).f1) = true then (if 0 ≤ ((rd_T162 l1_0 x6_1).f2) then (if ((rd_T162 l1_0 x6_1).f2) < (x5_1.length : Int) then (if 0 ≤ ((rd_T157 l0_2 x9_2).f2) then (if ((rd_T157 l0_2 x9_2).f2) < ((rd_L4 x5_1 ((rd_T162 l1_0 x6_1).f2)).length : Int) then (if rdOf false (rd_L4 x5_1 ((rd_T162 l1_0 x6_1).f2)) ((rd_T157 l0_2 x9_2).f2) = true then (if 0 ≤ ((rd_T157 l0_2 x9_2).f3) then (if ((rd_T157 l0_2 x9_2).f3) < (x8_2.length : Int) then (evermoreref12_Accepts.l1 kj19 x5_1 x6_1 (x8_2.set (((rd_T157 l0_2 x9_2).f3) : Int).toNat true) (wrap64 (x9_2 + 1)) a0_0 a0_1 l0_2 a0_3 l0_4 l1_0 ((rd_T162 l1_0 x6_1).f0) ((rd_T162 l1_0 x6_1).f1) ((rd_T162 l1_0 x6_1).f2)) else (none)) else (none)) else (evermoreref12_Accepts.l1 kj19 x5_1 x6_1 x8_2 (wrap64 (x9_2 + 1)) a0_0 a0_1 l0_2 a0_3 l0_4 l1_0 ((rd_T162 l1_0 x6_1).f0) ((rd_T162 l1_0 x6_1).f1) ((rd_T162 l1_0 x6_1).f2))) else (none)) else (none)) else (none)) else (none)) else (evermoreref12_Accepts.l1 kj19 x5_1 x6_1 x8_2 (wrap64 (x9_2 + 1)) a0_0 a0_1 l0_2 a0_3 l0_4 l1_0 ((rd_T162 l1_0 x6_1).f0) ((rd_T162 l1_0 x6_1).f1) ((rd_T162 l1_0 x6_1).f2))) else (none)) else (none)) else (none)) else (none))) = some r := by rw [if_neg (show ¬ (false = true) by decide)] at H; exact H
 clear H
 have H := H1
 clear H1
 by_cases c45 : ((rd_T157 l0_2 x9_2).f1) = (-1)
 ·rw [if_pos c45] at H
  have c45b0 : (((rd_T157 l0_2 x9_2).f1) == (-1)) = true := beq_iff_eq.mpr c45
  have c45b1 : (((rd_T157 l0_2 x9_2).f1) != (-1)) = false := bne_eq_false_iff_eq.mpr c45
  clear c45
  by_cases c46 : 0 ≤ ((rd_T157 l0_2 x9_2).f3)
  ·rw [if_pos c46] at H
   have c46b0 : decide (0 ≤ ((rd_T157 l0_2 x9_2).f3)) = true := decide_eq_true c46
   clear c46
   by_cases c47 : ((rd_T157 l0_2 x9_2).f3) < (x8_2.length : Int)
   ·rw [if_pos c47] at H
    have c47b0 : decide (((rd_T157 l0_2 x9_2).f3) < (x8_2.length : Int)) = true := decide_eq_true c47
    clear c47
    obtain ⟨y220, hy220⟩ : ∃ y_ : List Bool, y_ = (x8_2.set (((rd_T157 l0_2 x9_2).f3) : Int).toNat true) := ⟨_, rfl⟩
    replace H : (evermoreref12_Accepts.l1 kj19 x5_1 x6_1 y220 (wrap64 (x9_2 + 1)) a0_0 a0_1 l0_2 a0_3 l0_4 l1_0 ((rd_T162 l1_0 x6_1).f0) ((rd_T162 l1_0 x6_1).f1) ((rd_T162 l1_0 x6_1).f2)) = some r := by first | (rw [hy220]; with_reducible exact H) | (have H2_ := (Option.bind_some _ _).symm.trans H; rw [hy220]; with_reducible exact H2_) | (have H2_ := (Option.bind_some _ _).symm.trans H; with_reducible exact H2_) | with_reducible exact H | (rw [hy220]; exact H) | exact H
    have Ny220 := Aside0.mk hy220
    clear hy220
    have H' := Aside0.mk H
    clear H
    have hnb49 := NB219_208.out
    have hnc49 := NB208_219.out
    have hnb50 := NB219_209.out
    have hnc50 := NB209_219.out
    have hnb51 := NB219_211.out
    have hnc51 := NB211_219.out
    have hcz52_0 : wc.cell? ⟨gb219, 0, none⟩ = some (.int .i64 ((rd_T157 l0_2 x9_2).f0)) := (blk_cell BK219.out 0).trans rfl
    have hcz52_1 : wc.cell? ⟨gb219, 1, none⟩ = some (.int .i64 ((rd_T157 l0_2 x9_2).f1)) := (blk_cell BK219.out 1).trans rfl
    have hcz52_2 : wc.cell? ⟨gb219, 2, none⟩ = some (.int .i64 ((rd_T157 l0_2 x9_2).f2)) := (blk_cell BK219.out 2).trans rfl
    have hcz52_3 : wc.cell? ⟨gb219, 3, none⟩ = some (.int .i64 ((rd_T157 l0_2 x9_2).f3)) := (blk_cell BK219.out 3).trans rfl
    have hfz52_0 := blk_frozen BK219.out 0
    have hfz52_1 := blk_frozen BK219.out 1
    have hfz52_2 := blk_frozen BK219.out 2
    have hfz52_3 := blk_frozen BK219.out 3
    have p48 : 0 ≤ (((rd_T157 l0_2 x9_2).f3) : Int) := of_decide_eq_true (by first | (with_reducible assumption) | assumption)
    have q48 : (((rd_T157 l0_2 x9_2).f3) : Int) < ((x8_2.length : Int) : Int) := of_decide_eq_true (by first | (with_reducible assumption) | assumption)
    obtain ⟨go48, co48, eo48, gb48, gl48, cl48, HG48⟩ := Kd.R_form HO_8.out (by omega)
    (first | cases eo48 | (injection eo48 with ea_ en_ ec_; (first | subst ea_ | (injection ea_ with ea_; subst ea_)); subst ec_; clear en_))
    have GB48 := Aside0.mk gb48
    have GG48 := Aside0.mk HG48
    clear gb48 gl48 HG48
    obtain ⟨hx48_0, hf48_0⟩ := Kd.R_celln false HO_8.out (((rd_T157 l0_2 x9_2).f3) : Int) p48 q48
    replace p48 := eq_true p48
    replace q48 := eq_true q48
    have HP53 := Kd.R_putg HO_8.out (((rd_T157 l0_2 x9_2).f3) : Int) true
    go_wp2_with (first | ((with_reducible refine gate_store (t := 4) (p := 82) rfl ?_); (try (rw [drewN_self wc]; generalize hq_ : World.drewN wc _ = wc; have n0_ := Aside0.mk (Kd.S_at hq_ HO_5.out); have n1_ := Aside0.mk (Kd.R_at hq_ HO_8.out); have n2_ := Aside0.mk (blk_at hq_ BK208.out); have n3_ := Aside0.mk (blk_at hq_ BK209.out); have n4_ := Aside0.mk (blk_at hq_ BK211.out); have n5_ := Aside0.mk (blk_at hq_ BK219.out); have n6_ := Aside0.mk (below_at hq_ HB.out); clear hq_ HO_5 HO_8 BK208 BK209 BK211 BK219 HB; have HO_5 := n0_; have HO_8 := n1_; have BK208 := n2_; have BK209 := n3_; have BK211 := n4_; have BK219 := n5_; have HB := n6_; clear n0_ n1_ n2_ n3_ n4_ n5_ n6_; (try (have HP53 := Kd.R_putg HO_8.out (((rd_T157 l0_2 x9_2).f3) : Int) true)); (try (obtain ⟨hx48_0, hf48_0⟩ := Kd.R_celln false HO_8.out (((rd_T157 l0_2 x9_2).f3) : Int) (of_eq_true p48) (of_eq_true q48))))); refine store_event (t := 4) (p := 82) (v := ?vo_w54) (w1 := (wc.setCell ⟨go48, (((rd_T157 l0_2 x9_2).f3) : Int).toNat, none⟩ (.bool true))) ?hg ?ho ?hn ?hr ?_; (case ho => rfl); (case hg => rfl); (case hn => rfl); (case hr => first | (go_simp; done) | (go_simp; rfl)); intro w54 hw; have hg : wc.grownBy w54 (some go48) := (by rw [hw]; exact HP53.2); have hp_ : Kd.R Kd.bool 4 w54 w.heap.size (fun _ => True) (.slice (some ⟨go48, 0, none⟩) x8_2.length co48) y220 := (by rw [hw, Ny220.out]; exact HP53.1); clear HP53; have n0_ := Aside0.mk (Kd.S_after (v := (.slice (some ⟨go48, 0, none⟩) x8_2.length co48)) (v1 := (.slice (some ⟨go48, 0, none⟩) x8_2.length co48)) (ok := (fun _ => True)) (by (with_reducible repeat (first | apply Kd.S_alloc | apply Kd.S_drewN | apply Kd.S_drew)); exact Kd.S_mono HO_5.out (fun _ hk => ⟨trivial, hk⟩)) hg (.inl rfl)); have n1_ := Aside0.mk (hp_); have n2_ := Aside0.mk (blk_grown (g := gb208) (o := .cells #[.int .i64 a0_0, .int .i64 a0_1, .slice (some ad218) l0_2.length c0_2, .int .i64 a0_3, .slice A0_4 l0_4.length c0_4] 56 (0, 0)) (by (with_reducible repeat (first | refine blk_drewN ?_ _ | refine blk_drew ?_ | refine blk_alloc ?_ _)); exact BK208.out) hg (Kd.R_ne HO_8.out BK208.out (by decide))); have n3_ := Aside0.mk (blk_grown (g := gb209) (o := .cells #[.slice (some ad210) l1_0.length c1_0] 59 (0, 0)) (by (with_reducible repeat (first | refine blk_drewN ?_ _ | refine blk_drew ?_ | refine blk_alloc ?_ _)); exact BK209.out) hg (Kd.R_ne HO_8.out BK209.out (by decide))); have n4_ := Aside0.mk (blk_grown (g := gb211) (o := .cells #[.int .i64 ((rd_T162 l1_0 x6_1).f0), .int .i64 ((rd_T162 l1_0 x6_1).f1), .int .i64 ((rd_T162 l1_0 x6_1).f2)] 162 (0, 0)) (by (with_reducible repeat (first | refine blk_drewN ?_ _ | refine blk_drew ?_ | refine blk_alloc ?_ _)); exact BK211.out) hg (Kd.R_ne HO_8.out BK211.out (by decide))); have n5_ := Aside0.mk (blk_grown (g := gb219) (o := .cells #[.int .i64 ((rd_T157 l0_2 x9_2).f0), .int .i64 ((rd_T157 l0_2 x9_2).f1), .int .i64 ((rd_T157 l0_2 x9_2).f2), .int .i64 ((rd_T157 l0_2 x9_2).f3)] 157 (0, 0)) (by (with_reducible repeat (first | refine blk_drewN ?_ _ | refine blk_drew ?_ | refine blk_alloc ?_ _)); exact BK219.out) hg (Kd.R_ne HO_8.out BK219.out (by decide))); have n6_ := Aside0.mk ((by rw [hw]; exact below_set (HB.out) GB48.out : Below w.heap.size w w54)); clear HO_5; clear HO_8; clear BK208; clear BK209; clear BK211; clear BK219; clear HB; have HO_5 := n0_; have HO_8 := n1_; have BK208 := n2_; have BK209 := n3_; have BK211 := n4_; have BK219 := n5_; have HB := n6_; clear n0_ n1_ n2_ n3_ n4_ n5_ n6_; clear hg hw hp_))
    repeat (go_quiet (first | ((with_reducible refine gate_store (t := 4) (p := 82) rfl ?_); (try (rw [drewN_self wc]; generalize hq_ : World.drewN wc _ = wc; have n0_ := Aside0.mk (Kd.S_at hq_ HO_5.out); have n1_ := Aside0.mk (Kd.R_at hq_ HO_8.out); have n2_ := Aside0.mk (blk_at hq_ BK208.out); have n3_ := Aside0.mk (blk_at hq_ BK209.out); have n4_ := Aside0.mk (blk_at hq_ BK211.out); have n5_ := Aside0.mk (blk_at hq_ BK219.out); have n6_ := Aside0.mk (below_at hq_ HB.out); clear hq_ HO_5 HO_8 BK208 BK209 BK211 BK219 HB; have HO_5 := n0_; have HO_8 := n1_; have BK208 := n2_; have BK209 := n3_; have BK211 := n4_; have BK219 := n5_; have HB := n6_; clear n0_ n1_ n2_ n3_ n4_ n5_ n6_; (try (have HP53 := Kd.R_putg HO_8.out (((rd_T157 l0_2 x9_2).f3) : Int) true)); (try (obtain ⟨hx48_0, hf48_0⟩ := Kd.R_celln false HO_8.out (((rd_T157 l0_2 x9_2).f3) : Int) (of_eq_true p48) (of_eq_true q48))))); refine store_event (t := 4) (p := 82) (v := ?vo_w54) (w1 := (wc.setCell ⟨go48, (((rd_T157 l0_2 x9_2).f3) : Int).toNat, none⟩ (.bool true))) ?hg ?ho ?hn ?hr ?_; (case ho => rfl); (case hg => rfl); (case hn => rfl); (case hr => first | (go_simp; done) | (go_simp; rfl)); intro w54 hw; have hg : wc.grownBy w54 (some go48) := (by rw [hw]; exact HP53.2); have hp_ : Kd.R Kd.bool 4 w54 w.heap.size (fun _ => True) (.slice (some ⟨go48, 0, none⟩) x8_2.length co48) y220 := (by rw [hw, Ny220.out]; exact HP53.1); clear HP53; have n0_ := Aside0.mk (Kd.S_after (v := (.slice (some ⟨go48, 0, none⟩) x8_2.length co48)) (v1 := (.slice (some ⟨go48, 0, none⟩) x8_2.length co48)) (ok := (fun _ => True)) (by (with_reducible repeat (first | apply Kd.S_alloc | apply Kd.S_drewN | apply Kd.S_drew)); exact Kd.S_mono HO_5.out (fun _ hk => ⟨trivial, hk⟩)) hg (.inl rfl)); have n1_ := Aside0.mk (hp_); have n2_ := Aside0.mk (blk_grown (g := gb208) (o := .cells #[.int .i64 a0_0, .int .i64 a0_1, .slice (some ad218) l0_2.length c0_2, .int .i64 a0_3, .slice A0_4 l0_4.length c0_4] 56 (0, 0)) (by (with_reducible repeat (first | refine blk_drewN ?_ _ | refine blk_drew ?_ | refine blk_alloc ?_ _)); exact BK208.out) hg (Kd.R_ne HO_8.out BK208.out (by decide))); have n3_ := Aside0.mk (blk_grown (g := gb209) (o := .cells #[.slice (some ad210) l1_0.length c1_0] 59 (0, 0)) (by (with_reducible repeat (first | refine blk_drewN ?_ _ | refine blk_drew ?_ | refine blk_alloc ?_ _)); exact BK209.out) hg (Kd.R_ne HO_8.out BK209.out (by decide))); have n4_ := Aside0.mk (blk_grown (g := gb211) (o := .cells #[.int .i64 ((rd_T162 l1_0 x6_1).f0), .int .i64 ((rd_T162 l1_0 x6_1).f1), .int .i64 ((rd_T162 l1_0 x6_1).f2)] 162 (0, 0)) (by (with_reducible repeat (first | refine blk_drewN ?_ _ | refine blk_drew ?_ | refine blk_alloc ?_ _)); exact BK211.out) hg (Kd.R_ne HO_8.out BK211.out (by decide))); have n5_ := Aside0.mk (blk_grown (g := gb219) (o := .cells #[.int .i64 ((rd_T157 l0_2 x9_2).f0), .int .i64 ((rd_T157 l0_2 x9_2).f1), .int .i64 ((rd_T157 l0_2 x9_2).f2), .int .i64 ((rd_T157 l0_2 x9_2).f3)] 157 (0, 0)) (by (with_reducible repeat (first | refine blk_drewN ?_ _ | refine blk_drew ?_ | refine blk_alloc ?_ _)); exact BK219.out) hg (Kd.R_ne HO_8.out BK219.out (by decide))); have n6_ := Aside0.mk ((by rw [hw]; exact below_set (HB.out) GB48.out : Below w.heap.size w w54)); clear HO_5; clear HO_8; clear BK208; clear BK209; clear BK211; clear BK219; clear HB; have HO_5 := n0_; have HO_8 := n1_; have BK208 := n2_; have BK209 := n3_; have BK211 := n4_; have BK219 := n5_; have HB := n6_; clear n0_ n1_ n2_ n3_ n4_ n5_ n6_; clear hg hw hp_)); try go_wp2_with (first | ((with_reducible refine gate_store (t := 4) (p := 82) rfl ?_); (try (rw [drewN_self wc]; generalize hq_ : World.drewN wc _ = wc; have n0_ := Aside0.mk (Kd.S_at hq_ HO_5.out); have n1_ := Aside0.mk (Kd.R_at hq_ HO_8.out); have n2_ := Aside0.mk (blk_at hq_ BK208.out); have n3_ := Aside0.mk (blk_at hq_ BK209.out); have n4_ := Aside0.mk (blk_at hq_ BK211.out); have n5_ := Aside0.mk (blk_at hq_ BK219.out); have n6_ := Aside0.mk (below_at hq_ HB.out); clear hq_ HO_5 HO_8 BK208 BK209 BK211 BK219 HB; have HO_5 := n0_; have HO_8 := n1_; have BK208 := n2_; have BK209 := n3_; have BK211 := n4_; have BK219 := n5_; have HB := n6_; clear n0_ n1_ n2_ n3_ n4_ n5_ n6_; (try (have HP53 := Kd.R_putg HO_8.out (((rd_T157 l0_2 x9_2).f3) : Int) true)); (try (obtain ⟨hx48_0, hf48_0⟩ := Kd.R_celln false HO_8.out (((rd_T157 l0_2 x9_2).f3) : Int) (of_eq_true p48) (of_eq_true q48))))); refine store_event (t := 4) (p := 82) (v := ?vo_w54) (w1 := (wc.setCell ⟨go48, (((rd_T157 l0_2 x9_2).f3) : Int).toNat, none⟩ (.bool true))) ?hg ?ho ?hn ?hr ?_; (case ho => rfl); (case hg => rfl); (case hn => rfl); (case hr => first | (go_simp; done) | (go_simp; rfl)); intro w54 hw; have hg : wc.grownBy w54 (some go48) := (by rw [hw]; exact HP53.2); have hp_ : Kd.R Kd.bool 4 w54 w.heap.size (fun _ => True) (.slice (some ⟨go48, 0, none⟩) x8_2.length co48) y220 := (by rw [hw, Ny220.out]; exact HP53.1); clear HP53; have n0_ := Aside0.mk (Kd.S_after (v := (.slice (some ⟨go48, 0, none⟩) x8_2.length co48)) (v1 := (.slice (some ⟨go48, 0, none⟩) x8_2.length co48)) (ok := (fun _ => True)) (by (with_reducible repeat (first | apply Kd.S_alloc | apply Kd.S_drewN | apply Kd.S_drew)); exact Kd.S_mono HO_5.out (fun _ hk => ⟨trivial, hk⟩)) hg (.inl rfl)); have n1_ := Aside0.mk (hp_); have n2_ := Aside0.mk (blk_grown (g := gb208) (o := .cells #[.int .i64 a0_0, .int .i64 a0_1, .slice (some ad218) l0_2.length c0_2, .int .i64 a0_3, .slice A0_4 l0_4.length c0_4] 56 (0, 0)) (by (with_reducible repeat (first | refine blk_drewN ?_ _ | refine blk_drew ?_ | refine blk_alloc ?_ _)); exact BK208.out) hg (Kd.R_ne HO_8.out BK208.out (by decide))); have n3_ := Aside0.mk (blk_grown (g := gb209) (o := .cells #[.slice (some ad210) l1_0.length c1_0] 59 (0, 0)) (by (with_reducible repeat (first | refine blk_drewN ?_ _ | refine blk_drew ?_ | refine blk_alloc ?_ _)); exact BK209.out) hg (Kd.R_ne HO_8.out BK209.out (by decide))); have n4_ := Aside0.mk (blk_grown (g := gb211) (o := .cells #[.int .i64 ((rd_T162 l1_0 x6_1).f0), .int .i64 ((rd_T162 l1_0 x6_1).f1), .int .i64 ((rd_T162 l1_0 x6_1).f2)] 162 (0, 0)) (by (with_reducible repeat (first | refine blk_drewN ?_ _ | refine blk_drew ?_ | refine blk_alloc ?_ _)); exact BK211.out) hg (Kd.R_ne HO_8.out BK211.out (by decide))); have n5_ := Aside0.mk (blk_grown (g := gb219) (o := .cells #[.int .i64 ((rd_T157 l0_2 x9_2).f0), .int .i64 ((rd_T157 l0_2 x9_2).f1), .int .i64 ((rd_T157 l0_2 x9_2).f2), .int .i64 ((rd_T157 l0_2 x9_2).f3)] 157 (0, 0)) (by (with_reducible repeat (first | refine blk_drewN ?_ _ | refine blk_drew ?_ | refine blk_alloc ?_ _)); exact BK219.out) hg (Kd.R_ne HO_8.out BK219.out (by decide))); have n6_ := Aside0.mk ((by rw [hw]; exact below_set (HB.out) GB48.out : Below w.heap.size w w54)); clear HO_5; clear HO_8; clear BK208; clear BK209; clear BK211; clear BK219; clear HB; have HO_5 := n0_; have HO_8 := n1_; have BK208 := n2_; have BK209 := n3_; have BK211 := n4_; have BK219 := n5_; have HB := n6_; clear n0_ n1_ n2_ n3_ n4_ n5_ n6_; clear hg hw hp_)))
    go_roundg kj19
    case measure => have := HK1.out; have := HK2.out; have := HJ19.out; omega
    case rel => exact ⟨(y220), (wrap64 (x9_2 + 1)), (by first | rfl | (simp; done) | (simp [*]; done)), H', ⟨by have := HK1.out; have := HK2.out; have := HJ19.out; omega⟩, ⟨by (with_reducible repeat (first | apply Kd.S_alloc | apply Kd.S_drewN | apply Kd.S_drew)); exact Kd.S_mono HO_5.out (fun _ hk => hk.2)⟩, ⟨by (with_reducible repeat (first | apply Kd.R_alloc | apply Kd.R_drewN | apply Kd.R_drew)); exact HO_8.out⟩, ⟨by (with_reducible repeat (first | refine blk_drewN ?_ _ | refine blk_drew ?_ | refine blk_alloc ?_ _)); exact BK208.out⟩, ⟨by (with_reducible repeat (first | refine blk_drewN ?_ _ | refine blk_drew ?_ | refine blk_alloc ?_ _)); exact BK209.out⟩, ⟨by (with_reducible repeat (first | refine blk_drewN ?_ _ | refine blk_drew ?_ | refine blk_alloc ?_ _)); exact BK211.out⟩, ⟨by repeat (first | (with_reducible first | exact HB.out | apply below_alloc | apply pw_below_drewN | apply below_drew1 | refine below_set ?_ GE208.out | refine below_set ?_ GE209.out | refine below_set ?_ GE211.out | refine below_set ?_ GE219.out) | exact HB.out)⟩⟩
   ·rw [if_neg c47] at H
    exact absurd H (by simp)
  ·rw [if_neg c46] at H
   exact absurd H (by simp)
 ·rw [if_neg c45] at H
  have c45b0 : (((rd_T157 l0_2 x9_2).f1) == (-1)) = false := beq_eq_false_iff_ne.mpr c45
  have c45b1 : (((rd_T157 l0_2 x9_2).f1) != (-1)) = true := bne_iff_ne.mpr c45
  by_cases c55 : 0 ≤ ((rd_T162 l1_0 x6_1).f1)
  ·rw [if_pos c55] at H
   have c55b0 : decide (0 ≤ ((rd_T162 l1_0 x6_1).f1)) = true := decide_eq_true c55
   clear c55
   by_cases c56 : ((rd_T162 l1_0 x6_1).f1) < (x5_1.length : Int)
   ·rw [if_pos c56] at H
    have c56b0 : decide (((rd_T162 l1_0 x6_1).f1) < (x5_1.length : Int)) = true := decide_eq_true c56
    clear c56
    by_cases c57 : 0 ≤ ((rd_T157 l0_2 x9_2).f1)
    ·(
 rw [if_pos c57] at H
 have c57b0 : decide (0 ≤ ((rd_T157 l0_2 x9_2).f1)) = true := decide_eq_true c57
 clear c57
 by_cases c58 : ((rd_T157 l0_2 x9_2).f1) < ((rd_L4 x5_1 ((rd_T162 l1_0 x6_1).f1)).length : Int)
 ·rw [if_pos c58] at H
  have c58b0 : decide (((rd_T157 l0_2 x9_2).f1) < ((rd_L4 x5_1 ((rd_T162 l1_0 x6_1).f1)).length : Int)) = true := decide_eq_true c58
  clear c58
  obtain ⟨bq59, hbq59⟩ : ∃ b_ : Bool, b_ = (rdOf false (rd_L4 x5_1 ((rd_T162 l1_0 x6_1).f1)) ((rd_T157 l0_2 x9_2).f1)) := ⟨_, rfl⟩
  replace H : (if bq59 = true then (if 0 ≤ ((rd_T162 l1_0 x6_1).f2) then (if ((rd_T162 l1_0 x6_1).f2) < (x5_1.length : Int) then (if 0 ≤ ((rd_T157 l0_2 x9_2).f2) then (if ((rd_T157 l0_2 x9_2).f2) < ((rd_L4 x5_1 ((rd_T162 l1_0 x6_1).f2)).length : Int) then (if rdOf false (rd_L4 x5_1 ((rd_T162 l1_0 x6_1).f2)) ((rd_T157 l0_2 x9_2).f2) = true then (if 0 ≤ ((rd_T157 l0_2 x9_2).f3) then (if ((rd_T157 l0_2 x9_2).f3) < (x8_2.length : Int) then (evermoreref12_Accepts.l1 kj19 x5_1 x6_1 (x8_2.set (((rd_T157 l0_2 x9_2).f3) : Int).toNat true) (wrap64 (x9_2 + 1)) a0_0 a0_1 l0_2 a0_3 l0_4 l1_0 ((rd_T162 l1_0 x6_1).f0) ((rd_T162 l1_0 x6_1).f1) ((rd_T162 l1_0 x6_1).f2)) else (none)) else (none)) else (evermoreref12_Accepts.l1 kj19 x5_1 x6_1 x8_2 (wrap64 (x9_2 + 1)) a0_0 a0_1 l0_2 a0_3 l0_4 l1_0 ((rd_T162 l1_0 x6_1).f0) ((rd_T162 l1_0 x6_1).f1) ((rd_T162 l1_0 x6_1).f2))) else (none)) else (none)) else (none)) else (none)) else (evermoreref12_Accepts.l1 kj19 x5_1 x6_1 x8_2 (wrap64 (x9_2 + 1)) a0_0 a0_1 l0_2 a0_3 l0_4 l1_0 ((rd_T162 l1_0 x6_1).f0) ((rd_T162 l1_0 x6_1).f1) ((rd_T162 l1_0 x6_1).f2))) = some r := by rw [← hbq59] at H; exact H
  have Nbq59 := Aside0.mk hbq59
  clear hbq59
  by_cases c60 : bq59 = true
  ·subst c60
   have H1 : (if 0 ≤ ((rd_T162 l1_0 x6_1).f2) then (if ((rd_T162 l1_0 x6_1).f2) < (x5_1.length : Int) then (if 0 ≤ ((rd_T157 l0_2 x9_2).f2) then (if ((rd_T157 l0_2 x9_2).f2) < ((rd_L4 x5_1 ((rd_T162 l1_0 x6_1).f2)).length : Int) then (if rdOf false (rd_L4 x5_1 ((rd_T162 l1_0 x6_1).f2)) ((rd_T157 l0_2 x9_2).f2) = true then (if 0 ≤ ((rd_T157 l0_2 x9_2).f3) then (if ((rd_T157 l0_2 x9_2).f3) < (x8_2.length : Int) then (evermoreref12_Accepts.l1 kj19 x5_1 x6_1 (x8_2.set (((rd_T157 l0_2 x9_2).f3) : Int).toNat true) (wrap64 (x9_2 + 1)) a0_0 a0_1 l0_2 a0_3 l0_4 l1_0 ((rd_T162 l1_0 x6_1).f0) ((rd_T162 l1_0 x6_1).f1) ((rd_T162 l1_0 x6_1).f2)) else (none)) else (none)) else (evermoreref12_Accepts.l1 kj19 x5_1 x6_1 x8_2 (wrap64 (x9_2 + 1)) a0_0 a0_1 l0_2 a0_3 l0_4 l1_0 ((rd_T162 l1_0 x6_1).f0) ((rd_T162 l1_0 x6_1).f1) ((rd_T162 l1_0 x6_1).f2))) else (none)) else (none)) else (none)) else (none)) = some r := by rw [if_pos rfl] at H; exact H
   clear H
   have H := H1
   clear H1
   by_cases c61 : 0 ≤ ((rd_T162 l1_0 x6_1).f2)
   ·rw [if_pos c61] at H
    have c61b0 : decide (0 ≤ ((rd_T162 l1_0 x6_1).f2)) = true := decide_eq_true c61
    clear c61
    by_cases c62 : ((rd_T162 l1_0 x6_1).f2) < (x5_1.length : Int)
    ·(
 rw [if_pos c62] at H
 have c62b0 : decide (((rd_T162 l1_0 x6_1).f2) < (x5_1.length : Int)) = true := decide_eq_true c62
 clear c62
 by_cases c63 : 0 ≤ ((rd_T157 l0_2 x9_2).f2)
 ·rw [if_pos c63] at H
  have c63b0 : decide (0 ≤ ((rd_T157 l0_2 x9_2).f2)) = true := decide_eq_true c63
  clear c63
  by_cases c64 : ((rd_T157 l0_2 x9_2).f2) < ((rd_L4 x5_1 ((rd_T162 l1_0 x6_1).f2)).length : Int)
  ·rw [if_pos c64] at H
   have c64b0 : decide (((rd_T157 l0_2 x9_2).f2) < ((rd_L4 x5_1 ((rd_T162 l1_0 x6_1).f2)).length : Int)) = true := decide_eq_true c64
   clear c64
   obtain ⟨bq65, hbq65⟩ : ∃ b_ : Bool, b_ = (rdOf false (rd_L4 x5_1 ((rd_T162 l1_0 x6_1).f2)) ((rd_T157 l0_2 x9_2).f2)) := ⟨_, rfl⟩
   replace H : (if bq65 = true then (if 0 ≤ ((rd_T157 l0_2 x9_2).f3) then (if ((rd_T157 l0_2 x9_2).f3) < (x8_2.length : Int) then (evermoreref12_Accepts.l1 kj19 x5_1 x6_1 (x8_2.set (((rd_T157 l0_2 x9_2).f3) : Int).toNat true) (wrap64 (x9_2 + 1)) a0_0 a0_1 l0_2 a0_3 l0_4 l1_0 ((rd_T162 l1_0 x6_1).f0) ((rd_T162 l1_0 x6_1).f1) ((rd_T162 l1_0 x6_1).f2)) else (none)) else (none)) else (evermoreref12_Accepts.l1 kj19 x5_1 x6_1 x8_2 (wrap64 (x9_2 + 1)) a0_0 a0_1 l0_2 a0_3 l0_4 l1_0 ((rd_T162 l1_0 x6_1).f0) ((rd_T162 l1_0 x6_1).f1) ((rd_T162 l1_0 x6_1).f2))) = some r := by rw [← hbq65] at H; exact H
   have Nbq65 := Aside0.mk hbq65
   clear hbq65
   by_cases c66 : bq65 = true
   ·subst c66
    have H1 : (if 0 ≤ ((rd_T157 l0_2 x9_2).f3) then (if ((rd_T157 l0_2 x9_2).f3) < (x8_2.length : Int) then (evermoreref12_Accepts.l1 kj19 x5_1 x6_1 (x8_2.set (((rd_T157 l0_2 x9_2).f3) : Int).toNat true) (wrap64 (x9_2 + 1)) a0_0 a0_1 l0_2 a0_3 l0_4 l1_0 ((rd_T162 l1_0 x6_1).f0) ((rd_T162 l1_0 x6_1).f1) ((rd_T162 l1_0 x6_1).f2)) else (none)) else (none)) = some r := by rw [if_pos rfl] at H; exact H
    clear H
    have H := H1
    clear H1
    by_cases c67 : 0 ≤ ((rd_T157 l0_2 x9_2).f3)
    ·(
 rw [if_pos c67] at H
 have c67b0 : decide (0 ≤ ((rd_T157 l0_2 x9_2).f3)) = true := decide_eq_true c67
 clear c67
 by_cases c68 : ((rd_T157 l0_2 x9_2).f3) < (x8_2.length : Int)
 ·rw [if_pos c68] at H
  have c68b0 : decide (((rd_T157 l0_2 x9_2).f3) < (x8_2.length : Int)) = true := decide_eq_true c68
  clear c68
  obtain ⟨y225, hy225⟩ : ∃ y_ : List Bool, y_ = (x8_2.set (((rd_T157 l0_2 x9_2).f3) : Int).toNat true) := ⟨_, rfl⟩
  replace H : (evermoreref12_Accepts.l1 kj19 x5_1 x6_1 y225 (wrap64 (x9_2 + 1)) a0_0 a0_1 l0_2 a0_3 l0_4 l1_0 ((rd_T162 l1_0 x6_1).f0) ((rd_T162 l1_0 x6_1).f1) ((rd_T162 l1_0 x6_1).f2)) = some r := by first | (rw [hy225]; with_reducible exact H) | (have H2_ := (Option.bind_some _ _).symm.trans H; rw [hy225]; with_reducible exact H2_) | (have H2_ := (Option.bind_some _ _).symm.trans H; with_reducible exact H2_) | with_reducible exact H | (rw [hy225]; exact H) | exact H
  have Ny225 := Aside0.mk hy225
  clear hy225
  have H' := Aside0.mk H
  clear H
  have hnb70 := NB219_208.out
  have hnc70 := NB208_219.out
  have hnb71 := NB219_209.out
  have hnc71 := NB209_219.out
  have hnb72 := NB219_211.out
  have hnc72 := NB211_219.out
  have hcz73_0 : wc.cell? ⟨gb219, 0, none⟩ = some (.int .i64 ((rd_T157 l0_2 x9_2).f0)) := (blk_cell BK219.out 0).trans rfl
  have hcz73_1 : wc.cell? ⟨gb219, 1, none⟩ = some (.int .i64 ((rd_T157 l0_2 x9_2).f1)) := (blk_cell BK219.out 1).trans rfl
  have hcz73_2 : wc.cell? ⟨gb219, 2, none⟩ = some (.int .i64 ((rd_T157 l0_2 x9_2).f2)) := (blk_cell BK219.out 2).trans rfl
  have hcz73_3 : wc.cell? ⟨gb219, 3, none⟩ = some (.int .i64 ((rd_T157 l0_2 x9_2).f3)) := (blk_cell BK219.out 3).trans rfl
  have hfz73_0 := blk_frozen BK219.out 0
  have hfz73_1 := blk_frozen BK219.out 1
  have hfz73_2 := blk_frozen BK219.out 2
  have hfz73_3 := blk_frozen BK219.out 3
  have hnb74 := NB211_208.out
  have hnc74 := NB208_211.out
  have hnb75 := NB211_209.out
  have hnc75 := NB209_211.out
  have hcz76_0 : wc.cell? ⟨gb211, 0, none⟩ = some (.int .i64 ((rd_T162 l1_0 x6_1).f0)) := (blk_cell BK211.out 0).trans rfl
  have hcz76_1 : wc.cell? ⟨gb211, 1, none⟩ = some (.int .i64 ((rd_T162 l1_0 x6_1).f1)) := (blk_cell BK211.out 1).trans rfl
  have hcz76_2 : wc.cell? ⟨gb211, 2, none⟩ = some (.int .i64 ((rd_T162 l1_0 x6_1).f2)) := (blk_cell BK211.out 2).trans rfl
  have hfz76_0 := blk_frozen BK211.out 0
  have hfz76_1 := blk_frozen BK211.out 1
  have hfz76_2 := blk_frozen BK211.out 2
  obtain ⟨Ao77, co77, eo77⟩ := Kd.S_slice HO_5.out
  subst eo77
  have p221 : 0 ≤ (((rd_T162 l1_0 x6_1).f1) : Int) := of_decide_eq_true (by first | (with_reducible assumption) | assumption)
  have q221 : ((rd_T162 l1_0 x6_1).f1) < (x5_1.length : Int) := of_decide_eq_true (by first | (with_reducible assumption) | assumption)
  obtain ⟨ad221, A221_0, c221_0, e221, hx221_0, hl221_0, hi221_0⟩ := at_L4 (Kd.S_reads' HO_5.out).2.2 ((rd_T162 l1_0 x6_1).f1) p221 q221
  cases e221
  obtain ⟨ce221, hce221, hMe221, hcc221⟩ := Kd.S_get HO_5.out [] ((rd_T162 l1_0 x6_1).f1) p221 (by first | exact q221 | exact of_decide_eq_true (by first | (with_reducible assumption) | assumption) | (have e_ := (Kd.S_reads' HO_5.out).1; omega))
  obtain ⟨ve221_0, rfl, ge221_0⟩ := hMe221
  have hv221_0 := hcc221 0 _ rfl
  rw [Nat.add_zero, show ((Kd.slice 4 Kd.bool)).sz = 1 from rfl, Nat.mul_one] at hv221_0
  replace hv221_0 := Option.some.inj (hv221_0.symm.trans hx221_0)
  rw [hv221_0] at ge221_0
  have HL221_0 := Aside0.mk (show Kd.R Kd.bool 4 _ _ _ _ (rd_L4 x5_1 ((rd_T162 l1_0 x6_1).f1)) from ge221_0)
  clear hv221_0 ge221_0
  clear hcc221 hce221
  have HR221_0 := Aside0.mk hi221_0
  have HC221_0 := Aside0.mk hl221_0
  clear hi221_0 hl221_0
  replace p221 := eq_true p221
  replace q221 := eq_true q221
  have p222 : 0 ≤ (((rd_T157 l0_2 x9_2).f1) : Int) := of_decide_eq_true (by first | (with_reducible assumption) | assumption)
  have q222 : ((rd_T157 l0_2 x9_2).f1) < ((rd_L4 x5_1 ((rd_T162 l1_0 x6_1).f1)).length : Int) := of_decide_eq_true (by first | (with_reducible assumption) | assumption)
  obtain ⟨ad222, e222, hx222_0⟩ := Kd.at_bool (by repeat (first | (with_reducible exact HR221_0.out) | (with_reducible refine Kd.C_alloc ?_ _) | (with_reducible refine Kd.C_drewN ?_ _) | (with_reducible refine Kd.C_drew ?_) | exact HR221_0.out)) ((rd_T157 l0_2 x9_2).f1) p222 q222
  (try rw [← Nbq59.out] at hx222_0)
  (try rw [← Nbq65.out] at hx222_0)
  cases e222
  replace p222 := eq_true p222
  replace q222 := eq_true q222
  have p223 : 0 ≤ (((rd_T162 l1_0 x6_1).f2) : Int) := of_decide_eq_true (by first | (with_reducible assumption) | assumption)
  have q223 : ((rd_T162 l1_0 x6_1).f2) < (x5_1.length : Int) := of_decide_eq_true (by first | (with_reducible assumption) | assumption)
  obtain ⟨ad223, A223_0, c223_0, e223, hx223_0, hl223_0, hi223_0⟩ := at_L4 (Kd.S_reads' HO_5.out).2.2 ((rd_T162 l1_0 x6_1).f2) p223 q223
  obtain rfl : ad221 = ad223 := (by injection e223)
  obtain ⟨ce223, hce223, hMe223, hcc223⟩ := Kd.S_get HO_5.out [] ((rd_T162 l1_0 x6_1).f2) p223 (by first | exact q223 | exact of_decide_eq_true (by first | (with_reducible assumption) | assumption) | (have e_ := (Kd.S_reads' HO_5.out).1; omega))
  obtain ⟨ve223_0, rfl, ge223_0⟩ := hMe223
  have hv223_0 := hcc223 0 _ rfl
  rw [Nat.add_zero, show ((Kd.slice 4 Kd.bool)).sz = 1 from rfl, Nat.mul_one] at hv223_0
  replace hv223_0 := Option.some.inj (hv223_0.symm.trans hx223_0)
  rw [hv223_0] at ge223_0
  have HL223_0 := Aside0.mk (show Kd.R Kd.bool 4 _ _ _ _ (rd_L4 x5_1 ((rd_T162 l1_0 x6_1).f2)) from ge223_0)
  clear hv223_0 ge223_0
  clear hcc223 hce223
  have HR223_0 := Aside0.mk hi223_0
  have HC223_0 := Aside0.mk hl223_0
  clear hi223_0 hl223_0
  replace p223 := eq_true p223
  replace q223 := eq_true q223
  have p224 : 0 ≤ (((rd_T157 l0_2 x9_2).f2) : Int) := of_decide_eq_true (by first | (with_reducible assumption) | assumption)
  have q224 : ((rd_T157 l0_2 x9_2).f2) < ((rd_L4 x5_1 ((rd_T162 l1_0 x6_1).f2)).length : Int) := of_decide_eq_true (by first | (with_reducible assumption) | assumption)
  obtain ⟨ad224, e224, hx224_0⟩ := Kd.at_bool (by repeat (first | (with_reducible exact HR223_0.out) | (with_reducible refine Kd.C_alloc ?_ _) | (with_reducible refine Kd.C_drewN ?_ _) | (with_reducible refine Kd.C_drew ?_) | exact HR223_0.out)) ((rd_T157 l0_2 x9_2).f2) p224 q224
  (try rw [← Nbq59.out] at hx224_0)
  (try rw [← Nbq65.out] at hx224_0)
  cases e224
  replace p224 := eq_true p224
  replace q224 := eq_true q224
  have p69 : 0 ≤ (((rd_T157 l0_2 x9_2).f3) : Int) := of_decide_eq_true (by first | (with_reducible assumption) | assumption)
  have q69 : (((rd_T157 l0_2 x9_2).f3) : Int) < ((x8_2.length : Int) : Int) := of_decide_eq_true (by first | (with_reducible assumption) | assumption)
  obtain ⟨go69, co69, eo69, gb69, gl69, cl69, HG69⟩ := Kd.R_form HO_8.out (by omega)
  (first | cases eo69 | (injection eo69 with ea_ en_ ec_; (first | subst ea_ | (injection ea_ with ea_; subst ea_)); subst ec_; clear en_))
  have GB69 := Aside0.mk gb69
  have GG69 := Aside0.mk HG69
  clear gb69 gl69 HG69
  obtain ⟨hx69_0, hf69_0⟩ := Kd.R_celln false HO_8.out (((rd_T157 l0_2 x9_2).f3) : Int) p69 q69
  replace p69 := eq_true p69
  replace q69 := eq_true q69
  have HP78 := Kd.R_putg HO_8.out (((rd_T157 l0_2 x9_2).f3) : Int) true
  go_wp2_with (first | ((with_reducible refine gate_store (t := 4) (p := 82) rfl ?_); (try (rw [drewN_self wc]; generalize hq_ : World.drewN wc _ = wc; have n0_ := Aside0.mk (Kd.S_at hq_ HO_5.out); have n1_ := Aside0.mk (Kd.R_at hq_ HO_8.out); have n2_ := Aside0.mk (Kd.R_at hq_ HL221_0.out); have n3_ := Aside0.mk (Kd.R_at hq_ HL223_0.out); have n4_ := Aside0.mk (blk_at hq_ BK208.out); have n5_ := Aside0.mk (blk_at hq_ BK209.out); have n6_ := Aside0.mk (blk_at hq_ BK211.out); have n7_ := Aside0.mk (blk_at hq_ BK219.out); have n8_ := Aside0.mk (below_at hq_ HB.out); clear hq_ HO_5 HO_8 HL221_0 HL223_0 BK208 BK209 BK211 BK219 HB; have HO_5 := n0_; have HO_8 := n1_; have HL221_0 := n2_; have HL223_0 := n3_; have BK208 := n4_; have BK209 := n5_; have BK211 := n6_; have BK219 := n7_; have HB := n8_; clear n0_ n1_ n2_ n3_ n4_ n5_ n6_ n7_ n8_; (try (have HP78 := Kd.R_putg HO_8.out (((rd_T157 l0_2 x9_2).f3) : Int) true)); (try (obtain ⟨hx69_0, hf69_0⟩ := Kd.R_celln false HO_8.out (((rd_T157 l0_2 x9_2).f3) : Int) (of_eq_true p69) (of_eq_true q69))))); refine store_event (t := 4) (p := 82) (v := ?vo_w79) (w1 := (wc.setCell ⟨go69, (((rd_T157 l0_2 x9_2).f3) : Int).toNat, none⟩ (.bool true))) ?hg ?ho ?hn ?hr ?_; (case ho => rfl); (case hg => rfl); (case hn => rfl); (case hr => first | (go_simp; done) | (go_simp; rfl)); intro w79 hw; have hg : wc.grownBy w79 (some go69) := (by rw [hw]; exact HP78.2); have hp_ : Kd.R Kd.bool 4 w79 w.heap.size (fun _ => True) (.slice (some ⟨go69, 0, none⟩) x8_2.length co69) y225 := (by rw [hw, Ny225.out]; exact HP78.1); clear HP78; have n0_ := Aside0.mk (Kd.S_after (v := (.slice (some ⟨go69, 0, none⟩) x8_2.length co69)) (v1 := (.slice (some ⟨go69, 0, none⟩) x8_2.length co69)) (ok := (fun _ => True)) (by (with_reducible repeat (first | apply Kd.S_alloc | apply Kd.S_drewN | apply Kd.S_drew)); exact Kd.S_mono HO_5.out (fun _ hk => ⟨trivial, hk⟩)) hg (.inl rfl)); have n1_ := Aside0.mk (hp_); have n2_ := Aside0.mk (blk_grown (g := gb208) (o := .cells #[.int .i64 a0_0, .int .i64 a0_1, .slice (some ad218) l0_2.length c0_2, .int .i64 a0_3, .slice A0_4 l0_4.length c0_4] 56 (0, 0)) (by (with_reducible repeat (first | refine blk_drewN ?_ _ | refine blk_drew ?_ | refine blk_alloc ?_ _)); exact BK208.out) hg (Kd.R_ne HO_8.out BK208.out (by decide))); have n3_ := Aside0.mk (blk_grown (g := gb209) (o := .cells #[.slice (some ad210) l1_0.length c1_0] 59 (0, 0)) (by (with_reducible repeat (first | refine blk_drewN ?_ _ | refine blk_drew ?_ | refine blk_alloc ?_ _)); exact BK209.out) hg (Kd.R_ne HO_8.out BK209.out (by decide))); have n4_ := Aside0.mk (blk_grown (g := gb211) (o := .cells #[.int .i64 ((rd_T162 l1_0 x6_1).f0), .int .i64 ((rd_T162 l1_0 x6_1).f1), .int .i64 ((rd_T162 l1_0 x6_1).f2)] 162 (0, 0)) (by (with_reducible repeat (first | refine blk_drewN ?_ _ | refine blk_drew ?_ | refine blk_alloc ?_ _)); exact BK211.out) hg (Kd.R_ne HO_8.out BK211.out (by decide))); have n5_ := Aside0.mk (blk_grown (g := gb219) (o := .cells #[.int .i64 ((rd_T157 l0_2 x9_2).f0), .int .i64 ((rd_T157 l0_2 x9_2).f1), .int .i64 ((rd_T157 l0_2 x9_2).f2), .int .i64 ((rd_T157 l0_2 x9_2).f3)] 157 (0, 0)) (by (with_reducible repeat (first | refine blk_drewN ?_ _ | refine blk_drew ?_ | refine blk_alloc ?_ _)); exact BK219.out) hg (Kd.R_ne HO_8.out BK219.out (by decide))); have n6_ := Aside0.mk (Kd.R_after (v := (.slice (some ⟨go69, 0, none⟩) x8_2.length co69)) (v1 := (.slice (some ⟨go69, 0, none⟩) x8_2.length co69)) (ok := (fun k_ => some k_ ≠ (.slice (some ad221) x5_1.length co77 : Value).ownBlock)) (by (with_reducible repeat (first | apply Kd.R_alloc | apply Kd.R_drewN | apply Kd.R_drew)); exact Kd.R_mono HL221_0.out (fun _ hk => ⟨hk.2, hk.1⟩)) hg (.inl rfl)); have n7_ := Aside0.mk (Kd.R_after (v := (.slice (some ⟨go69, 0, none⟩) x8_2.length co69)) (v1 := (.slice (some ⟨go69, 0, none⟩) x8_2.length co69)) (ok := (fun k_ => some k_ ≠ (.slice (some ad221) x5_1.length co77 : Value).ownBlock)) (by (with_reducible repeat (first | apply Kd.R_alloc | apply Kd.R_drewN | apply Kd.R_drew)); exact Kd.R_mono HL223_0.out (fun _ hk => ⟨hk.2, hk.1⟩)) hg (.inl rfl)); have n8_ := Aside0.mk ((by rw [hw]; exact below_set (HB.out) GB69.out : Below w.heap.size w w79)); clear HO_5; clear HO_8; clear BK208; clear BK209; clear BK211; clear BK219; clear HL221_0; clear HL223_0; clear HB; have HO_5 := n0_; have HO_8 := n1_; have BK208 := n2_; have BK209 := n3_; have BK211 := n4_; have BK219 := n5_; have HL221_0 := n6_; have HL223_0 := n7_; have HB := n8_; clear n0_ n1_ n2_ n3_ n4_ n5_ n6_ n7_ n8_; clear hg hw hp_))
  repeat (go_quiet (first | ((with_reducible refine gate_store (t := 4) (p := 82) rfl ?_); (try (rw [drewN_self wc]; generalize hq_ : World.drewN wc _ = wc; have n0_ := Aside0.mk (Kd.S_at hq_ HO_5.out); have n1_ := Aside0.mk (Kd.R_at hq_ HO_8.out); have n2_ := Aside0.mk (Kd.R_at hq_ HL221_0.out); have n3_ := Aside0.mk (Kd.R_at hq_ HL223_0.out); have n4_ := Aside0.mk (blk_at hq_ BK208.out); have n5_ := Aside0.mk (blk_at hq_ BK209.out); have n6_ := Aside0.mk (blk_at hq_ BK211.out); have n7_ := Aside0.mk (blk_at hq_ BK219.out); have n8_ := Aside0.mk (below_at hq_ HB.out); clear hq_ HO_5 HO_8 HL221_0 HL223_0 BK208 BK209 BK211 BK219 HB; have HO_5 := n0_; have HO_8 := n1_; have HL221_0 := n2_; have HL223_0 := n3_; have BK208 := n4_; have BK209 := n5_; have BK211 := n6_; have BK219 := n7_; have HB := n8_; clear n0_ n1_ n2_ n3_ n4_ n5_ n6_ n7_ n8_; (try (have HP78 := Kd.R_putg HO_8.out (((rd_T157 l0_2 x9_2).f3) : Int) true)); (try (obtain ⟨hx69_0, hf69_0⟩ := Kd.R_celln false HO_8.out (((rd_T157 l0_2 x9_2).f3) : Int) (of_eq_true p69) (of_eq_true q69))))); refine store_event (t := 4) (p := 82) (v := ?vo_w79) (w1 := (wc.setCell ⟨go69, (((rd_T157 l0_2 x9_2).f3) : Int).toNat, none⟩ (.bool true))) ?hg ?ho ?hn ?hr ?_; (case ho => rfl); (case hg => rfl); (case hn => rfl); (case hr => first | (go_simp; done) | (go_simp; rfl)); intro w79 hw; have hg : wc.grownBy w79 (some go69) := (by rw [hw]; exact HP78.2); have hp_ : Kd.R Kd.bool 4 w79 w.heap.size (fun _ => True) (.slice (some ⟨go69, 0, none⟩) x8_2.length co69) y225 := (by rw [hw, Ny225.out]; exact HP78.1); clear HP78; have n0_ := Aside0.mk (Kd.S_after (v := (.slice (some ⟨go69, 0, none⟩) x8_2.length co69)) (v1 := (.slice (some ⟨go69, 0, none⟩) x8_2.length co69)) (ok := (fun _ => True)) (by (with_reducible repeat (first | apply Kd.S_alloc | apply Kd.S_drewN | apply Kd.S_drew)); exact Kd.S_mono HO_5.out (fun _ hk => ⟨trivial, hk⟩)) hg (.inl rfl)); have n1_ := Aside0.mk (hp_); have n2_ := Aside0.mk (blk_grown (g := gb208) (o := .cells #[.int .i64 a0_0, .int .i64 a0_1, .slice (some ad218) l0_2.length c0_2, .int .i64 a0_3, .slice A0_4 l0_4.length c0_4] 56 (0, 0)) (by (with_reducible repeat (first | refine blk_drewN ?_ _ | refine blk_drew ?_ | refine blk_alloc ?_ _)); exact BK208.out) hg (Kd.R_ne HO_8.out BK208.out (by decide))); have n3_ := Aside0.mk (blk_grown (g := gb209) (o := .cells #[.slice (some ad210) l1_0.length c1_0] 59 (0, 0)) (by (with_reducible repeat (first | refine blk_drewN ?_ _ | refine blk_drew ?_ | refine blk_alloc ?_ _)); exact BK209.out) hg (Kd.R_ne HO_8.out BK209.out (by decide))); have n4_ := Aside0.mk (blk_grown (g := gb211) (o := .cells #[.int .i64 ((rd_T162 l1_0 x6_1).f0), .int .i64 ((rd_T162 l1_0 x6_1).f1), .int .i64 ((rd_T162 l1_0 x6_1).f2)] 162 (0, 0)) (by (with_reducible repeat (first | refine blk_drewN ?_ _ | refine blk_drew ?_ | refine blk_alloc ?_ _)); exact BK211.out) hg (Kd.R_ne HO_8.out BK211.out (by decide))); have n5_ := Aside0.mk (blk_grown (g := gb219) (o := .cells #[.int .i64 ((rd_T157 l0_2 x9_2).f0), .int .i64 ((rd_T157 l0_2 x9_2).f1), .int .i64 ((rd_T157 l0_2 x9_2).f2), .int .i64 ((rd_T157 l0_2 x9_2).f3)] 157 (0, 0)) (by (with_reducible repeat (first | refine blk_drewN ?_ _ | refine blk_drew ?_ | refine blk_alloc ?_ _)); exact BK219.out) hg (Kd.R_ne HO_8.out BK219.out (by decide))); have n6_ := Aside0.mk (Kd.R_after (v := (.slice (some ⟨go69, 0, none⟩) x8_2.length co69)) (v1 := (.slice (some ⟨go69, 0, none⟩) x8_2.length co69)) (ok := (fun k_ => some k_ ≠ (.slice (some ad221) x5_1.length co77 : Value).ownBlock)) (by (with_reducible repeat (first | apply Kd.R_alloc | apply Kd.R_drewN | apply Kd.R_drew)); exact Kd.R_mono HL221_0.out (fun _ hk => ⟨hk.2, hk.1⟩)) hg (.inl rfl)); have n7_ := Aside0.mk (Kd.R_after (v := (.slice (some ⟨go69, 0, none⟩) x8_2.length co69)) (v1 := (.slice (some ⟨go69, 0, none⟩) x8_2.length co69)) (ok := (fun k_ => some k_ ≠ (.slice (some ad221) x5_1.length co77 : Value).ownBlock)) (by (with_reducible repeat (first | apply Kd.R_alloc | apply Kd.R_drewN | apply Kd.R_drew)); exact Kd.R_mono HL223_0.out (fun _ hk => ⟨hk.2, hk.1⟩)) hg (.inl rfl)); have n8_ := Aside0.mk ((by rw [hw]; exact below_set (HB.out) GB69.out : Below w.heap.size w w79)); clear HO_5; clear HO_8; clear BK208; clear BK209; clear BK211; clear BK219; clear HL221_0; clear HL223_0; clear HB; have HO_5 := n0_; have HO_8 := n1_; have BK208 := n2_; have BK209 := n3_; have BK211 := n4_; have BK219 := n5_; have HL221_0 := n6_; have HL223_0 := n7_; have HB := n8_; clear n0_ n1_ n2_ n3_ n4_ n5_ n6_ n7_ n8_; clear hg hw hp_)); try go_wp2_with (first | ((with_reducible refine gate_store (t := 4) (p := 82) rfl ?_); (try (rw [drewN_self wc]; generalize hq_ : World.drewN wc _ = wc; have n0_ := Aside0.mk (Kd.S_at hq_ HO_5.out); have n1_ := Aside0.mk (Kd.R_at hq_ HO_8.out); have n2_ := Aside0.mk (Kd.R_at hq_ HL221_0.out); have n3_ := Aside0.mk (Kd.R_at hq_ HL223_0.out); have n4_ := Aside0.mk (blk_at hq_ BK208.out); have n5_ := Aside0.mk (blk_at hq_ BK209.out); have n6_ := Aside0.mk (blk_at hq_ BK211.out); have n7_ := Aside0.mk (blk_at hq_ BK219.out); have n8_ := Aside0.mk (below_at hq_ HB.out); clear hq_ HO_5 HO_8 HL221_0 HL223_0 BK208 BK209 BK211 BK219 HB; have HO_5 := n0_; have HO_8 := n1_; have HL221_0 := n2_; have HL223_0 := n3_; have BK208 := n4_; have BK209 := n5_; have BK211 := n6_; have BK219 := n7_; have HB := n8_; clear n0_ n1_ n2_ n3_ n4_ n5_ n6_ n7_ n8_; (try (have HP78 := Kd.R_putg HO_8.out (((rd_T157 l0_2 x9_2).f3) : Int) true)); (try (obtain ⟨hx69_0, hf69_0⟩ := Kd.R_celln false HO_8.out (((rd_T157 l0_2 x9_2).f3) : Int) (of_eq_true p69) (of_eq_true q69))))); refine store_event (t := 4) (p := 82) (v := ?vo_w79) (w1 := (wc.setCell ⟨go69, (((rd_T157 l0_2 x9_2).f3) : Int).toNat, none⟩ (.bool true))) ?hg ?ho ?hn ?hr ?_; (case ho => rfl); (case hg => rfl); (case hn => rfl); (case hr => first | (go_simp; done) | (go_simp; rfl)); intro w79 hw; have hg : wc.grownBy w79 (some go69) := (by rw [hw]; exact HP78.2); have hp_ : Kd.R Kd.bool 4 w79 w.heap.size (fun _ => True) (.slice (some ⟨go69, 0, none⟩) x8_2.length co69) y225 := (by rw [hw, Ny225.out]; exact HP78.1); clear HP78; have n0_ := Aside0.mk (Kd.S_after (v := (.slice (some ⟨go69, 0, none⟩) x8_2.length co69)) (v1 := (.slice (some ⟨go69, 0, none⟩) x8_2.length co69)) (ok := (fun _ => True)) (by (with_reducible repeat (first | apply Kd.S_alloc | apply Kd.S_drewN | apply Kd.S_drew)); exact Kd.S_mono HO_5.out (fun _ hk => ⟨trivial, hk⟩)) hg (.inl rfl)); have n1_ := Aside0.mk (hp_); have n2_ := Aside0.mk (blk_grown (g := gb208) (o := .cells #[.int .i64 a0_0, .int .i64 a0_1, .slice (some ad218) l0_2.length c0_2, .int .i64 a0_3, .slice A0_4 l0_4.length c0_4] 56 (0, 0)) (by (with_reducible repeat (first | refine blk_drewN ?_ _ | refine blk_drew ?_ | refine blk_alloc ?_ _)); exact BK208.out) hg (Kd.R_ne HO_8.out BK208.out (by decide))); have n3_ := Aside0.mk (blk_grown (g := gb209) (o := .cells #[.slice (some ad210) l1_0.length c1_0] 59 (0, 0)) (by (with_reducible repeat (first | refine blk_drewN ?_ _ | refine blk_drew ?_ | refine blk_alloc ?_ _)); exact BK209.out) hg (Kd.R_ne HO_8.out BK209.out (by decide))); have n4_ := Aside0.mk (blk_grown (g := gb211) (o := .cells #[.int .i64 ((rd_T162 l1_0 x6_1).f0), .int .i64 ((rd_T162 l1_0 x6_1).f1), .int .i64 ((rd_T162 l1_0 x6_1).f2)] 162 (0, 0)) (by (with_reducible repeat (first | refine blk_drewN ?_ _ | refine blk_drew ?_ | refine blk_alloc ?_ _)); exact BK211.out) hg (Kd.R_ne HO_8.out BK211.out (by decide))); have n5_ := Aside0.mk (blk_grown (g := gb219) (o := .cells #[.int .i64 ((rd_T157 l0_2 x9_2).f0), .int .i64 ((rd_T157 l0_2 x9_2).f1), .int .i64 ((rd_T157 l0_2 x9_2).f2), .int .i64 ((rd_T157 l0_2 x9_2).f3)] 157 (0, 0)) (by (with_reducible repeat (first | refine blk_drewN ?_ _ | refine blk_drew ?_ | refine blk_alloc ?_ _)); exact BK219.out) hg (Kd.R_ne HO_8.out BK219.out (by decide))); have n6_ := Aside0.mk (Kd.R_after (v := (.slice (some ⟨go69, 0, none⟩) x8_2.length co69)) (v1 := (.slice (some ⟨go69, 0, none⟩) x8_2.length co69)) (ok := (fun k_ => some k_ ≠ (.slice (some ad221) x5_1.length co77 : Value).ownBlock)) (by (with_reducible repeat (first | apply Kd.R_alloc | apply Kd.R_drewN | apply Kd.R_drew)); exact Kd.R_mono HL221_0.out (fun _ hk => ⟨hk.2, hk.1⟩)) hg (.inl rfl)); have n7_ := Aside0.mk (Kd.R_after (v := (.slice (some ⟨go69, 0, none⟩) x8_2.length co69)) (v1 := (.slice (some ⟨go69, 0, none⟩) x8_2.length co69)) (ok := (fun k_ => some k_ ≠ (.slice (some ad221) x5_1.length co77 : Value).ownBlock)) (by (with_reducible repeat (first | apply Kd.R_alloc | apply Kd.R_drewN | apply Kd.R_drew)); exact Kd.R_mono HL223_0.out (fun _ hk => ⟨hk.2, hk.1⟩)) hg (.inl rfl)); have n8_ := Aside0.mk ((by rw [hw]; exact below_set (HB.out) GB69.out : Below w.heap.size w w79)); clear HO_5; clear HO_8; clear BK208; clear BK209; clear BK211; clear BK219; clear HL221_0; clear HL223_0; clear HB; have HO_5 := n0_; have HO_8 := n1_; have BK208 := n2_; have BK209 := n3_; have BK211 := n4_; have BK219 := n5_; have HL221_0 := n6_; have HL223_0 := n7_; have HB := n8_; clear n0_ n1_ n2_ n3_ n4_ n5_ n6_ n7_ n8_; clear hg hw hp_)))
  go_roundg kj19
  case measure => have := HK1.out; have := HK2.out; have := HJ19.out; omega
  case rel => exact ⟨(y225), (wrap64 (x9_2 + 1)), (by first | rfl | (simp; done) | (simp [*]; done)), H', ⟨by have := HK1.out; have := HK2.out; have := HJ19.out; omega⟩, ⟨by (with_reducible repeat (first | apply Kd.S_alloc | apply Kd.S_drewN | apply Kd.S_drew)); exact Kd.S_mono HO_5.out (fun _ hk => hk.2)⟩, ⟨by (with_reducible repeat (first | apply Kd.R_alloc | apply Kd.R_drewN | apply Kd.R_drew)); exact HO_8.out⟩, ⟨by (with_reducible repeat (first | refine blk_drewN ?_ _ | refine blk_drew ?_ | refine blk_alloc ?_ _)); exact BK208.out⟩, ⟨by (with_reducible repeat (first | refine blk_drewN ?_ _ | refine blk_drew ?_ | refine blk_alloc ?_ _)); exact BK209.out⟩, ⟨by (with_reducible repeat (first | refine blk_drewN ?_ _ | refine blk_drew ?_ | refine blk_alloc ?_ _)); exact BK211.out⟩, ⟨by repeat (first | (with_reducible first | exact HB.out | apply below_alloc | apply pw_below_drewN | apply below_drew1 | refine below_set ?_ GE208.out | refine below_set ?_ GE209.out | refine below_set ?_ GE211.out | refine below_set ?_ GE219.out) | exact HB.out)⟩⟩
 ·rw [if_neg c68] at H
  exact absurd H (by simp))
    ·(
 rw [if_neg c67] at H
 exact absurd H (by simp))
   ·replace c66 := Bool.eq_false_iff.mpr c66
    subst c66
    have H1 : (evermoreref12_Accepts.l1 kj19 x5_1 x6_1 x8_2 (wrap64 (x9_2 + 1)) a0_0 a0_1 l0_2 a0_3 l0_4 l1_0 ((rd_T162 l1_0 x6_1).f0) ((rd_T162 l1_0 x6_1).f1) ((rd_T162 l1_0 x6_1).f2)) = some r := by rw [if_neg (show ¬ (false = true) by decide)] at H; exact H
    clear H
    have H := H1
    clear H1
    have H' := Aside0.mk H
    clear H
    have hnb80 := NB219_208.out
    have hnc80 := NB208_219.out
    have hnb81 := NB219_209.out
    have hnc81 := NB209_219.out
    have hnb82 := NB219_211.out
    have hnc82 := NB211_219.out
    have hcz83_0 : wc.cell? ⟨gb219, 0, none⟩ = some (.int .i64 ((rd_T157 l0_2 x9_2).f0)) := (blk_cell BK219.out 0).trans rfl
    have hcz83_1 : wc.cell? ⟨gb219, 1, none⟩ = some (.int .i64 ((rd_T157 l0_2 x9_2).f1)) := (blk_cell BK219.out 1).trans rfl
    have hcz83_2 : wc.cell? ⟨gb219, 2, none⟩ = some (.int .i64 ((rd_T157 l0_2 x9_2).f2)) := (blk_cell BK219.out 2).trans rfl
    have hcz83_3 : wc.cell? ⟨gb219, 3, none⟩ = some (.int .i64 ((rd_T157 l0_2 x9_2).f3)) := (blk_cell BK219.out 3).trans rfl
    have hfz83_0 := blk_frozen BK219.out 0
    have hfz83_1 := blk_frozen BK219.out 1
    have hfz83_2 := blk_frozen BK219.out 2
    have hfz83_3 := blk_frozen BK219.out 3
    have hnb84 := NB211_208.out
    have hnc84 := NB208_211.out
    have hnb85 := NB211_209.out
    have hnc85 := NB209_211.out
    have hcz86_0 : wc.cell? ⟨gb211, 0, none⟩ = some (.int .i64 ((rd_T162 l1_0 x6_1).f0)) := (blk_cell BK211.out 0).trans rfl
    have hcz86_1 : wc.cell? ⟨gb211, 1, none⟩ = some (.int .i64 ((rd_T162 l1_0 x6_1).f1)) := (blk_cell BK211.out 1).trans rfl
    have hcz86_2 : wc.cell? ⟨gb211, 2, none⟩ = some (.int .i64 ((rd_T162 l1_0 x6_1).f2)) := (blk_cell BK211.out 2).trans rfl
    have hfz86_0 := blk_frozen BK211.out 0
    have hfz86_1 := blk_frozen BK211.out 1
    have hfz86_2 := blk_frozen BK211.out 2
    obtain ⟨Ao87, co87, eo87⟩ := Kd.S_slice HO_5.out
    subst eo87
    have p221 : 0 ≤ (((rd_T162 l1_0 x6_1).f1) : Int) := of_decide_eq_true (by first | (with_reducible assumption) | assumption)
    have q221 : ((rd_T162 l1_0 x6_1).f1) < (x5_1.length : Int) := of_decide_eq_true (by first | (with_reducible assumption) | assumption)
    obtain ⟨ad221, A221_0, c221_0, e221, hx221_0, hl221_0, hi221_0⟩ := at_L4 (Kd.S_reads' HO_5.out).2.2 ((rd_T162 l1_0 x6_1).f1) p221 q221
    cases e221
    obtain ⟨ce221, hce221, hMe221, hcc221⟩ := Kd.S_get HO_5.out [] ((rd_T162 l1_0 x6_1).f1) p221 (by first | exact q221 | exact of_decide_eq_true (by first | (with_reducible assumption) | assumption) | (have e_ := (Kd.S_reads' HO_5.out).1; omega))
    obtain ⟨ve221_0, rfl, ge221_0⟩ := hMe221
    have hv221_0 := hcc221 0 _ rfl
    rw [Nat.add_zero, show ((Kd.slice 4 Kd.bool)).sz = 1 from rfl, Nat.mul_one] at hv221_0
    replace hv221_0 := Option.some.inj (hv221_0.symm.trans hx221_0)
    rw [hv221_0] at ge221_0
    have HL221_0 := Aside0.mk (show Kd.R Kd.bool 4 _ _ _ _ (rd_L4 x5_1 ((rd_T162 l1_0 x6_1).f1)) from ge221_0)
    clear hv221_0 ge221_0
    clear hcc221 hce221
    have HR221_0 := Aside0.mk hi221_0
    have HC221_0 := Aside0.mk hl221_0
    clear hi221_0 hl221_0
    replace p221 := eq_true p221
    replace q221 := eq_true q221
    have p222 : 0 ≤ (((rd_T157 l0_2 x9_2).f1) : Int) := of_decide_eq_true (by first | (with_reducible assumption) | assumption)
    have q222 : ((rd_T157 l0_2 x9_2).f1) < ((rd_L4 x5_1 ((rd_T162 l1_0 x6_1).f1)).length : Int) := of_decide_eq_true (by first | (with_reducible assumption) | assumption)
    obtain ⟨ad222, e222, hx222_0⟩ := Kd.at_bool (by repeat (first | (with_reducible exact HR221_0.out) | (with_reducible refine Kd.C_alloc ?_ _) | (with_reducible refine Kd.C_drewN ?_ _) | (with_reducible refine Kd.C_drew ?_) | exact HR221_0.out)) ((rd_T157 l0_2 x9_2).f1) p222 q222
    (try rw [← Nbq59.out] at hx222_0)
    (try rw [← Nbq65.out] at hx222_0)
    cases e222
    replace p222 := eq_true p222
    replace q222 := eq_true q222
    have p223 : 0 ≤ (((rd_T162 l1_0 x6_1).f2) : Int) := of_decide_eq_true (by first | (with_reducible assumption) | assumption)
    have q223 : ((rd_T162 l1_0 x6_1).f2) < (x5_1.length : Int) := of_decide_eq_true (by first | (with_reducible assumption) | assumption)
    obtain ⟨ad223, A223_0, c223_0, e223, hx223_0, hl223_0, hi223_0⟩ := at_L4 (Kd.S_reads' HO_5.out).2.2 ((rd_T162 l1_0 x6_1).f2) p223 q223
    obtain rfl : ad221 = ad223 := (by injection e223)
    obtain ⟨ce223, hce223, hMe223, hcc223⟩ := Kd.S_get HO_5.out [] ((rd_T162 l1_0 x6_1).f2) p223 (by first | exact q223 | exact of_decide_eq_true (by first | (with_reducible assumption) | assumption) | (have e_ := (Kd.S_reads' HO_5.out).1; omega))
    obtain ⟨ve223_0, rfl, ge223_0⟩ := hMe223
    have hv223_0 := hcc223 0 _ rfl
    rw [Nat.add_zero, show ((Kd.slice 4 Kd.bool)).sz = 1 from rfl, Nat.mul_one] at hv223_0
    replace hv223_0 := Option.some.inj (hv223_0.symm.trans hx223_0)
    rw [hv223_0] at ge223_0
    have HL223_0 := Aside0.mk (show Kd.R Kd.bool 4 _ _ _ _ (rd_L4 x5_1 ((rd_T162 l1_0 x6_1).f2)) from ge223_0)
    clear hv223_0 ge223_0
    clear hcc223 hce223
    have HR223_0 := Aside0.mk hi223_0
    have HC223_0 := Aside0.mk hl223_0
    clear hi223_0 hl223_0
    replace p223 := eq_true p223
    replace q223 := eq_true q223
    have p224 : 0 ≤ (((rd_T157 l0_2 x9_2).f2) : Int) := of_decide_eq_true (by first | (with_reducible assumption) | assumption)
    have q224 : ((rd_T157 l0_2 x9_2).f2) < ((rd_L4 x5_1 ((rd_T162 l1_0 x6_1).f2)).length : Int) := of_decide_eq_true (by first | (with_reducible assumption) | assumption)
    obtain ⟨ad224, e224, hx224_0⟩ := Kd.at_bool (by repeat (first | (with_reducible exact HR223_0.out) | (with_reducible refine Kd.C_alloc ?_ _) | (with_reducible refine Kd.C_drewN ?_ _) | (with_reducible refine Kd.C_drew ?_) | exact HR223_0.out)) ((rd_T157 l0_2 x9_2).f2) p224 q224
    (try rw [← Nbq59.out] at hx224_0)
    (try rw [← Nbq65.out] at hx224_0)
    cases e224
    replace p224 := eq_true p224
    replace q224 := eq_true q224
    go_wp2
    repeat (go_quiet (fail); try go_wp2)
    go_roundg kj19
    case measure => have := HK1.out; have := HK2.out; have := HJ19.out; omega
    case rel => exact ⟨(x8_2), (wrap64 (x9_2 + 1)), (by first | rfl | (simp; done) | (simp [*]; done)), H', ⟨by have := HK1.out; have := HK2.out; have := HJ19.out; omega⟩, ⟨by (with_reducible repeat (first | apply Kd.S_alloc | apply Kd.S_drewN | apply Kd.S_drew)); exact HO_5.out⟩, ⟨by (with_reducible repeat (first | apply Kd.R_alloc | apply Kd.R_drewN | apply Kd.R_drew)); exact HO_8.out⟩, ⟨by (with_reducible repeat (first | refine blk_drewN ?_ _ | refine blk_drew ?_ | refine blk_alloc ?_ _)); exact BK208.out⟩, ⟨by (with_reducible repeat (first | refine blk_drewN ?_ _ | refine blk_drew ?_ | refine blk_alloc ?_ _)); exact BK209.out⟩, ⟨by (with_reducible repeat (first | refine blk_drewN ?_ _ | refine blk_drew ?_ | refine blk_alloc ?_ _)); exact BK211.out⟩, ⟨by repeat (first | (with_reducible first | exact HB.out | apply below_alloc | apply pw_below_drewN | apply below_drew1 | refine below_set ?_ GE208.out | refine below_set ?_ GE209.out | refine below_set ?_ GE211.out | refine below_set ?_ GE219.out) | exact HB.out)⟩⟩
  ·rw [if_neg c64] at H
   exact absurd H (by simp)
 ·rw [if_neg c63] at H
  exact absurd H (by simp))
    ·(
 rw [if_neg c62] at H
 exact absurd H (by simp))
   ·rw [if_neg c61] at H
    exact absurd H (by simp)
  ·replace c60 := Bool.eq_false_iff.mpr c60
   subst c60
   have H1 : (evermoreref12_Accepts.l1 kj19 x5_1 x6_1 x8_2 (wrap64 (x9_2 + 1)) a0_0 a0_1 l0_2 a0_3 l0_4 l1_0 ((rd_T162 l1_0 x6_1).f0) ((rd_T162 l1_0 x6_1).f1) ((rd_T162 l1_0 x6_1).f2)) = some r := by rw [if_neg (show ¬ (false = true) by decide)] at H; exact H
   clear H
   have H := H1
   clear H1
   have H' := Aside0.mk H
   clear H
   have hnb88 := NB219_208.out
   have hnc88 := NB208_219.out
   have hnb89 := NB219_209.out
   have hnc89 := NB209_219.out
   have hnb90 := NB219_211.out
   have hnc90 := NB211_219.out
   have hcz91_0 : wc.cell? ⟨gb219, 0, none⟩ = some (.int .i64 ((rd_T157 l0_2 x9_2).f0)) := (blk_cell BK219.out 0).trans rfl
   have hcz91_1 : wc.cell? ⟨gb219, 1, none⟩ = some (.int .i64 ((rd_T157 l0_2 x9_2).f1)) := (blk_cell BK219.out 1).trans rfl
   have hcz91_2 : wc.cell? ⟨gb219, 2, none⟩ = some (.int .i64 ((rd_T157 l0_2 x9_2).f2)) := (blk_cell BK219.out 2).trans rfl
   have hcz91_3 : wc.cell? ⟨gb219, 3, none⟩ = some (.int .i64 ((rd_T157 l0_2 x9_2).f3)) := (blk_cell BK219.out 3).trans rfl
   have hfz91_0 := blk_frozen BK219.out 0
   have hfz91_1 := blk_frozen BK219.out 1
   have hfz91_2 := blk_frozen BK219.out 2
   have hfz91_3 := blk_frozen BK219.out 3
   have hnb92 := NB211_208.out
   have hnc92 := NB208_211.out
   have hnb93 := NB211_209.out
   have hnc93 := NB209_211.out
   have hcz94_0 : wc.cell? ⟨gb211, 0, none⟩ = some (.int .i64 ((rd_T162 l1_0 x6_1).f0)) := (blk_cell BK211.out 0).trans rfl
   have hcz94_1 : wc.cell? ⟨gb211, 1, none⟩ = some (.int .i64 ((rd_T162 l1_0 x6_1).f1)) := (blk_cell BK211.out 1).trans rfl
   have hcz94_2 : wc.cell? ⟨gb211, 2, none⟩ = some (.int .i64 ((rd_T162 l1_0 x6_1).f2)) := (blk_cell BK211.out 2).trans rfl
   have hfz94_0 := blk_frozen BK211.out 0
   have hfz94_1 := blk_frozen BK211.out 1
   have hfz94_2 := blk_frozen BK211.out 2
   obtain ⟨Ao95, co95, eo95⟩ := Kd.S_slice HO_5.out
   subst eo95
   have p221 : 0 ≤ (((rd_T162 l1_0 x6_1).f1) : Int) := of_decide_eq_true (by first | (with_reducible assumption) | assumption)
   have q221 : ((rd_T162 l1_0 x6_1).f1) < (x5_1.length : Int) := of_decide_eq_true (by first | (with_reducible assumption) | assumption)
   obtain ⟨ad221, A221_0, c221_0, e221, hx221_0, hl221_0, hi221_0⟩ := at_L4 (Kd.S_reads' HO_5.out).2.2 ((rd_T162 l1_0 x6_1).f1) p221 q221
   cases e221
   obtain ⟨ce221, hce221, hMe221, hcc221⟩ := Kd.S_get HO_5.out [] ((rd_T162 l1_0 x6_1).f1) p221 (by first | exact q221 | exact of_decide_eq_true (by first | (with_reducible assumption) | assumption) | (have e_ := (Kd.S_reads' HO_5.out).1; omega))
   obtain ⟨ve221_0, rfl, ge221_0⟩ := hMe221
   have hv221_0 := hcc221 0 _ rfl
   rw [Nat.add_zero, show ((Kd.slice 4 Kd.bool)).sz = 1 from rfl, Nat.mul_one] at hv221_0
   replace hv221_0 := Option.some.inj (hv221_0.symm.trans hx221_0)
   rw [hv221_0] at ge221_0
   have HL221_0 := Aside0.mk (show Kd.R Kd.bool 4 _ _ _ _ (rd_L4 x5_1 ((rd_T162 l1_0 x6_1).f1)) from ge221_0)
   clear hv221_0 ge221_0
   clear hcc221 hce221
   have HR221_0 := Aside0.mk hi221_0
   have HC221_0 := Aside0.mk hl221_0
   clear hi221_0 hl221_0
   replace p221 := eq_true p221
   replace q221 := eq_true q221
   have p222 : 0 ≤ (((rd_T157 l0_2 x9_2).f1) : Int) := of_decide_eq_true (by first | (with_reducible assumption) | assumption)
   have q222 : ((rd_T157 l0_2 x9_2).f1) < ((rd_L4 x5_1 ((rd_T162 l1_0 x6_1).f1)).length : Int) := of_decide_eq_true (by first | (with_reducible assumption) | assumption)
   obtain ⟨ad222, e222, hx222_0⟩ := Kd.at_bool (by repeat (first | (with_reducible exact HR221_0.out) | (with_reducible refine Kd.C_alloc ?_ _) | (with_reducible refine Kd.C_drewN ?_ _) | (with_reducible refine Kd.C_drew ?_) | exact HR221_0.out)) ((rd_T157 l0_2 x9_2).f1) p222 q222
   (try rw [← Nbq59.out] at hx222_0)
   cases e222
   replace p222 := eq_true p222
   replace q222 := eq_true q222
   go_wp2
   repeat (go_quiet (fail); try go_wp2)
   go_roundg kj19
   case measure => have := HK1.out; have := HK2.out; have := HJ19.out; omega
   case rel => exact ⟨(x8_2), (wrap64 (x9_2 + 1)), (by first | rfl | (simp; done) | (simp [*]; done)), H', ⟨by have := HK1.out; have := HK2.out; have := HJ19.out; omega⟩, ⟨by (with_reducible repeat (first | apply Kd.S_alloc | apply Kd.S_drewN | apply Kd.S_drew)); exact HO_5.out⟩, ⟨by (with_reducible repeat (first | apply Kd.R_alloc | apply Kd.R_drewN | apply Kd.R_drew)); exact HO_8.out⟩, ⟨by (with_reducible repeat (first | refine blk_drewN ?_ _ | refine blk_drew ?_ | refine blk_alloc ?_ _)); exact BK208.out⟩, ⟨by (with_reducible repeat (first | refine blk_drewN ?_ _ | refine blk_drew ?_ | refine blk_alloc ?_ _)); exact BK209.out⟩, ⟨by (with_reducible repeat (first | refine blk_drewN ?_ _ | refine blk_drew ?_ | refine blk_alloc ?_ _)); exact BK211.out⟩, ⟨by repeat (first | (with_reducible first | exact HB.out | apply below_alloc | apply pw_below_drewN | apply below_drew1 | refine below_set ?_ GE208.out | refine below_set ?_ GE209.out | refine below_set ?_ GE211.out | refine below_set ?_ GE219.out) | exact HB.out)⟩⟩
 ·rw [if_neg c58] at H
  exact absurd H (by simp))
    ·(
 rw [if_neg c57] at H
 exact absurd H (by simp))
   ·rw [if_neg c56] at H
    exact absurd H (by simp)
  ·rw [if_neg c55] at H
   exact absurd H (by simp))
 ·rw [if_neg c19] at H
  exact absurd H (by simp))
     ·(
 rw [if_neg c18] at H
 have c18b0 : decide (x9_2 < (l0_2.length : Int)) = false := decide_eq_false c18
 clear c18
 by_cases c96 : x5_1.length < 5864062014805
 ·rw [if_pos c96] at H
  have LMc96 := Aside0.mk c96
  clear c96
  obtain ⟨y215, hy215⟩ : ∃ y_ : List (List Bool), y_ = (x5_1 ++ [x8_2]) := ⟨_, rfl⟩
  replace H : (evermoreref12_Accepts.l0 k2 y215 (wrap64 (x6_1 + 1)) a0_0 a0_1 l0_2 a0_3 l0_4 l1_0) = some r := by first | (rw [hy215]; with_reducible exact H) | (have H2_ := (Option.bind_some _ _).symm.trans H; rw [hy215]; with_reducible exact H2_) | (have H2_ := (Option.bind_some _ _).symm.trans H; with_reducible exact H2_) | with_reducible exact H | (rw [hy215]; exact H) | exact H
  have Ny215 := Aside0.mk hy215
  clear hy215
  have H' := Aside0.mk H
  clear H
  have hnb97 := NB208_209.out
  have hnc97 := NB209_208.out
  have hnb98 := NB208_211.out
  have hnc98 := NB211_208.out
  have hcz99_0 : wr.cell? ⟨gb208, 0, none⟩ = some (.int .i64 a0_0) := (blk_cell BK208.out 0).trans rfl
  have hcz99_1 : wr.cell? ⟨gb208, 1, none⟩ = some (.int .i64 a0_1) := (blk_cell BK208.out 1).trans rfl
  have hcz99_2 : wr.cell? ⟨gb208, 2, none⟩ = some (.slice A0_2 l0_2.length c0_2) := (blk_cell BK208.out 2).trans rfl
  have hcz99_3 : wr.cell? ⟨gb208, 3, none⟩ = some (.int .i64 a0_3) := (blk_cell BK208.out 3).trans rfl
  have hcz99_4 : wr.cell? ⟨gb208, 4, none⟩ = some (.slice A0_4 l0_4.length c0_4) := (blk_cell BK208.out 4).trans rfl
  have hfz99_0 := blk_frozen BK208.out 0
  have hfz99_1 := blk_frozen BK208.out 1
  have hfz99_2 := blk_frozen BK208.out 2
  have hfz99_3 := blk_frozen BK208.out 3
  have hfz99_4 := blk_frozen BK208.out 4
  obtain ⟨Ao101, co101, eo101⟩ := Kd.R_slice HO_8.out
  subst eo101
  go_wp2_with (first | ((with_reducible refine gate_builtin (b := .append) (xs := #[.tmp 83, .tmp 85]) rfl ?_); at_builtin; refine Kd.S_append (Kd.slice 4 Kd.bool) (w0 := w) w.heap.size rfl (.tmp 83) (.tmp 85) 164 127 (.slice none 0 0) 24 rfl Try.underlying164 info127 rfl (by decide) (by omega) u5 x5_1 x8_2 [.slice Ao101 x8_2.length co101] (fun _ => True) (fun k_ => some k_ = (.slice Ao101 x8_2.length co101 : Value).ownBlock) rfl rfl ?aP (fun k_ hk_ => ((Kd.R_mono (ok' := fun k_ => ((fun _ => True)) k_ ∧ some k_ ≠ (u5 : Value).ownBlock) (Kd.R_apart' (HO_8.out) (Kd.S_typed HO_5.out) (by decide)) (fun k_ hk => ⟨trivial, hk.2⟩))).1 k_ hk_.symm) ?aF ?aO ?aB ?aS ?aL ?_; (case aP => exact Kd.M_row (Kd.R_mono (Kd.R_tight rfl (Kd.R_mono (ok' := fun k_ => ((fun _ => True)) k_ ∧ some k_ ≠ (u5 : Value).ownBlock) (Kd.R_apart' (HO_8.out) (Kd.S_typed HO_5.out) (by decide)) (fun k_ hk => ⟨trivial, hk.2⟩))) (fun _ h_ => h_))); (case aB => exact (by repeat (first | (with_reducible first | exact HB.out | apply below_alloc | apply pw_below_drewN | apply below_drew1 | refine below_set ?_ GE208.out | refine below_set ?_ GE209.out | refine below_set ?_ GE211.out) | exact HB.out))); (case aF => exact (fun _ _ => trivial)); (case aO => exact (by (with_reducible repeat (first | apply Kd.S_alloc | apply Kd.S_drewN | apply Kd.S_drew)); exact Kd.S_mono HO_5.out (fun k_ hk => ⟨trivial, fun e_ => hk e_⟩))); (case aS => exact (below_size (by repeat (first | (with_reducible first | exact HB.out | apply below_alloc | apply pw_below_drewN | apply below_drew1 | refine below_set ?_ GE208.out | refine below_set ?_ GE209.out | refine below_set ?_ GE211.out) | exact HB.out)))); (case aL => have := LMc96.out; omega); intro v216 w100 ho hb hg hat; rw [← Ny215.out] at ho; have n0_ := Aside0.mk (blk_grown (g := gb208) (o := .cells #[.int .i64 a0_0, .int .i64 a0_1, .slice A0_2 l0_2.length c0_2, .int .i64 a0_3, .slice A0_4 l0_4.length c0_4] 56 (0, 0)) (by (with_reducible repeat (first | refine blk_drewN ?_ _ | refine blk_drew ?_ | refine blk_alloc ?_ _)); exact BK208.out) hg (Kd.S_ne HO_5.out BK208.out (by decide))); have n1_ := Aside0.mk (blk_grown (g := gb209) (o := .cells #[.slice (some ad210) l1_0.length c1_0] 59 (0, 0)) (by (with_reducible repeat (first | refine blk_drewN ?_ _ | refine blk_drew ?_ | refine blk_alloc ?_ _)); exact BK209.out) hg (Kd.S_ne HO_5.out BK209.out (by decide))); have n2_ := Aside0.mk (blk_grown (g := gb211) (o := .cells #[.int .i64 ((rd_T162 l1_0 x6_1).f0), .int .i64 ((rd_T162 l1_0 x6_1).f1), .int .i64 ((rd_T162 l1_0 x6_1).f2)] 162 (0, 0)) (by (with_reducible repeat (first | refine blk_drewN ?_ _ | refine blk_drew ?_ | refine blk_alloc ?_ _)); exact BK211.out) hg (Kd.S_ne HO_5.out BK211.out (by decide))); have n3_ := Aside0.mk (hb); have n4_ := Aside0.mk (ho); clear BK208; clear BK209; clear BK211; clear HB; clear HO_5; clear HO_8; have BK208 := n0_; have BK209 := n1_; have BK211 := n2_; have HB := n3_; have HO217 := n4_; clear n0_ n1_ n2_ n3_ n4_; clear ho hb hg hat))
  repeat (go_quiet (first | ((with_reducible refine gate_builtin (b := .append) (xs := #[.tmp 83, .tmp 85]) rfl ?_); at_builtin; refine Kd.S_append (Kd.slice 4 Kd.bool) (w0 := w) w.heap.size rfl (.tmp 83) (.tmp 85) 164 127 (.slice none 0 0) 24 rfl Try.underlying164 info127 rfl (by decide) (by omega) u5 x5_1 x8_2 [.slice Ao101 x8_2.length co101] (fun _ => True) (fun k_ => some k_ = (.slice Ao101 x8_2.length co101 : Value).ownBlock) rfl rfl ?aP (fun k_ hk_ => ((Kd.R_mono (ok' := fun k_ => ((fun _ => True)) k_ ∧ some k_ ≠ (u5 : Value).ownBlock) (Kd.R_apart' (HO_8.out) (Kd.S_typed HO_5.out) (by decide)) (fun k_ hk => ⟨trivial, hk.2⟩))).1 k_ hk_.symm) ?aF ?aO ?aB ?aS ?aL ?_; (case aP => exact Kd.M_row (Kd.R_mono (Kd.R_tight rfl (Kd.R_mono (ok' := fun k_ => ((fun _ => True)) k_ ∧ some k_ ≠ (u5 : Value).ownBlock) (Kd.R_apart' (HO_8.out) (Kd.S_typed HO_5.out) (by decide)) (fun k_ hk => ⟨trivial, hk.2⟩))) (fun _ h_ => h_))); (case aB => exact (by repeat (first | (with_reducible first | exact HB.out | apply below_alloc | apply pw_below_drewN | apply below_drew1 | refine below_set ?_ GE208.out | refine below_set ?_ GE209.out | refine below_set ?_ GE211.out) | exact HB.out))); (case aF => exact (fun _ _ => trivial)); (case aO => exact (by (with_reducible repeat (first | apply Kd.S_alloc | apply Kd.S_drewN | apply Kd.S_drew)); exact Kd.S_mono HO_5.out (fun k_ hk => ⟨trivial, fun e_ => hk e_⟩))); (case aS => exact (below_size (by repeat (first | (with_reducible first | exact HB.out | apply below_alloc | apply pw_below_drewN | apply below_drew1 | refine below_set ?_ GE208.out | refine below_set ?_ GE209.out | refine below_set ?_ GE211.out) | exact HB.out)))); (case aL => have := LMc96.out; omega); intro v216 w100 ho hb hg hat; rw [← Ny215.out] at ho; have n0_ := Aside0.mk (blk_grown (g := gb208) (o := .cells #[.int .i64 a0_0, .int .i64 a0_1, .slice A0_2 l0_2.length c0_2, .int .i64 a0_3, .slice A0_4 l0_4.length c0_4] 56 (0, 0)) (by (with_reducible repeat (first | refine blk_drewN ?_ _ | refine blk_drew ?_ | refine blk_alloc ?_ _)); exact BK208.out) hg (Kd.S_ne HO_5.out BK208.out (by decide))); have n1_ := Aside0.mk (blk_grown (g := gb209) (o := .cells #[.slice (some ad210) l1_0.length c1_0] 59 (0, 0)) (by (with_reducible repeat (first | refine blk_drewN ?_ _ | refine blk_drew ?_ | refine blk_alloc ?_ _)); exact BK209.out) hg (Kd.S_ne HO_5.out BK209.out (by decide))); have n2_ := Aside0.mk (blk_grown (g := gb211) (o := .cells #[.int .i64 ((rd_T162 l1_0 x6_1).f0), .int .i64 ((rd_T162 l1_0 x6_1).f1), .int .i64 ((rd_T162 l1_0 x6_1).f2)] 162 (0, 0)) (by (with_reducible repeat (first | refine blk_drewN ?_ _ | refine blk_drew ?_ | refine blk_alloc ?_ _)); exact BK211.out) hg (Kd.S_ne HO_5.out BK211.out (by decide))); have n3_ := Aside0.mk (hb); have n4_ := Aside0.mk (ho); clear BK208; clear BK209; clear BK211; clear HB; clear HO_5; clear HO_8; have BK208 := n0_; have BK209 := n1_; have BK211 := n2_; have HB := n3_; have HO217 := n4_; clear n0_ n1_ n2_ n3_ n4_; clear ho hb hg hat)); try go_wp2_with (first | ((with_reducible refine gate_builtin (b := .append) (xs := #[.tmp 83, .tmp 85]) rfl ?_); at_builtin; refine Kd.S_append (Kd.slice 4 Kd.bool) (w0 := w) w.heap.size rfl (.tmp 83) (.tmp 85) 164 127 (.slice none 0 0) 24 rfl Try.underlying164 info127 rfl (by decide) (by omega) u5 x5_1 x8_2 [.slice Ao101 x8_2.length co101] (fun _ => True) (fun k_ => some k_ = (.slice Ao101 x8_2.length co101 : Value).ownBlock) rfl rfl ?aP (fun k_ hk_ => ((Kd.R_mono (ok' := fun k_ => ((fun _ => True)) k_ ∧ some k_ ≠ (u5 : Value).ownBlock) (Kd.R_apart' (HO_8.out) (Kd.S_typed HO_5.out) (by decide)) (fun k_ hk => ⟨trivial, hk.2⟩))).1 k_ hk_.symm) ?aF ?aO ?aB ?aS ?aL ?_; (case aP => exact Kd.M_row (Kd.R_mono (Kd.R_tight rfl (Kd.R_mono (ok' := fun k_ => ((fun _ => True)) k_ ∧ some k_ ≠ (u5 : Value).ownBlock) (Kd.R_apart' (HO_8.out) (Kd.S_typed HO_5.out) (by decide)) (fun k_ hk => ⟨trivial, hk.2⟩))) (fun _ h_ => h_))); (case aB => exact (by repeat (first | (with_reducible first | exact HB.out | apply below_alloc | apply pw_below_drewN | apply below_drew1 | refine below_set ?_ GE208.out | refine below_set ?_ GE209.out | refine below_set ?_ GE211.out) | exact HB.out))); (case aF => exact (fun _ _ => trivial)); (case aO => exact (by (with_reducible repeat (first | apply Kd.S_alloc | apply Kd.S_drewN | apply Kd.S_drew)); exact Kd.S_mono HO_5.out (fun k_ hk => ⟨trivial, fun e_ => hk e_⟩))); (case aS => exact (below_size (by repeat (first | (with_reducible first | exact HB.out | apply below_alloc | apply pw_below_drewN | apply below_drew1 | refine below_set ?_ GE208.out | refine below_set ?_ GE209.out | refine below_set ?_ GE211.out) | exact HB.out)))); (case aL => have := LMc96.out; omega); intro v216 w100 ho hb hg hat; rw [← Ny215.out] at ho; have n0_ := Aside0.mk (blk_grown (g := gb208) (o := .cells #[.int .i64 a0_0, .int .i64 a0_1, .slice A0_2 l0_2.length c0_2, .int .i64 a0_3, .slice A0_4 l0_4.length c0_4] 56 (0, 0)) (by (with_reducible repeat (first | refine blk_drewN ?_ _ | refine blk_drew ?_ | refine blk_alloc ?_ _)); exact BK208.out) hg (Kd.S_ne HO_5.out BK208.out (by decide))); have n1_ := Aside0.mk (blk_grown (g := gb209) (o := .cells #[.slice (some ad210) l1_0.length c1_0] 59 (0, 0)) (by (with_reducible repeat (first | refine blk_drewN ?_ _ | refine blk_drew ?_ | refine blk_alloc ?_ _)); exact BK209.out) hg (Kd.S_ne HO_5.out BK209.out (by decide))); have n2_ := Aside0.mk (blk_grown (g := gb211) (o := .cells #[.int .i64 ((rd_T162 l1_0 x6_1).f0), .int .i64 ((rd_T162 l1_0 x6_1).f1), .int .i64 ((rd_T162 l1_0 x6_1).f2)] 162 (0, 0)) (by (with_reducible repeat (first | refine blk_drewN ?_ _ | refine blk_drew ?_ | refine blk_alloc ?_ _)); exact BK211.out) hg (Kd.S_ne HO_5.out BK211.out (by decide))); have n3_ := Aside0.mk (hb); have n4_ := Aside0.mk (ho); clear BK208; clear BK209; clear BK211; clear HB; clear HO_5; clear HO_8; have BK208 := n0_; have BK209 := n1_; have BK211 := n2_; have HB := n3_; have HO217 := n4_; clear n0_ n1_ n2_ n3_ n4_; clear ho hb hg hat)))
  go_roundg k2
  case measure => have := HK1.out; have := HK2.out; omega
  case rel => exact ⟨(y215), (wrap64 (x6_1 + 1)), (by first | rfl | (simp; done) | (simp [*]; done)), H', ⟨by have := HK1.out; have := HK2.out; omega⟩, ⟨by (with_reducible repeat (first | apply Kd.S_alloc | apply Kd.S_drewN | apply Kd.S_drew)); exact HO217.out⟩, ⟨by (with_reducible repeat (first | refine blk_drewN ?_ _ | refine blk_drew ?_ | refine blk_alloc ?_ _)); exact BK208.out⟩, ⟨by (with_reducible repeat (first | refine blk_drewN ?_ _ | refine blk_drew ?_ | refine blk_alloc ?_ _)); exact BK209.out⟩, ⟨by repeat (first | (with_reducible first | exact HB.out | apply below_alloc | apply pw_below_drewN | apply below_drew1 | refine below_set ?_ GE208.out | refine below_set ?_ GE209.out | refine below_set ?_ GE211.out) | exact HB.out)⟩⟩
 ·rw [if_neg c96] at H
  exact absurd H (by simp))
  ·rw [if_neg c8] at H
   exact absurd H (by simp)
 ·rw [if_neg c7] at H
  exact absurd H (by simp))
    ·(
 rw [if_neg c6] at H
 exact absurd H (by simp))
   ·rw [if_neg c5] at H
    have c5b0 : decide (x6_1 < (l1_0.length : Int)) = false := decide_eq_false c5
    clear c5
    obtain ⟨ji102, hji102⟩ : ∃ j_ : Int, (wrap64 ((x5_1.length : Int) - 1)) = j_ := ⟨_, rfl⟩
    replace H : (if 0 ≤ (ji102) then (if (ji102) < (x5_1.length : Int) then (evermoreref12_Accepts.l2 k1 (rd_L4 x5_1 (ji102)) 0 a0_0 a0_1 l0_2 a0_3 l0_4) else (none)) else (none)) = some r := by first | (rw [hji102] at H; exact H) | (simp only [hji102] at H ⊢; exact H)
    have hji102w : (IntKind.i64.wrap ((x5_1.length : Int) - 1)) = ji102 := (i64_w _).trans hji102
    by_cases c103 : 0 ≤ (ji102)
    ·(
 rw [if_pos c103] at H
 have c103b0 : decide (0 ≤ (ji102)) = true := decide_eq_true c103
 clear c103
 by_cases c104 : (ji102) < (x5_1.length : Int)
 ·rw [if_pos c104] at H
  have c104b0 : decide ((ji102) < (x5_1.length : Int)) = true := decide_eq_true c104
  clear c104
  have H' := Aside0.mk H
  clear H
  have hnb105 := NB209_208.out
  have hnc105 := NB208_209.out
  have hcz106_0 : wr.cell? ⟨gb209, 0, none⟩ = some (.slice A1_0 l1_0.length c1_0) := (blk_cell BK209.out 0).trans rfl
  have hfz106_0 := blk_frozen BK209.out 0
  obtain ⟨Ao107, co107, eo107⟩ := Kd.S_slice HO_5.out
  subst eo107
  have p226 : 0 ≤ ((ji102) : Int) := of_decide_eq_true (by first | (with_reducible assumption) | assumption)
  have q226 : (ji102) < (x5_1.length : Int) := of_decide_eq_true (by first | (with_reducible assumption) | assumption)
  obtain ⟨ad226, A226_0, c226_0, e226, hx226_0, hl226_0, hi226_0⟩ := at_L4 (Kd.S_reads' HO_5.out).2.2 (ji102) p226 q226
  cases e226
  obtain ⟨ce226, hce226, hMe226, hcc226⟩ := Kd.S_get HO_5.out [] (ji102) p226 (by first | exact q226 | exact of_decide_eq_true (by first | (with_reducible assumption) | assumption) | (have e_ := (Kd.S_reads' HO_5.out).1; omega))
  obtain ⟨ve226_0, rfl, ge226_0⟩ := hMe226
  have hv226_0 := hcc226 0 _ rfl
  rw [Nat.add_zero, show ((Kd.slice 4 Kd.bool)).sz = 1 from rfl, Nat.mul_one] at hv226_0
  replace hv226_0 := Option.some.inj (hv226_0.symm.trans hx226_0)
  rw [hv226_0] at ge226_0
  have HL226_0 := Aside0.mk (show Kd.R Kd.bool 4 _ _ _ _ (rd_L4 x5_1 (ji102)) from ge226_0)
  clear hv226_0 ge226_0
  clear hcc226 hce226
  have HR226_0 := Aside0.mk hi226_0
  have HC226_0 := Aside0.mk hl226_0
  clear hi226_0 hl226_0
  replace p226 := eq_true p226
  replace q226 := eq_true q226
  go_wp2
  repeat (go_quiet (fail); try go_wp2)
  go_loopg [12] k1 (fun kq v12 w' => ∃ (x12_2 : Int), v12 = .int .i64 x12_2 ∧ Aside0 (evermoreref12_Accepts.l2 kq (rd_L4 x5_1 (ji102)) x12_2 a0_0 a0_1 l0_2 a0_3 l0_4 = some r) ∧ Aside0 (kq ≤ k1) ∧ Aside0 (w'.heap[gb208]? = some (.cells #[.int .i64 a0_0, .int .i64 a0_1, (.slice A0_2 l0_2.length c0_2), .int .i64 a0_3, (.slice A0_4 l0_4.length c0_4)] 56 (0, 0))) ∧ Aside0 (w'.heap[gb209]? = some (.cells #[(.slice A1_0 l1_0.length c1_0)] 59 (0, 0))) ∧ Aside0 (Kd.C Kd.bool w' A226_0 (rd_L4 x5_1 (ji102)).length (rd_L4 x5_1 (ji102))) ∧ Aside0 (Below w.heap.size w w'))
  case atStart => exact ⟨(0), (by first | rfl | (simp; done) | (simp [*]; done)), H', ⟨Nat.le_refl _⟩, ⟨by (with_reducible repeat (first | refine blk_drewN ?_ _ | refine blk_drew ?_ | refine blk_alloc ?_ _)); exact BK208.out⟩, ⟨by (with_reducible repeat (first | refine blk_drewN ?_ _ | refine blk_drew ?_ | refine blk_alloc ?_ _)); exact BK209.out⟩, ⟨by repeat (first | (with_reducible exact HR226_0.out) | (with_reducible refine Kd.C_alloc ?_ _) | (with_reducible refine Kd.C_drewN ?_ _) | (with_reducible refine Kd.C_drew ?_) | exact HR226_0.out)⟩, ⟨by repeat (first | (with_reducible first | exact HB.out | apply below_alloc | apply pw_below_drewN | apply below_drew1 | refine below_set ?_ GE208.out | refine below_set ?_ GE209.out) | exact HB.out)⟩⟩
  case round =>
   clear H'
   try clear c1
   try clear c2
   try clear p2
   try clear q2
   try clear hx2
   try clear c3
   try clear c4
   try clear p4
   try clear q4
   try clear hx4
   try clear hf4
   try clear c5
   try clear c5b0
   try clear q5
   try clear c6
   try clear p6
   try clear q6
   try clear hx6
   try clear hf6
   try clear c7
   try clear c8
   try clear c9
   try clear c10
   try clear c18
   try clear c18b0
   try clear c19
   try clear p21
   try clear q21
   try clear hx21
   try clear c22
   try clear p22
   try clear q22
   try clear hx22
   try clear c25
   try clear c26
   try clear c27
   try clear c29
   try clear c29b0
   try clear c29b1
   try clear c30
   try clear c31
   try clear c32
   try clear c34
   try clear c35
   try clear c37
   try clear c38
   try clear c39
   try clear c41
   try clear c42
   try clear c44
   try clear c45
   try clear c45b0
   try clear c45b1
   try clear c46
   try clear c46b0
   try clear c47
   try clear c47b0
   try clear p48
   try clear q48
   try clear hx48
   try clear hf48
   try clear c49
   try clear c50
   try clear c51
   try clear c55
   try clear c55b0
   try clear c56
   try clear c56b0
   try clear c57
   try clear c57b0
   try clear c58
   try clear c58b0
   try clear q59
   try clear c60
   try clear c61
   try clear c61b0
   try clear c62
   try clear c62b0
   try clear c63
   try clear c63b0
   try clear c64
   try clear c64b0
   try clear p64
   try clear q65
   try clear c66
   try clear c67
   try clear c67b0
   try clear c68
   try clear c68b0
   try clear p69
   try clear q69
   try clear hx69
   try clear hf69
   try clear c70
   try clear c71
   try clear c72
   try clear c74
   try clear c75
   try clear c80
   try clear c81
   try clear c82
   try clear c84
   try clear c85
   try clear c88
   try clear c89
   try clear c90
   try clear c92
   try clear c93
   try clear c96
   try clear c97
   try clear c98
   try clear c103
   try clear c103b0
   try clear c104
   try clear c104b0
   try clear c105
   try clear hcz106_0
   try clear hcz10_0
   try clear hcz14_0
   try clear hcz14_1
   try clear hcz14_2
   try clear hcz15_0
   try clear hcz15_1
   try clear hcz15_2
   try clear hcz15_3
   try clear hcz15_4
   try clear hcz23_0
   try clear hcz23_1
   try clear hcz23_2
   try clear hcz23_3
   try clear hcz23_4
   try clear hcz28_0
   try clear hcz28_1
   try clear hcz28_2
   try clear hcz28_3
   try clear hcz33_0
   try clear hcz33_1
   try clear hcz33_2
   try clear hcz33_3
   try clear hcz36_0
   try clear hcz36_1
   try clear hcz36_2
   try clear hcz40_0
   try clear hcz40_1
   try clear hcz40_2
   try clear hcz40_3
   try clear hcz43_0
   try clear hcz43_1
   try clear hcz43_2
   try clear hcz52_0
   try clear hcz52_1
   try clear hcz52_2
   try clear hcz52_3
   try clear hcz73_0
   try clear hcz73_1
   try clear hcz73_2
   try clear hcz73_3
   try clear hcz76_0
   try clear hcz76_1
   try clear hcz76_2
   try clear hcz83_0
   try clear hcz83_1
   try clear hcz83_2
   try clear hcz83_3
   try clear hcz86_0
   try clear hcz86_1
   try clear hcz86_2
   try clear hcz91_0
   try clear hcz91_1
   try clear hcz91_2
   try clear hcz91_3
   try clear hcz94_0
   try clear hcz94_1
   try clear hcz94_2
   try clear hcz99_0
   try clear hcz99_1
   try clear hcz99_2
   try clear hcz99_3
   try clear hcz99_4
   try clear hfz106_0
   try clear hfz10_0
   try clear hfz14_0
   try clear hfz14_1
   try clear hfz14_2
   try clear hfz15_0
   try clear hfz15_1
   try clear hfz15_2
   try clear hfz15_3
   try clear hfz15_4
   try clear hfz23_0
   try clear hfz23_1
   try clear hfz23_2
   try clear hfz23_3
   try clear hfz23_4
   try clear hfz28_0
   try clear hfz28_1
   try clear hfz28_2
   try clear hfz28_3
   try clear hfz33_0
   try clear hfz33_1
   try clear hfz33_2
   try clear hfz33_3
   try clear hfz36_0
   try clear hfz36_1
   try clear hfz36_2
   try clear hfz40_0
   try clear hfz40_1
   try clear hfz40_2
   try clear hfz40_3
   try clear hfz43_0
   try clear hfz43_1
   try clear hfz43_2
   try clear hfz52_0
   try clear hfz52_1
   try clear hfz52_2
   try clear hfz52_3
   try clear hfz73_0
   try clear hfz73_1
   try clear hfz73_2
   try clear hfz73_3
   try clear hfz76_0
   try clear hfz76_1
   try clear hfz76_2
   try clear hfz83_0
   try clear hfz83_1
   try clear hfz83_2
   try clear hfz83_3
   try clear hfz86_0
   try clear hfz86_1
   try clear hfz86_2
   try clear hfz91_0
   try clear hfz91_1
   try clear hfz91_2
   try clear hfz91_3
   try clear hfz94_0
   try clear hfz94_1
   try clear hfz94_2
   try clear hfz99_0
   try clear hfz99_1
   try clear hfz99_2
   try clear hfz99_3
   try clear hfz99_4
   try clear hx210_0
   try clear hx210_1
   try clear hx210_2
   try clear hx218_0
   try clear hx218_1
   try clear hx218_2
   try clear hx218_3
   try clear hx221_0
   try clear hx222_0
   try clear hx223_0
   try clear hx224_0
   try clear hx226_0
   try clear hx48_0
   try clear hx69_0
   try clear p2
   try clear p210
   try clear p218
   try clear p221
   try clear p222
   try clear p223
   try clear p224
   try clear p226
   try clear p48
   try clear p69
   try clear q2
   try clear q210
   try clear q218
   try clear q221
   try clear q222
   try clear q223
   try clear q224
   try clear q226
   try clear q48
   try clear q69
   obtain ⟨x12_2, rfl, HA, HK2, BK208, BK209, HR226_0, HB⟩ := hrel
   cases gk with
   | zero => exact absurd HA.out (by simp [evermoreref12_Accepts.l2])
   | succ k2 =>
    have H := HA.out
    clear HA
    simp only [evermoreref12_Accepts.l2] at H
    by_cases c108 : x12_2 < a0_1
    ·(
 rw [if_pos c108] at H
 have c108b0 : decide (x12_2 < a0_1) = true := decide_eq_true c108
 clear c108
 by_cases c109 : 0 ≤ x12_2
 ·rw [if_pos c109] at H
  have c109b0 : decide (0 ≤ x12_2) = true := decide_eq_true c109
  clear c109
  by_cases c110 : x12_2 < ((rd_L4 x5_1 (ji102)).length : Int)
  ·rw [if_pos c110] at H
   have c110b0 : decide (x12_2 < ((rd_L4 x5_1 (ji102)).length : Int)) = true := decide_eq_true c110
   clear c110
   obtain ⟨bq111, hbq111⟩ : ∃ b_ : Bool, b_ = (rdOf false (rd_L4 x5_1 (ji102)) x12_2) := ⟨_, rfl⟩
   replace H : (if bq111 = true then (if x12_2 < (l0_4.length : Int) then (if (rd l0_4 x12_2) = 1 then (some true) else (evermoreref12_Accepts.l2 k2 (rd_L4 x5_1 (ji102)) (wrap64 (x12_2 + 1)) a0_0 a0_1 l0_2 a0_3 l0_4)) else (none)) else (evermoreref12_Accepts.l2 k2 (rd_L4 x5_1 (ji102)) (wrap64 (x12_2 + 1)) a0_0 a0_1 l0_2 a0_3 l0_4)) = some r := by rw [← hbq111] at H; exact H
   have Nbq111 := Aside0.mk hbq111
   clear hbq111
   by_cases c112 : bq111 = true
   ·subst c112
    have H1 : (if x12_2 < (l0_4.length : Int) then (if (rd l0_4 x12_2) = 1 then (some true) else (evermoreref12_Accepts.l2 k2 (rd_L4 x5_1 (ji102)) (wrap64 (x12_2 + 1)) a0_0 a0_1 l0_2 a0_3 l0_4)) else (none)) = some r := by rw [if_pos rfl] at H; exact H
    clear H
    have H := H1
    clear H1
    by_cases c113 : x12_2 < (l0_4.length : Int)
    ·(
 rw [if_pos c113] at H
 have c113b0 : decide (x12_2 < (l0_4.length : Int)) = true := decide_eq_true c113
 clear c113
 by_cases c114 : (rd l0_4 x12_2) = 1
 ·rw [if_pos c114] at H
  have c114b0 : ((rd l0_4 x12_2) == 1) = true := beq_iff_eq.mpr c114
  have c114b1 : ((rd l0_4 x12_2) != 1) = false := bne_eq_false_iff_eq.mpr c114
  clear c114
  obtain rfl := Option.some.inj H
  have hnb115 := NB208_209.out
  have hnc115 := NB209_208.out
  have hcz116_0 : wr.cell? ⟨gb208, 0, none⟩ = some (.int .i64 a0_0) := (blk_cell BK208.out 0).trans rfl
  have hcz116_1 : wr.cell? ⟨gb208, 1, none⟩ = some (.int .i64 a0_1) := (blk_cell BK208.out 1).trans rfl
  have hcz116_2 : wr.cell? ⟨gb208, 2, none⟩ = some (.slice A0_2 l0_2.length c0_2) := (blk_cell BK208.out 2).trans rfl
  have hcz116_3 : wr.cell? ⟨gb208, 3, none⟩ = some (.int .i64 a0_3) := (blk_cell BK208.out 3).trans rfl
  have hcz116_4 : wr.cell? ⟨gb208, 4, none⟩ = some (.slice A0_4 l0_4.length c0_4) := (blk_cell BK208.out 4).trans rfl
  have hfz116_0 := blk_frozen BK208.out 0
  have hfz116_1 := blk_frozen BK208.out 1
  have hfz116_2 := blk_frozen BK208.out 2
  have hfz116_3 := blk_frozen BK208.out 3
  have hfz116_4 := blk_frozen BK208.out 4
  have p227 : 0 ≤ (x12_2 : Int) := of_decide_eq_true (by first | (with_reducible assumption) | assumption)
  have q227 : x12_2 < ((rd_L4 x5_1 (ji102)).length : Int) := of_decide_eq_true (by first | (with_reducible assumption) | assumption)
  obtain ⟨ad227, e227, hx227_0⟩ := Kd.at_bool HR226_0.out x12_2 p227 q227
  (try rw [← Nbq111.out] at hx227_0)
  cases e227
  skip
  replace p227 := eq_true p227
  replace q227 := eq_true q227
  have p228 : 0 ≤ (x12_2 : Int) := of_decide_eq_true (by first | (with_reducible assumption) | assumption)
  have q228 : x12_2 < (l0_4.length : Int) := of_decide_eq_true (by first | (with_reducible assumption) | assumption)
  obtain ⟨ad228, e228, hx228_0⟩ := Kd.at_int HR0_4.out x12_2 p228 q228
  cases e228
  replace hx228_0 := (HB.out.cell (World.block_lt_of_cell? w _ hx228_0)).trans hx228_0
  replace p228 := eq_true p228
  replace q228 := eq_true q228
  go_wp2
  repeat (go_quiet (fail); try go_wp2)
  go_ret
  exact ⟨by first | rfl | (simp [errW_none, errW_some] <;> rfl) | (simp only [← hji102]; first | rfl | (simp [errW_none, errW_some] <;> rfl)) | (simp [*, errW_none, errW_some] <;> rfl), by repeat (first | (with_reducible first | exact HB.out | apply below_alloc | apply pw_below_drewN | apply below_drew1 | refine below_set ?_ GE208.out | refine below_set ?_ GE209.out) | exact HB.out)⟩
 ·rw [if_neg c114] at H
  have c114b0 : ((rd l0_4 x12_2) == 1) = false := beq_eq_false_iff_ne.mpr c114
  have c114b1 : ((rd l0_4 x12_2) != 1) = true := bne_iff_ne.mpr c114
  have H' := Aside0.mk H
  clear H
  have hnb117 := NB208_209.out
  have hnc117 := NB209_208.out
  have hcz118_0 : wr.cell? ⟨gb208, 0, none⟩ = some (.int .i64 a0_0) := (blk_cell BK208.out 0).trans rfl
  have hcz118_1 : wr.cell? ⟨gb208, 1, none⟩ = some (.int .i64 a0_1) := (blk_cell BK208.out 1).trans rfl
  have hcz118_2 : wr.cell? ⟨gb208, 2, none⟩ = some (.slice A0_2 l0_2.length c0_2) := (blk_cell BK208.out 2).trans rfl
  have hcz118_3 : wr.cell? ⟨gb208, 3, none⟩ = some (.int .i64 a0_3) := (blk_cell BK208.out 3).trans rfl
  have hcz118_4 : wr.cell? ⟨gb208, 4, none⟩ = some (.slice A0_4 l0_4.length c0_4) := (blk_cell BK208.out 4).trans rfl
  have hfz118_0 := blk_frozen BK208.out 0
  have hfz118_1 := blk_frozen BK208.out 1
  have hfz118_2 := blk_frozen BK208.out 2
  have hfz118_3 := blk_frozen BK208.out 3
  have hfz118_4 := blk_frozen BK208.out 4
  have p227 : 0 ≤ (x12_2 : Int) := of_decide_eq_true (by first | (with_reducible assumption) | assumption)
  have q227 : x12_2 < ((rd_L4 x5_1 (ji102)).length : Int) := of_decide_eq_true (by first | (with_reducible assumption) | assumption)
  obtain ⟨ad227, e227, hx227_0⟩ := Kd.at_bool HR226_0.out x12_2 p227 q227
  (try rw [← Nbq111.out] at hx227_0)
  cases e227
  skip
  replace p227 := eq_true p227
  replace q227 := eq_true q227
  have p228 : 0 ≤ (x12_2 : Int) := of_decide_eq_true (by first | (with_reducible assumption) | assumption)
  have q228 : x12_2 < (l0_4.length : Int) := of_decide_eq_true (by first | (with_reducible assumption) | assumption)
  obtain ⟨ad228, e228, hx228_0⟩ := Kd.at_int HR0_4.out x12_2 p228 q228
  cases e228
  replace hx228_0 := (HB.out.cell (World.block_lt_of_cell? w _ hx228_0)).trans hx228_0
  replace p228 := eq_true p228
  replace q228 := eq_true q228
  go_wp2
  repeat (go_quiet (fail); try go_wp2)
  go_roundg k2
  case measure => have := HK1.out; have := HK2.out; omega
  case rel => exact ⟨(wrap64 (x12_2 + 1)), (by first | rfl | (simp; done) | (simp [*]; done)), H', ⟨by have := HK1.out; have := HK2.out; omega⟩, ⟨by (with_reducible repeat (first | refine blk_drewN ?_ _ | refine blk_drew ?_ | refine blk_alloc ?_ _)); exact BK208.out⟩, ⟨by (with_reducible repeat (first | refine blk_drewN ?_ _ | refine blk_drew ?_ | refine blk_alloc ?_ _)); exact BK209.out⟩, ⟨by repeat (first | (with_reducible exact HR226_0.out) | (with_reducible refine Kd.C_alloc ?_ _) | (with_reducible refine Kd.C_drewN ?_ _) | (with_reducible refine Kd.C_drew ?_) | exact HR226_0.out)⟩, ⟨by repeat (first | (with_reducible first | exact HB.out | apply below_alloc | apply pw_below_drewN | apply below_drew1 | refine below_set ?_ GE208.out | refine below_set ?_ GE209.out) | exact HB.out)⟩⟩)
    ·(
 rw [if_neg c113] at H
 exact absurd H (by simp))
   ·replace c112 := Bool.eq_false_iff.mpr c112
    subst c112
    have H1 : (evermoreref12_Accepts.l2 k2 (rd_L4 x5_1 (ji102)) (wrap64 (x12_2 + 1)) a0_0 a0_1 l0_2 a0_3 l0_4) = some r := by rw [if_neg (show ¬ (false = true) by decide)] at H; exact H
    clear H
    have H := H1
    clear H1
    have H' := Aside0.mk H
    clear H
    have hnb119 := NB208_209.out
    have hnc119 := NB209_208.out
    have hcz120_0 : wr.cell? ⟨gb208, 0, none⟩ = some (.int .i64 a0_0) := (blk_cell BK208.out 0).trans rfl
    have hcz120_1 : wr.cell? ⟨gb208, 1, none⟩ = some (.int .i64 a0_1) := (blk_cell BK208.out 1).trans rfl
    have hcz120_2 : wr.cell? ⟨gb208, 2, none⟩ = some (.slice A0_2 l0_2.length c0_2) := (blk_cell BK208.out 2).trans rfl
    have hcz120_3 : wr.cell? ⟨gb208, 3, none⟩ = some (.int .i64 a0_3) := (blk_cell BK208.out 3).trans rfl
    have hcz120_4 : wr.cell? ⟨gb208, 4, none⟩ = some (.slice A0_4 l0_4.length c0_4) := (blk_cell BK208.out 4).trans rfl
    have hfz120_0 := blk_frozen BK208.out 0
    have hfz120_1 := blk_frozen BK208.out 1
    have hfz120_2 := blk_frozen BK208.out 2
    have hfz120_3 := blk_frozen BK208.out 3
    have hfz120_4 := blk_frozen BK208.out 4
    have p227 : 0 ≤ (x12_2 : Int) := of_decide_eq_true (by first | (with_reducible assumption) | assumption)
    have q227 : x12_2 < ((rd_L4 x5_1 (ji102)).length : Int) := of_decide_eq_true (by first | (with_reducible assumption) | assumption)
    obtain ⟨ad227, e227, hx227_0⟩ := Kd.at_bool HR226_0.out x12_2 p227 q227
    (try rw [← Nbq111.out] at hx227_0)
    cases e227
    skip
    replace p227 := eq_true p227
    replace q227 := eq_true q227
    go_wp2
    repeat (go_quiet (fail); try go_wp2)
    go_roundg k2
    case measure => have := HK1.out; have := HK2.out; omega
    case rel => exact ⟨(wrap64 (x12_2 + 1)), (by first | rfl | (simp; done) | (simp [*]; done)), H', ⟨by have := HK1.out; have := HK2.out; omega⟩, ⟨by (with_reducible repeat (first | refine blk_drewN ?_ _ | refine blk_drew ?_ | refine blk_alloc ?_ _)); exact BK208.out⟩, ⟨by (with_reducible repeat (first | refine blk_drewN ?_ _ | refine blk_drew ?_ | refine blk_alloc ?_ _)); exact BK209.out⟩, ⟨by repeat (first | (with_reducible exact HR226_0.out) | (with_reducible refine Kd.C_alloc ?_ _) | (with_reducible refine Kd.C_drewN ?_ _) | (with_reducible refine Kd.C_drew ?_) | exact HR226_0.out)⟩, ⟨by repeat (first | (with_reducible first | exact HB.out | apply below_alloc | apply pw_below_drewN | apply below_drew1 | refine below_set ?_ GE208.out | refine below_set ?_ GE209.out) | exact HB.out)⟩⟩
  ·rw [if_neg c110] at H
   exact absurd H (by simp)
 ·rw [if_neg c109] at H
  exact absurd H (by simp))
    ·(
 rw [if_neg c108] at H
 have c108b0 : decide (x12_2 < a0_1) = false := decide_eq_false c108
 clear c108
 obtain rfl := Option.some.inj H
 have hnb121 := NB208_209.out
 have hnc121 := NB209_208.out
 have hcz122_0 : wr.cell? ⟨gb208, 0, none⟩ = some (.int .i64 a0_0) := (blk_cell BK208.out 0).trans rfl
 have hcz122_1 : wr.cell? ⟨gb208, 1, none⟩ = some (.int .i64 a0_1) := (blk_cell BK208.out 1).trans rfl
 have hcz122_2 : wr.cell? ⟨gb208, 2, none⟩ = some (.slice A0_2 l0_2.length c0_2) := (blk_cell BK208.out 2).trans rfl
 have hcz122_3 : wr.cell? ⟨gb208, 3, none⟩ = some (.int .i64 a0_3) := (blk_cell BK208.out 3).trans rfl
 have hcz122_4 : wr.cell? ⟨gb208, 4, none⟩ = some (.slice A0_4 l0_4.length c0_4) := (blk_cell BK208.out 4).trans rfl
 have hfz122_0 := blk_frozen BK208.out 0
 have hfz122_1 := blk_frozen BK208.out 1
 have hfz122_2 := blk_frozen BK208.out 2
 have hfz122_3 := blk_frozen BK208.out 3
 have hfz122_4 := blk_frozen BK208.out 4
 go_wp2
 repeat (go_quiet (fail); try go_wp2)
 go_ret
 exact ⟨by first | rfl | (simp [errW_none, errW_some] <;> rfl) | (simp only [← hji102]; first | rfl | (simp [errW_none, errW_some] <;> rfl)) | (simp [*, errW_none, errW_some] <;> rfl), by repeat (first | (with_reducible first | exact HB.out | apply below_alloc | apply pw_below_drewN | apply below_drew1 | refine below_set ?_ GE208.out | refine below_set ?_ GE209.out) | exact HB.out)⟩)
 ·rw [if_neg c104] at H
  exact absurd H (by simp))
    ·(
 rw [if_neg c103] at H
 exact absurd H (by simp))
end Go.Proofs.Yteacnmjinjaapaa.PTreeAccepts
