-- Printed over the kit's print by a program of this session (wip/hprint.py), with contracts of its own hand.
import Derived.Test.YthbdmfhobienaaaPSynthSaysx0
namespace Go.Proofs.Ythbdmfhobienaaa.PSynthSays
open Go.RowKit Go.Proofs.YthbdmfhobienaaaW.PrintWords Go.Proofs.YthbdmfhobienaaaW.PrintLast Go.Proofs.YthbdmfhobienaaaW.PrintMore
attribute [local go_sem] max2_int min2_int max_two min_two max_three min_three max_four min_four   -- for this text's walks alone
set_option linter.unusedVariables false
set_option linter.unusedSimpArgs false
/-- one of two cells side by side, by its number -/
theorem dyn2_3 {w : World} {a : Addr} {v0 v1 : Int} {T : Int} (h0 : w.cell? a = some (.int .i64 v0)) (h1 : w.cell? ⟨a.block, a.off + 1, none⟩ = some (.int .i64 v1)) (hp : 0 ≤ T) (hq : T < 2) : w.cell? (a.add T.toNat) = some (.int .i64 (asel2 T v0 v1)) := by
 unfold Addr.add asel2
 by_cases h : T = 0
 ·rw [if_pos h, if_pos (show T.toNat = 0 by omega)]; exact h0
 ·rw [if_neg h, if_neg (show ¬ T.toNat = 0 by omega), show T.toNat = 1 by omega]; exact h1

/-! ### evermoreref11_Check: function 59 -/
mutual
def evermoreref11_Check.j0 : Nat → Int → Bool → Bool → Int → List (S87) → List (S87) → Option (Int)
 | 0, _, _, _, _, _, _ => none
 | k + 1, x3, x22, x164000, x164001, x164002, x164003 => if x22 = true then (some 1) else (if x164001 < 0 then (evermoreref11_Check.j1 k x3 true x164000 x164001 x164002 x164003) else (evermoreref11_Check.j1 k x3 (decide (x164001 ≥ x3)) x164000 x164001 x164002 x164003))
def evermoreref11_Check.j1 : Nat → Int → Bool → Bool → Int → List (S87) → List (S87) → Option (Int)
 | 0, _, _, _, _, _, _ => none
 | k + 1, x3, x31, x164000, x164001, x164002, x164003 => if x31 = true then (some 2) else (evermoreref11_Check.l0 k x3 0 x164000 x164001 x164002 x164003)
def evermoreref11_Check.l0 : Nat → Int → Int → Bool → Int → List (S87) → List (S87) → Option (Int)
 | 0, _, _, _, _, _, _ => none
 | k + 1, x3, x4, x164000, x164001, x164002, x164003 => if x4 < x3 then (evermoreref11_Check.l1 k x3 x4 0 x164000 x164001 x164002 x164003) else (evermoreref11_Check.l2 k x3 0 x164000 x164001 x164002 x164003)
def evermoreref11_Check.l1 : Nat → Int → Int → Int → Bool → Int → List (S87) → List (S87) → Option (Int)
 | 0, _, _, _, _, _, _, _ => none
 | k + 1, x3, x4, x5, x164000, x164001, x164002, x164003 => if x5 < 2 then (if 0 ≤ x4 then (if x4 < (x164003.length : Int) then (if 0 ≤ x5 then (if (asel2 x5 ((rd_T87 x164003 x4).f0) ((rd_T87 x164003 x4).f1)) < 0 then (some 2) else (if (asel2 x5 ((rd_T87 x164003 x4).f0) ((rd_T87 x164003 x4).f1)) ≥ x3 then (some 2) else (if x4 < (x164002.length : Int) then (if (asel2 x5 ((rd_T87 x164002 x4).f0) ((rd_T87 x164002 x4).f1)) < 0 then (some 2) else (if (asel2 x5 ((rd_T87 x164002 x4).f0) ((rd_T87 x164002 x4).f1)) > 1 then (some 2) else (evermoreref11_Check.l1 k x3 x4 (wrap64 (x5 + 1)) x164000 x164001 x164002 x164003))) else (none)))) else (none)) else (none)) else (none)) else (evermoreref11_Check.l0 k x3 (wrap64 (x4 + 1)) x164000 x164001 x164002 x164003)
def evermoreref11_Check.l2 : Nat → Int → Int → Bool → Int → List (S87) → List (S87) → Option (Int)
 | 0, _, _, _, _, _, _ => none
 | k + 1, x3, x6, x164000, x164001, x164002, x164003 => if x6 < x3 then (if x164000 = true then (if 0 ≤ x6 then (if x6 < (x164002.length : Int) then (if ((rd_T87 x164002 x6).f0) = ((rd_T87 x164002 x6).f1) then (evermoreref11_Check.l2 k x3 (wrap64 (x6 + 1)) x164000 x164001 x164002 x164003) else (some 3)) else (none)) else (none)) else (evermoreref11_Check.l2 k x3 (wrap64 (x6 + 1)) x164000 x164001 x164002 x164003)) else (some 0)
end
def evermoreref11_Check.f (k : Nat) (a0_0 : Bool) (a0_1 : Int) (l0_2 : List (S87)) (l0_3 : List (S87)) : Option (Int) := if (l0_2.length : Int) < 1 then (evermoreref11_Check.j0 k (l0_2.length : Int) true a0_0 a0_1 l0_2 l0_3) else (if (l0_2.length : Int) > 20000 then (evermoreref11_Check.j0 k (l0_2.length : Int) true a0_0 a0_1 l0_2 l0_3) else (evermoreref11_Check.j0 k (l0_2.length : Int) ((l0_3.length : Int) != (l0_2.length : Int)) a0_0 a0_1 l0_2 l0_3))
theorem evermoreref11_Check.mono_l : ∀ k, (∀ y0 y1 y2 y3 y4 y5, LeO (evermoreref11_Check.j0 k y0 y1 y2 y3 y4 y5) (evermoreref11_Check.j0 (k + 1) y0 y1 y2 y3 y4 y5)) ∧ (∀ y0 y1 y2 y3 y4 y5, LeO (evermoreref11_Check.j1 k y0 y1 y2 y3 y4 y5) (evermoreref11_Check.j1 (k + 1) y0 y1 y2 y3 y4 y5)) ∧ (∀ y0 y1 y2 y3 y4 y5, LeO (evermoreref11_Check.l0 k y0 y1 y2 y3 y4 y5) (evermoreref11_Check.l0 (k + 1) y0 y1 y2 y3 y4 y5)) ∧ (∀ y0 y1 y2 y3 y4 y5 y6, LeO (evermoreref11_Check.l1 k y0 y1 y2 y3 y4 y5 y6) (evermoreref11_Check.l1 (k + 1) y0 y1 y2 y3 y4 y5 y6)) ∧ (∀ y0 y1 y2 y3 y4 y5, LeO (evermoreref11_Check.l2 k y0 y1 y2 y3 y4 y5) (evermoreref11_Check.l2 (k + 1) y0 y1 y2 y3 y4 y5))
 | 0 => ⟨fun _ _ _ _ _ _ r h => by simp [evermoreref11_Check.j0] at h, fun _ _ _ _ _ _ r h => by simp [evermoreref11_Check.j1] at h, fun _ _ _ _ _ _ r h => by simp [evermoreref11_Check.l0] at h, fun _ _ _ _ _ _ _ r h => by simp [evermoreref11_Check.l1] at h, fun _ _ _ _ _ _ r h => by simp [evermoreref11_Check.l2] at h⟩
 | k + 1 => by
  obtain ⟨ih0, ih1, ih2, ih3, ih4⟩ := evermoreref11_Check.mono_l k
  refine ⟨?_, ?_, ?_, ?_, ?_⟩
  ·intro y0 y1 y2 y3 y4 y5
   unfold evermoreref11_Check.j0
   repeat' first
   | (with_reducible exact ih0 _ _ _ _ _ _)
   | (with_reducible exact ih1 _ _ _ _ _ _)
   | (with_reducible exact ih2 _ _ _ _ _ _)
   | (with_reducible exact ih3 _ _ _ _ _ _ _)
   | (with_reducible exact ih4 _ _ _ _ _ _)
   | (with_reducible exact LeO.refl _)
   | (with_reducible exact LeO.none _)
   | (with_reducible refine LeO.ite ?_ ?_)
   | (with_reducible refine LeO.bind ?_ (fun _ => ?_))
   | exact ih0 _ _ _ _ _ _
   | exact ih1 _ _ _ _ _ _
   | exact ih2 _ _ _ _ _ _
   | exact ih3 _ _ _ _ _ _ _
   | exact ih4 _ _ _ _ _ _
   | exact LeO.none _
   | refine LeO.ite ?_ ?_
   | refine LeO.bind ?_ (fun _ => ?_)
  ·intro y0 y1 y2 y3 y4 y5
   unfold evermoreref11_Check.j1
   repeat' first
   | (with_reducible exact ih0 _ _ _ _ _ _)
   | (with_reducible exact ih1 _ _ _ _ _ _)
   | (with_reducible exact ih2 _ _ _ _ _ _)
   | (with_reducible exact ih3 _ _ _ _ _ _ _)
   | (with_reducible exact ih4 _ _ _ _ _ _)
   | (with_reducible exact LeO.refl _)
   | (with_reducible exact LeO.none _)
   | (with_reducible refine LeO.ite ?_ ?_)
   | (with_reducible refine LeO.bind ?_ (fun _ => ?_))
   | exact ih0 _ _ _ _ _ _
   | exact ih1 _ _ _ _ _ _
   | exact ih2 _ _ _ _ _ _
   | exact ih3 _ _ _ _ _ _ _
   | exact ih4 _ _ _ _ _ _
   | exact LeO.none _
   | refine LeO.ite ?_ ?_
   | refine LeO.bind ?_ (fun _ => ?_)
  ·intro y0 y1 y2 y3 y4 y5
   unfold evermoreref11_Check.l0
   repeat' first
   | (with_reducible exact ih0 _ _ _ _ _ _)
   | (with_reducible exact ih1 _ _ _ _ _ _)
   | (with_reducible exact ih2 _ _ _ _ _ _)
   | (with_reducible exact ih3 _ _ _ _ _ _ _)
   | (with_reducible exact ih4 _ _ _ _ _ _)
   | (with_reducible exact LeO.refl _)
   | (with_reducible exact LeO.none _)
   | (with_reducible refine LeO.ite ?_ ?_)
   | (with_reducible refine LeO.bind ?_ (fun _ => ?_))
   | exact ih0 _ _ _ _ _ _
   | exact ih1 _ _ _ _ _ _
   | exact ih2 _ _ _ _ _ _
   | exact ih3 _ _ _ _ _ _ _
   | exact ih4 _ _ _ _ _ _
   | exact LeO.none _
   | refine LeO.ite ?_ ?_
   | refine LeO.bind ?_ (fun _ => ?_)
  ·intro y0 y1 y2 y3 y4 y5 y6
   unfold evermoreref11_Check.l1
   repeat' first
   | (with_reducible exact ih0 _ _ _ _ _ _)
   | (with_reducible exact ih1 _ _ _ _ _ _)
   | (with_reducible exact ih2 _ _ _ _ _ _)
   | (with_reducible exact ih3 _ _ _ _ _ _ _)
   | (with_reducible exact ih4 _ _ _ _ _ _)
   | (with_reducible exact LeO.refl _)
   | (with_reducible exact LeO.none _)
   | (with_reducible refine LeO.ite ?_ ?_)
   | (with_reducible refine LeO.bind ?_ (fun _ => ?_))
   | exact ih0 _ _ _ _ _ _
   | exact ih1 _ _ _ _ _ _
   | exact ih2 _ _ _ _ _ _
   | exact ih3 _ _ _ _ _ _ _
   | exact ih4 _ _ _ _ _ _
   | exact LeO.none _
   | refine LeO.ite ?_ ?_
   | refine LeO.bind ?_ (fun _ => ?_)
  ·intro y0 y1 y2 y3 y4 y5
   unfold evermoreref11_Check.l2
   repeat' first
   | (with_reducible exact ih0 _ _ _ _ _ _)
   | (with_reducible exact ih1 _ _ _ _ _ _)
   | (with_reducible exact ih2 _ _ _ _ _ _)
   | (with_reducible exact ih3 _ _ _ _ _ _ _)
   | (with_reducible exact ih4 _ _ _ _ _ _)
   | (with_reducible exact LeO.refl _)
   | (with_reducible exact LeO.none _)
   | (with_reducible refine LeO.ite ?_ ?_)
   | (with_reducible refine LeO.bind ?_ (fun _ => ?_))
   | exact ih0 _ _ _ _ _ _
   | exact ih1 _ _ _ _ _ _
   | exact ih2 _ _ _ _ _ _
   | exact ih3 _ _ _ _ _ _ _
   | exact ih4 _ _ _ _ _ _
   | exact LeO.none _
   | refine LeO.ite ?_ ?_
   | refine LeO.bind ?_ (fun _ => ?_)
theorem evermoreref11_Check.mono : ∀ a0 a1 a2 a3 k, LeO (evermoreref11_Check.f k a0 a1 a2 a3) (evermoreref11_Check.f (k + 1) a0 a1 a2 a3) := by
 intro a0 a1 a2 a3 k
 obtain ⟨ih0, ih1, ih2, ih3, ih4⟩ := evermoreref11_Check.mono_l k
 unfold evermoreref11_Check.f
 repeat' first
   | (with_reducible exact ih0 _ _ _ _ _ _)
   | (with_reducible exact ih1 _ _ _ _ _ _)
   | (with_reducible exact ih2 _ _ _ _ _ _)
   | (with_reducible exact ih3 _ _ _ _ _ _ _)
   | (with_reducible exact ih4 _ _ _ _ _ _)
   | (with_reducible exact LeO.refl _)
   | (with_reducible exact LeO.none _)
   | (with_reducible refine LeO.ite ?_ ?_)
   | (with_reducible refine LeO.bind ?_ (fun _ => ?_))
   | exact ih0 _ _ _ _ _ _
   | exact ih1 _ _ _ _ _ _
   | exact ih2 _ _ _ _ _ _
   | exact ih3 _ _ _ _ _ _ _
   | exact ih4 _ _ _ _ _ _
   | exact LeO.none _
   | refine LeO.ite ?_ ?_
   | refine LeO.bind ?_ (fun _ => ?_)
set_option maxHeartbeats 8000000 in
set_option maxRecDepth 100000 in
theorem evermoreref11_Check.calls (k : Nat) (a0_0 : Bool) (a0_1 : Int) (A0_2 : Option Addr) (c0_2 : Nat) (l0_2 : List (S87)) (A0_3 : Option Addr) (c0_3 : Nat) (l0_3 : List (S87)) (r : Int) (w : World) (hr0_2 : Kd.C k87 w A0_2 l0_2.length l0_2) (hc0_2 : l0_2.length ≤ c0_2) (hr0_3 : Kd.C k87 w A0_3 l0_3.length l0_3) (hc0_3 : l0_3.length ≤ c0_3) (h : evermoreref11_Check.f k a0_0 a0_1 l0_2 l0_3 = some r) :
  Calls Try.prog 59 #[.agg #[.bool a0_0, .int .i64 a0_1, .slice A0_2 l0_2.length c0_2, .slice A0_3 l0_3.length c0_3]] w fun e w' => e = .returned (.int .i64 r) ∧ Below w.heap.size w w' := by
 have hu42 := Try.underlying42
 have HR0_2 := Aside0.mk hr0_2
 have HC0_2 := Aside0.mk hc0_2
 clear hr0_2 hc0_2
 have HR0_3 := Aside0.mk hr0_3
 have HC0_3 := Aside0.mk hc0_3
 clear hr0_3 hc0_3
 have HB := Aside0.mk (Below.refl w.heap.size w)
 have H : (if (l0_2.length : Int) < 1 then (evermoreref11_Check.j0 k (l0_2.length : Int) true a0_0 a0_1 l0_2 l0_3) else (if (l0_2.length : Int) > 20000 then (evermoreref11_Check.j0 k (l0_2.length : Int) true a0_0 a0_1 l0_2 l0_3) else (evermoreref11_Check.j0 k (l0_2.length : Int) ((l0_3.length : Int) != (l0_2.length : Int)) a0_0 a0_1 l0_2 l0_3))) = some r := h
 clear h
 have HC2 := Aside0.mk H
 clear H
 go_enter Try.func59, Try.ntmps59
 go_upto_region 2 with (first | ((with_reducible refine gate_dst (N := 1) rfl ?_); (try (refine gate_guard (by rfl) ?_; dsimp only)); refine box_event ?hg (N := 1) ?hd (cs := #[.bool a0_0, .int .i64 a0_1, .slice A0_2 l0_2.length c0_2, .slice A0_3 l0_3.length c0_3]) (t := 42) ?hr ?_; (case hd => rfl); (case hg => rfl); (case hr => first | (go_simp; done) | (go_simp; rfl)); intro gb163 hg w3 hbox hb; have n0_ := Aside0.mk (below_step (by repeat (first | (with_reducible first | exact HB.out | apply below_alloc | apply pw_below_drewN | apply below_drew1) | exact HB.out)) hb); have n1_ := Aside0.mk (hbox); have n2_ := Aside0.mk ((by rw [hg]; exact (below_size (by repeat (first | (with_reducible first | exact HB.out | apply below_alloc | apply pw_below_drewN | apply below_drew1) | exact HB.out))) : w.heap.size ≤ gb163)); have n3_ := Aside0.mk ((by rw [hg]; exact (below_size (by repeat (first | (with_reducible first | exact HB.out | apply below_alloc | apply pw_below_drewN | apply below_drew1) | exact HB.out))) : w.heap.size ≤ gb163)); clear HB; have HB := n0_; have BK163 := n1_; have GW163 := n2_; have GE163 := n3_; clear n0_ n1_ n2_ n3_; clear hb hbox hg; have hcz4_0 : w3.cell? ⟨gb163, 0, none⟩ = some (.bool a0_0) := (blk_cell BK163.out 0).trans rfl; have hcz4_1 : w3.cell? ⟨gb163, 1, none⟩ = some (.int .i64 a0_1) := (blk_cell BK163.out 1).trans rfl; have hcz4_2 : w3.cell? ⟨gb163, 2, none⟩ = some (.slice A0_2 l0_2.length c0_2) := (blk_cell BK163.out 2).trans rfl; have hcz4_3 : w3.cell? ⟨gb163, 3, none⟩ = some (.slice A0_3 l0_3.length c0_3) := (blk_cell BK163.out 3).trans rfl; have hfz4_0 := blk_frozen BK163.out 0; have hfz4_1 := blk_frozen BK163.out 1; have hfz4_2 := blk_frozen BK163.out 2; have hfz4_3 := blk_frozen BK163.out 3))
 repeat (go_quiet (first | ((with_reducible refine gate_dst (N := 1) rfl ?_); (try (refine gate_guard (by rfl) ?_; dsimp only)); refine box_event ?hg (N := 1) ?hd (cs := #[.bool a0_0, .int .i64 a0_1, .slice A0_2 l0_2.length c0_2, .slice A0_3 l0_3.length c0_3]) (t := 42) ?hr ?_; (case hd => rfl); (case hg => rfl); (case hr => first | (go_simp; done) | (go_simp; rfl)); intro gb163 hg w3 hbox hb; have n0_ := Aside0.mk (below_step (by repeat (first | (with_reducible first | exact HB.out | apply below_alloc | apply pw_below_drewN | apply below_drew1) | exact HB.out)) hb); have n1_ := Aside0.mk (hbox); have n2_ := Aside0.mk ((by rw [hg]; exact (below_size (by repeat (first | (with_reducible first | exact HB.out | apply below_alloc | apply pw_below_drewN | apply below_drew1) | exact HB.out))) : w.heap.size ≤ gb163)); have n3_ := Aside0.mk ((by rw [hg]; exact (below_size (by repeat (first | (with_reducible first | exact HB.out | apply below_alloc | apply pw_below_drewN | apply below_drew1) | exact HB.out))) : w.heap.size ≤ gb163)); clear HB; have HB := n0_; have BK163 := n1_; have GW163 := n2_; have GE163 := n3_; clear n0_ n1_ n2_ n3_; clear hb hbox hg; have hcz4_0 : w3.cell? ⟨gb163, 0, none⟩ = some (.bool a0_0) := (blk_cell BK163.out 0).trans rfl; have hcz4_1 : w3.cell? ⟨gb163, 1, none⟩ = some (.int .i64 a0_1) := (blk_cell BK163.out 1).trans rfl; have hcz4_2 : w3.cell? ⟨gb163, 2, none⟩ = some (.slice A0_2 l0_2.length c0_2) := (blk_cell BK163.out 2).trans rfl; have hcz4_3 : w3.cell? ⟨gb163, 3, none⟩ = some (.slice A0_3 l0_3.length c0_3) := (blk_cell BK163.out 3).trans rfl; have hfz4_0 := blk_frozen BK163.out 0; have hfz4_1 := blk_frozen BK163.out 1; have hfz4_2 := blk_frozen BK163.out 2; have hfz4_3 := blk_frozen BK163.out 3)); go_upto_region 2 with (first | ((with_reducible refine gate_dst (N := 1) rfl ?_); (try (refine gate_guard (by rfl) ?_; dsimp only)); refine box_event ?hg (N := 1) ?hd (cs := #[.bool a0_0, .int .i64 a0_1, .slice A0_2 l0_2.length c0_2, .slice A0_3 l0_3.length c0_3]) (t := 42) ?hr ?_; (case hd => rfl); (case hg => rfl); (case hr => first | (go_simp; done) | (go_simp; rfl)); intro gb163 hg w3 hbox hb; have n0_ := Aside0.mk (below_step (by repeat (first | (with_reducible first | exact HB.out | apply below_alloc | apply pw_below_drewN | apply below_drew1) | exact HB.out)) hb); have n1_ := Aside0.mk (hbox); have n2_ := Aside0.mk ((by rw [hg]; exact (below_size (by repeat (first | (with_reducible first | exact HB.out | apply below_alloc | apply pw_below_drewN | apply below_drew1) | exact HB.out))) : w.heap.size ≤ gb163)); have n3_ := Aside0.mk ((by rw [hg]; exact (below_size (by repeat (first | (with_reducible first | exact HB.out | apply below_alloc | apply pw_below_drewN | apply below_drew1) | exact HB.out))) : w.heap.size ≤ gb163)); clear HB; have HB := n0_; have BK163 := n1_; have GW163 := n2_; have GE163 := n3_; clear n0_ n1_ n2_ n3_; clear hb hbox hg; have hcz4_0 : w3.cell? ⟨gb163, 0, none⟩ = some (.bool a0_0) := (blk_cell BK163.out 0).trans rfl; have hcz4_1 : w3.cell? ⟨gb163, 1, none⟩ = some (.int .i64 a0_1) := (blk_cell BK163.out 1).trans rfl; have hcz4_2 : w3.cell? ⟨gb163, 2, none⟩ = some (.slice A0_2 l0_2.length c0_2) := (blk_cell BK163.out 2).trans rfl; have hcz4_3 : w3.cell? ⟨gb163, 3, none⟩ = some (.slice A0_3 l0_3.length c0_3) := (blk_cell BK163.out 3).trans rfl; have hfz4_0 := blk_frozen BK163.out 0; have hfz4_1 := blk_frozen BK163.out 1; have hfz4_2 := blk_frozen BK163.out 2; have hfz4_3 := blk_frozen BK163.out 3)))
 (try simp only [Act.put, List.setIfInBounds_toArray, List.set_cons_zero, List.set_cons_succ])
 go_cut [22] (fun v22 wc => ∃ (kq : Nat) (x22_1 : Bool), v22 = .bool x22_1 ∧ Aside0 (evermoreref11_Check.j0 kq (l0_2.length : Int) x22_1 a0_0 a0_1 l0_2 l0_3 = some r) ∧ Aside0 (kq ≤ k) ∧ Aside0 (wc.heap[gb163]? = some (.cells #[.bool a0_0, .int .i64 a0_1, (.slice A0_2 l0_2.length c0_2), (.slice A0_3 l0_3.length c0_3)] 42 (0, 0))) ∧ Aside0 (Below w.heap.size w wc))
 case first =>
  have H := HC2.out
  clear HC2
  by_cases c5 : (l0_2.length : Int) < 1
  ·rw [if_pos c5] at H
   have c5b0 : decide ((l0_2.length : Int) < 1) = true := decide_eq_true c5
   have c5b1 : decide (l0_2.length < 1) = true := decide_eq_true (by omega)
   clear c5
   (first | rw [c5b0] | (simp only [i64_w, i32_w]; rw [c5b0]) | skip)
   have H' := Aside0.mk H
   clear H
   go_wp2
   repeat (go_quiet (fail); try go_wp2)
   go_meet
   case rel => exact ⟨_, (true), (by first | rfl | (simp; done) | (simp [*]; done)), H', ⟨by first | omega | exact Nat.le_refl _⟩, ⟨by (with_reducible repeat (first | refine blk_drewN ?_ _ | refine blk_drew ?_ | refine blk_alloc ?_ _)); exact BK163.out⟩, ⟨by repeat (first | (with_reducible first | exact HB.out | apply below_alloc | apply pw_below_drewN | apply below_drew1 | refine below_set ?_ GE163.out) | exact HB.out)⟩⟩
  ·rw [if_neg c5] at H
   have c5b0 : decide ((l0_2.length : Int) < 1) = false := decide_eq_false c5
   have c5b1 : decide (l0_2.length < 1) = false := decide_eq_false (by omega)
   clear c5
   (first | rw [c5b0] | (simp only [i64_w, i32_w]; rw [c5b0]) | skip)
   by_cases c6 : (l0_2.length : Int) > 20000
   ·rw [if_pos c6] at H
    have c6b0 : decide (20000 < (l0_2.length : Int)) = true := decide_eq_true c6
    have c6b1 : decide (20000 < l0_2.length) = true := decide_eq_true (by omega)
    clear c6
    have H' := Aside0.mk H
    clear H
    go_wp2
    repeat (go_quiet (fail); try go_wp2)
    go_meet
    case rel => exact ⟨_, (true), (by first | rfl | (simp; done) | (simp [*]; done)), H', ⟨by first | omega | exact Nat.le_refl _⟩, ⟨by (with_reducible repeat (first | refine blk_drewN ?_ _ | refine blk_drew ?_ | refine blk_alloc ?_ _)); exact BK163.out⟩, ⟨by repeat (first | (with_reducible first | exact HB.out | apply below_alloc | apply pw_below_drewN | apply below_drew1 | refine below_set ?_ GE163.out) | exact HB.out)⟩⟩
   ·rw [if_neg c6] at H
    have c6b0 : decide (20000 < (l0_2.length : Int)) = false := decide_eq_false c6
    have c6b1 : decide (20000 < l0_2.length) = false := decide_eq_false (by omega)
    clear c6
    have H' := Aside0.mk H
    clear H
    have hcz7_0 : w3.cell? ⟨gb163, 0, none⟩ = some (.bool a0_0) := (blk_cell BK163.out 0).trans rfl
    have hcz7_1 : w3.cell? ⟨gb163, 1, none⟩ = some (.int .i64 a0_1) := (blk_cell BK163.out 1).trans rfl
    have hcz7_2 : w3.cell? ⟨gb163, 2, none⟩ = some (.slice A0_2 l0_2.length c0_2) := (blk_cell BK163.out 2).trans rfl
    have hcz7_3 : w3.cell? ⟨gb163, 3, none⟩ = some (.slice A0_3 l0_3.length c0_3) := (blk_cell BK163.out 3).trans rfl
    have hfz7_0 := blk_frozen BK163.out 0
    have hfz7_1 := blk_frozen BK163.out 1
    have hfz7_2 := blk_frozen BK163.out 2
    have hfz7_3 := blk_frozen BK163.out 3
    go_wp2
    repeat (go_quiet (fail); try go_wp2)
    go_meet
    case rel => exact ⟨_, (((l0_3.length : Int) != (l0_2.length : Int))), (by first | rfl | (simp; done) | (simp [*]; done)), H', ⟨by first | omega | exact Nat.le_refl _⟩, ⟨by (with_reducible repeat (first | refine blk_drewN ?_ _ | refine blk_drew ?_ | refine blk_alloc ?_ _)); exact BK163.out⟩, ⟨by repeat (first | (with_reducible first | exact HB.out | apply below_alloc | apply pw_below_drewN | apply below_drew1 | refine below_set ?_ GE163.out) | exact HB.out)⟩⟩
 case rest =>
  clear HC2
  try clear p2
  try clear c5
  try clear c5b0
  try clear c5b1
  try clear c6
  try clear c6b0
  try clear c6b1
  try clear hcz4_0
  try clear hcz4_1
  try clear hcz4_2
  try clear hcz4_3
  try clear hcz7_0
  try clear hcz7_1
  try clear hcz7_2
  try clear hcz7_3
  try clear hfz4_0
  try clear hfz4_1
  try clear hfz4_2
  try clear hfz4_3
  try clear hfz7_0
  try clear hfz7_1
  try clear hfz7_2
  try clear hfz7_3
  obtain ⟨kq, x22_1, rfl, HA, HJ1, BK163, HB⟩ := hcut
  cases kq with
  | zero => exact absurd HA.out (by simp [evermoreref11_Check.j0])
  | succ kj1 =>
   have H := HA.out
   clear HA
   simp only [evermoreref11_Check.j0] at H
   by_cases c8 : x22_1 = true
   ·subst c8
    have H1 : (some 1) = some r := by rw [if_pos rfl] at H; exact H
    clear H
    have H := H1
    clear H1
    obtain rfl := Option.some.inj H
    go_wp2
    repeat (go_quiet (fail); try go_wp2)
    go_ret
    exact ⟨by first | rfl | (simp [errW_none, errW_some] <;> rfl) | (simp [*, errW_none, errW_some] <;> rfl), by repeat (first | (with_reducible first | exact HB.out | apply below_alloc | apply pw_below_drewN | apply below_drew1 | refine below_set ?_ GE163.out) | exact HB.out)⟩
   ·replace c8 := Bool.eq_false_iff.mpr c8
    subst c8
    have H1 : (if a0_1 < 0 then (evermoreref11_Check.j1 kj1 (l0_2.length : Int) true a0_0 a0_1 l0_2 l0_3) else (evermoreref11_Check.j1 kj1 (l0_2.length : Int) (decide (a0_1 ≥ (l0_2.length : Int))) a0_0 a0_1 l0_2 l0_3)) = some r := by rw [if_neg (show ¬ (false = true) by decide)] at H; exact H
    clear H
    have H := H1
    clear H1
    have HC9 := Aside0.mk H
    clear H
    go_upto_region 4 with (fail)
    repeat (go_quiet (fail); go_upto_region 4 with (fail))
    go_cut [31] (fun v31 wc => ∃ (kq : Nat) (x31_8 : Bool), v31 = .bool x31_8 ∧ Aside0 (evermoreref11_Check.j1 kq (l0_2.length : Int) x31_8 a0_0 a0_1 l0_2 l0_3 = some r) ∧ Aside0 (kq ≤ kj1) ∧ Aside0 (wc.heap[gb163]? = some (.cells #[.bool a0_0, .int .i64 a0_1, (.slice A0_2 l0_2.length c0_2), (.slice A0_3 l0_3.length c0_3)] 42 (0, 0))) ∧ Aside0 (Below w.heap.size w wc))
    case first =>
     have H := HC9.out
     clear HC9
     by_cases c10 : a0_1 < 0
     ·(
 rw [if_pos c10] at H
 have c10b0 : decide (a0_1 < 0) = true := decide_eq_true c10
 clear c10
 (first | rw [c10b0] | (simp only [i64_w, i32_w]; rw [c10b0]) | skip)
 have H' := Aside0.mk H
 clear H
 have hcz11_0 : wc.cell? ⟨gb163, 0, none⟩ = some (.bool a0_0) := (blk_cell BK163.out 0).trans rfl
 have hcz11_1 : wc.cell? ⟨gb163, 1, none⟩ = some (.int .i64 a0_1) := (blk_cell BK163.out 1).trans rfl
 have hcz11_2 : wc.cell? ⟨gb163, 2, none⟩ = some (.slice A0_2 l0_2.length c0_2) := (blk_cell BK163.out 2).trans rfl
 have hcz11_3 : wc.cell? ⟨gb163, 3, none⟩ = some (.slice A0_3 l0_3.length c0_3) := (blk_cell BK163.out 3).trans rfl
 have hfz11_0 := blk_frozen BK163.out 0
 have hfz11_1 := blk_frozen BK163.out 1
 have hfz11_2 := blk_frozen BK163.out 2
 have hfz11_3 := blk_frozen BK163.out 3
 go_wp2
 repeat (go_quiet (fail); try go_wp2)
 go_meet
 case rel => exact ⟨_, (true), (by first | rfl | (simp; done) | (simp [*]; done)), H', ⟨by have := HJ1.out; first | omega | exact Nat.le_refl _⟩, ⟨by (with_reducible repeat (first | refine blk_drewN ?_ _ | refine blk_drew ?_ | refine blk_alloc ?_ _)); exact BK163.out⟩, ⟨by repeat (first | (with_reducible first | exact HB.out | apply below_alloc | apply pw_below_drewN | apply below_drew1 | refine below_set ?_ GE163.out) | exact HB.out)⟩⟩)
     ·(
 rw [if_neg c10] at H
 have c10b0 : decide (a0_1 < 0) = false := decide_eq_false c10
 clear c10
 (first | rw [c10b0] | (simp only [i64_w, i32_w]; rw [c10b0]) | skip)
 have H' := Aside0.mk H
 clear H
 have hcz12_0 : wc.cell? ⟨gb163, 0, none⟩ = some (.bool a0_0) := (blk_cell BK163.out 0).trans rfl
 have hcz12_1 : wc.cell? ⟨gb163, 1, none⟩ = some (.int .i64 a0_1) := (blk_cell BK163.out 1).trans rfl
 have hcz12_2 : wc.cell? ⟨gb163, 2, none⟩ = some (.slice A0_2 l0_2.length c0_2) := (blk_cell BK163.out 2).trans rfl
 have hcz12_3 : wc.cell? ⟨gb163, 3, none⟩ = some (.slice A0_3 l0_3.length c0_3) := (blk_cell BK163.out 3).trans rfl
 have hfz12_0 := blk_frozen BK163.out 0
 have hfz12_1 := blk_frozen BK163.out 1
 have hfz12_2 := blk_frozen BK163.out 2
 have hfz12_3 := blk_frozen BK163.out 3
 go_wp2
 repeat (go_quiet (fail); try go_wp2)
 go_meet
 case rel => exact ⟨_, (decide (a0_1 ≥ (l0_2.length : Int))), (by first | rfl | (simp; done) | (simp [*]; done)), H', ⟨by have := HJ1.out; first | omega | exact Nat.le_refl _⟩, ⟨by (with_reducible repeat (first | refine blk_drewN ?_ _ | refine blk_drew ?_ | refine blk_alloc ?_ _)); exact BK163.out⟩, ⟨by repeat (first | (with_reducible first | exact HB.out | apply below_alloc | apply pw_below_drewN | apply below_drew1 | refine below_set ?_ GE163.out) | exact HB.out)⟩⟩)
    case rest =>
     clear HC9
     try clear c1
     try clear p2
     try clear c5
     try clear c5b0
     try clear c5b1
     try clear c6
     try clear c6b0
     try clear c6b1
     try clear c8
     try clear c10
     try clear c10b0
     try clear hcz11_0
     try clear hcz11_1
     try clear hcz11_2
     try clear hcz11_3
     try clear hcz12_0
     try clear hcz12_1
     try clear hcz12_2
     try clear hcz12_3
     try clear hcz4_0
     try clear hcz4_1
     try clear hcz4_2
     try clear hcz4_3
     try clear hcz7_0
     try clear hcz7_1
     try clear hcz7_2
     try clear hcz7_3
     try clear hfz11_0
     try clear hfz11_1
     try clear hfz11_2
     try clear hfz11_3
     try clear hfz12_0
     try clear hfz12_1
     try clear hfz12_2
     try clear hfz12_3
     try clear hfz4_0
     try clear hfz4_1
     try clear hfz4_2
     try clear hfz4_3
     try clear hfz7_0
     try clear hfz7_1
     try clear hfz7_2
     try clear hfz7_3
     try clear p2
     obtain ⟨kq, x31_8, rfl, HA, HJ8, BK163, HB⟩ := hcut
     cases kq with
     | zero => exact absurd HA.out (by simp [evermoreref11_Check.j1])
     | succ kj8 =>
      have H := HA.out
      clear HA
      simp only [evermoreref11_Check.j1] at H
      by_cases c13 : x31_8 = true
      ·(
 subst c13
 have H1 : (some 2) = some r := by rw [if_pos rfl] at H; exact H
 clear H
 have H := H1
 clear H1
 obtain rfl := Option.some.inj H
 go_wp2
 repeat (go_quiet (fail); try go_wp2)
 go_ret
 exact ⟨by first | rfl | (simp [errW_none, errW_some] <;> rfl) | (simp [*, errW_none, errW_some] <;> rfl), by repeat (first | (with_reducible first | exact HB.out | apply below_alloc | apply pw_below_drewN | apply below_drew1 | refine below_set ?_ GE163.out) | exact HB.out)⟩)
      ·(
 replace c13 := Bool.eq_false_iff.mpr c13
 subst c13
 have H1 : (evermoreref11_Check.l0 kj8 (l0_2.length : Int) 0 a0_0 a0_1 l0_2 l0_3) = some r := by rw [if_neg (show ¬ (false = true) by decide)] at H; exact H
 clear H
 have H := H1
 clear H1
 have H' := Aside0.mk H
 clear H
 go_wp2
 repeat (go_quiet (fail); try go_wp2)
 go_loopg [4] kj8 (fun kq v4 w' => ∃ (x4_3 : Int), v4 = .int .i64 x4_3 ∧ Aside0 (evermoreref11_Check.l0 kq (l0_2.length : Int) x4_3 a0_0 a0_1 l0_2 l0_3 = some r) ∧ Aside0 (kq ≤ kj8) ∧ Aside0 (w'.heap[gb163]? = some (.cells #[.bool a0_0, .int .i64 a0_1, (.slice A0_2 l0_2.length c0_2), (.slice A0_3 l0_3.length c0_3)] 42 (0, 0))) ∧ Aside0 (Below w.heap.size w w'))
 case atStart => exact ⟨(0), (by first | rfl | (simp; done) | (simp [*]; done)), H', ⟨Nat.le_refl _⟩, ⟨by (with_reducible repeat (first | refine blk_drewN ?_ _ | refine blk_drew ?_ | refine blk_alloc ?_ _)); exact BK163.out⟩, ⟨by repeat (first | (with_reducible first | exact HB.out | apply below_alloc | apply pw_below_drewN | apply below_drew1 | refine below_set ?_ GE163.out) | exact HB.out)⟩⟩
 case round =>
  clear H'
  try clear c1
  try clear p2
  try clear c5
  try clear c5b0
  try clear c5b1
  try clear c6
  try clear c6b0
  try clear c6b1
  try clear c8
  try clear c10
  try clear c10b0
  try clear c13
  try clear hcz11_0
  try clear hcz11_1
  try clear hcz11_2
  try clear hcz11_3
  try clear hcz12_0
  try clear hcz12_1
  try clear hcz12_2
  try clear hcz12_3
  try clear hcz4_0
  try clear hcz4_1
  try clear hcz4_2
  try clear hcz4_3
  try clear hcz7_0
  try clear hcz7_1
  try clear hcz7_2
  try clear hcz7_3
  try clear hfz11_0
  try clear hfz11_1
  try clear hfz11_2
  try clear hfz11_3
  try clear hfz12_0
  try clear hfz12_1
  try clear hfz12_2
  try clear hfz12_3
  try clear hfz4_0
  try clear hfz4_1
  try clear hfz4_2
  try clear hfz4_3
  try clear hfz7_0
  try clear hfz7_1
  try clear hfz7_2
  try clear hfz7_3
  try clear p2
  obtain ⟨x4_3, rfl, HA, HK3, BK163, HB⟩ := hrel
  cases gk with
  | zero => exact absurd HA.out (by simp [evermoreref11_Check.l0])
  | succ k3 =>
   have H := HA.out
   clear HA
   simp only [evermoreref11_Check.l0] at H
   by_cases c14 : x4_3 < (l0_2.length : Int)
   ·rw [if_pos c14] at H
    have c14b0 : decide (x4_3 < (l0_2.length : Int)) = true := decide_eq_true c14
    clear c14
    have H' := Aside0.mk H
    clear H
    go_wp2
    repeat (go_quiet (fail); try go_wp2)
    go_loopg [5] k3 (fun kq v5 w' => ∃ (x5_4 : Int), v5 = .int .i64 x5_4 ∧ Aside0 (evermoreref11_Check.l1 kq (l0_2.length : Int) x4_3 x5_4 a0_0 a0_1 l0_2 l0_3 = some r) ∧ Aside0 (kq ≤ k3) ∧ Aside0 (w'.heap[gb163]? = some (.cells #[.bool a0_0, .int .i64 a0_1, (.slice A0_2 l0_2.length c0_2), (.slice A0_3 l0_3.length c0_3)] 42 (0, 0))) ∧ Aside0 (Below w.heap.size w w'))
    case atStart => exact ⟨(0), (by first | rfl | (simp; done) | (simp [*]; done)), H', ⟨Nat.le_refl _⟩, ⟨by (with_reducible repeat (first | refine blk_drewN ?_ _ | refine blk_drew ?_ | refine blk_alloc ?_ _)); exact BK163.out⟩, ⟨by repeat (first | (with_reducible first | exact HB.out | apply below_alloc | apply pw_below_drewN | apply below_drew1 | refine below_set ?_ GE163.out) | exact HB.out)⟩⟩
    case round =>
     clear H'
     try clear c1
     try clear p2
     try clear c5
     try clear c5b0
     try clear c5b1
     try clear c6
     try clear c6b0
     try clear c6b1
     try clear c8
     try clear c10
     try clear c10b0
     try clear c13
     try clear c14
     try clear c14b0
     try clear hcz11_0
     try clear hcz11_1
     try clear hcz11_2
     try clear hcz11_3
     try clear hcz12_0
     try clear hcz12_1
     try clear hcz12_2
     try clear hcz12_3
     try clear hcz4_0
     try clear hcz4_1
     try clear hcz4_2
     try clear hcz4_3
     try clear hcz7_0
     try clear hcz7_1
     try clear hcz7_2
     try clear hcz7_3
     try clear hfz11_0
     try clear hfz11_1
     try clear hfz11_2
     try clear hfz11_3
     try clear hfz12_0
     try clear hfz12_1
     try clear hfz12_2
     try clear hfz12_3
     try clear hfz4_0
     try clear hfz4_1
     try clear hfz4_2
     try clear hfz4_3
     try clear hfz7_0
     try clear hfz7_1
     try clear hfz7_2
     try clear hfz7_3
     try clear p2
     obtain ⟨x5_4, rfl, HA, HK4, BK163, HB⟩ := hrel
     cases gk with
     | zero => exact absurd HA.out (by simp [evermoreref11_Check.l1])
     | succ k4 =>
      have H := HA.out
      clear HA
      simp only [evermoreref11_Check.l1] at H
      by_cases c15 : x5_4 < 2
      ·(
 rw [if_pos c15] at H
 have c15b0 : decide (x5_4 < 2) = true := decide_eq_true c15
 clear c15
 by_cases c16 : 0 ≤ x4_3
 ·rw [if_pos c16] at H
  have c16b0 : decide (0 ≤ x4_3) = true := decide_eq_true c16
  clear c16
  by_cases c17 : x4_3 < (l0_3.length : Int)
  ·rw [if_pos c17] at H
   have c17b0 : decide (x4_3 < (l0_3.length : Int)) = true := decide_eq_true c17
   clear c17
   by_cases c18 : 0 ≤ x5_4
   ·rw [if_pos c18] at H
    have c18b0 : decide (0 ≤ x5_4) = true := decide_eq_true c18
    clear c18
    by_cases c20 : (asel2 x5_4 ((rd_T87 l0_3 x4_3).f0) ((rd_T87 l0_3 x4_3).f1)) < 0
    ·(
 rw [if_pos c20] at H
 have c20b0 : decide ((asel2 x5_4 ((rd_T87 l0_3 x4_3).f0) ((rd_T87 l0_3 x4_3).f1)) < 0) = true := decide_eq_true c20
 clear c20
 obtain rfl := Option.some.inj H
 have hcz21_0 : wr.cell? ⟨gb163, 0, none⟩ = some (.bool a0_0) := (blk_cell BK163.out 0).trans rfl
 have hcz21_1 : wr.cell? ⟨gb163, 1, none⟩ = some (.int .i64 a0_1) := (blk_cell BK163.out 1).trans rfl
 have hcz21_2 : wr.cell? ⟨gb163, 2, none⟩ = some (.slice A0_2 l0_2.length c0_2) := (blk_cell BK163.out 2).trans rfl
 have hcz21_3 : wr.cell? ⟨gb163, 3, none⟩ = some (.slice A0_3 l0_3.length c0_3) := (blk_cell BK163.out 3).trans rfl
 have hfz21_0 := blk_frozen BK163.out 0
 have hfz21_1 := blk_frozen BK163.out 1
 have hfz21_2 := blk_frozen BK163.out 2
 have hfz21_3 := blk_frozen BK163.out 3
 have p164 : 0 ≤ (x4_3 : Int) := of_decide_eq_true (by first | (with_reducible assumption) | assumption)
 have q164 : x4_3 < (l0_3.length : Int) := of_decide_eq_true (by first | (with_reducible assumption) | assumption)
 obtain ⟨ad164, e164, hx164_0, hx164_1⟩ := at_T87 HR0_3.out x4_3 p164 q164
 cases e164
 replace hx164_0 := (HB.out.cell (World.block_lt_of_cell? w _ hx164_0)).trans hx164_0
 replace hx164_1 := (HB.out.cell (World.block_lt_of_cell? w _ hx164_1)).trans hx164_1
 replace p164 := eq_true p164
 replace q164 := eq_true q164
 have pd164 : 0 ≤ (x5_4 : Int) := of_decide_eq_true (by first | (with_reducible assumption) | assumption)
 have qd164 : (x5_4 : Int) < 2 := of_decide_eq_true (by first | (with_reducible assumption) | assumption)
 have hd164 := dyn2_3 hx164_0 hx164_1 pd164 qd164
 replace pd164 := eq_true pd164
 replace qd164 := eq_true qd164
 go_wp2
 repeat (go_quiet (fail); try go_wp2)
 go_ret
 exact ⟨by first | rfl | (simp [errW_none, errW_some] <;> rfl) | (simp [*, errW_none, errW_some] <;> rfl), by repeat (first | (with_reducible first | exact HB.out | apply below_alloc | apply pw_below_drewN | apply below_drew1 | refine below_set ?_ GE163.out) | exact HB.out)⟩)
    ·(
 rw [if_neg c20] at H
 have c20b0 : decide ((asel2 x5_4 ((rd_T87 l0_3 x4_3).f0) ((rd_T87 l0_3 x4_3).f1)) < 0) = false := decide_eq_false c20
 clear c20
 by_cases c23 : (asel2 x5_4 ((rd_T87 l0_3 x4_3).f0) ((rd_T87 l0_3 x4_3).f1)) ≥ (l0_2.length : Int)
 ·rw [if_pos c23] at H
  have c23b0 : decide ((l0_2.length : Int) ≤ (asel2 x5_4 ((rd_T87 l0_3 x4_3).f0) ((rd_T87 l0_3 x4_3).f1))) = true := decide_eq_true c23
  clear c23
  obtain rfl := Option.some.inj H
  have hcz24_0 : wr.cell? ⟨gb163, 0, none⟩ = some (.bool a0_0) := (blk_cell BK163.out 0).trans rfl
  have hcz24_1 : wr.cell? ⟨gb163, 1, none⟩ = some (.int .i64 a0_1) := (blk_cell BK163.out 1).trans rfl
  have hcz24_2 : wr.cell? ⟨gb163, 2, none⟩ = some (.slice A0_2 l0_2.length c0_2) := (blk_cell BK163.out 2).trans rfl
  have hcz24_3 : wr.cell? ⟨gb163, 3, none⟩ = some (.slice A0_3 l0_3.length c0_3) := (blk_cell BK163.out 3).trans rfl
  have hfz24_0 := blk_frozen BK163.out 0
  have hfz24_1 := blk_frozen BK163.out 1
  have hfz24_2 := blk_frozen BK163.out 2
  have hfz24_3 := blk_frozen BK163.out 3
  have p164 : 0 ≤ (x4_3 : Int) := of_decide_eq_true (by first | (with_reducible assumption) | assumption)
  have q164 : x4_3 < (l0_3.length : Int) := of_decide_eq_true (by first | (with_reducible assumption) | assumption)
  obtain ⟨ad164, e164, hx164_0, hx164_1⟩ := at_T87 HR0_3.out x4_3 p164 q164
  cases e164
  replace hx164_0 := (HB.out.cell (World.block_lt_of_cell? w _ hx164_0)).trans hx164_0
  replace hx164_1 := (HB.out.cell (World.block_lt_of_cell? w _ hx164_1)).trans hx164_1
  replace p164 := eq_true p164
  replace q164 := eq_true q164
  have pd164 : 0 ≤ (x5_4 : Int) := of_decide_eq_true (by first | (with_reducible assumption) | assumption)
  have qd164 : (x5_4 : Int) < 2 := of_decide_eq_true (by first | (with_reducible assumption) | assumption)
  have hd164 := dyn2_3 hx164_0 hx164_1 pd164 qd164
  replace pd164 := eq_true pd164
  replace qd164 := eq_true qd164
  have p165 : 0 ≤ (x4_3 : Int) := of_decide_eq_true (by first | (with_reducible assumption) | assumption)
  have q165 : x4_3 < (l0_3.length : Int) := of_decide_eq_true (by first | (with_reducible assumption) | assumption)
  obtain ⟨ad165, e165, hx165_0, hx165_1⟩ := at_T87 HR0_3.out x4_3 p165 q165
  obtain rfl : ad164 = ad165 := (by injection e165)
  replace hx165_0 := (HB.out.cell (World.block_lt_of_cell? w _ hx165_0)).trans hx165_0
  replace hx165_1 := (HB.out.cell (World.block_lt_of_cell? w _ hx165_1)).trans hx165_1
  replace p165 := eq_true p165
  replace q165 := eq_true q165
  have pd165 : 0 ≤ (x5_4 : Int) := of_decide_eq_true (by first | (with_reducible assumption) | assumption)
  have qd165 : (x5_4 : Int) < 2 := of_decide_eq_true (by first | (with_reducible assumption) | assumption)
  have hd165 := dyn2_3 hx165_0 hx165_1 pd165 qd165
  replace pd165 := eq_true pd165
  replace qd165 := eq_true qd165
  go_wp2
  repeat (go_quiet (fail); try go_wp2)
  go_ret
  exact ⟨by first | rfl | (simp [errW_none, errW_some] <;> rfl) | (simp [*, errW_none, errW_some] <;> rfl), by repeat (first | (with_reducible first | exact HB.out | apply below_alloc | apply pw_below_drewN | apply below_drew1 | refine below_set ?_ GE163.out) | exact HB.out)⟩
 ·rw [if_neg c23] at H
  have c23b0 : decide ((l0_2.length : Int) ≤ (asel2 x5_4 ((rd_T87 l0_3 x4_3).f0) ((rd_T87 l0_3 x4_3).f1))) = false := decide_eq_false c23
  clear c23
  by_cases c25 : x4_3 < (l0_2.length : Int)
  ·rw [if_pos c25] at H
   have c25b0 : decide (x4_3 < (l0_2.length : Int)) = true := decide_eq_true c25
   clear c25
   by_cases c27 : (asel2 x5_4 ((rd_T87 l0_2 x4_3).f0) ((rd_T87 l0_2 x4_3).f1)) < 0
   ·rw [if_pos c27] at H
    have c27b0 : decide ((asel2 x5_4 ((rd_T87 l0_2 x4_3).f0) ((rd_T87 l0_2 x4_3).f1)) < 0) = true := decide_eq_true c27
    clear c27
    obtain rfl := Option.some.inj H
    have hcz28_0 : wr.cell? ⟨gb163, 0, none⟩ = some (.bool a0_0) := (blk_cell BK163.out 0).trans rfl
    have hcz28_1 : wr.cell? ⟨gb163, 1, none⟩ = some (.int .i64 a0_1) := (blk_cell BK163.out 1).trans rfl
    have hcz28_2 : wr.cell? ⟨gb163, 2, none⟩ = some (.slice A0_2 l0_2.length c0_2) := (blk_cell BK163.out 2).trans rfl
    have hcz28_3 : wr.cell? ⟨gb163, 3, none⟩ = some (.slice A0_3 l0_3.length c0_3) := (blk_cell BK163.out 3).trans rfl
    have hfz28_0 := blk_frozen BK163.out 0
    have hfz28_1 := blk_frozen BK163.out 1
    have hfz28_2 := blk_frozen BK163.out 2
    have hfz28_3 := blk_frozen BK163.out 3
    have p164 : 0 ≤ (x4_3 : Int) := of_decide_eq_true (by first | (with_reducible assumption) | assumption)
    have q164 : x4_3 < (l0_3.length : Int) := of_decide_eq_true (by first | (with_reducible assumption) | assumption)
    obtain ⟨ad164, e164, hx164_0, hx164_1⟩ := at_T87 HR0_3.out x4_3 p164 q164
    cases e164
    replace hx164_0 := (HB.out.cell (World.block_lt_of_cell? w _ hx164_0)).trans hx164_0
    replace hx164_1 := (HB.out.cell (World.block_lt_of_cell? w _ hx164_1)).trans hx164_1
    replace p164 := eq_true p164
    replace q164 := eq_true q164
    have pd164 : 0 ≤ (x5_4 : Int) := of_decide_eq_true (by first | (with_reducible assumption) | assumption)
    have qd164 : (x5_4 : Int) < 2 := of_decide_eq_true (by first | (with_reducible assumption) | assumption)
    have hd164 := dyn2_3 hx164_0 hx164_1 pd164 qd164
    replace pd164 := eq_true pd164
    replace qd164 := eq_true qd164
    have p165 : 0 ≤ (x4_3 : Int) := of_decide_eq_true (by first | (with_reducible assumption) | assumption)
    have q165 : x4_3 < (l0_3.length : Int) := of_decide_eq_true (by first | (with_reducible assumption) | assumption)
    obtain ⟨ad165, e165, hx165_0, hx165_1⟩ := at_T87 HR0_3.out x4_3 p165 q165
    obtain rfl : ad164 = ad165 := (by injection e165)
    replace hx165_0 := (HB.out.cell (World.block_lt_of_cell? w _ hx165_0)).trans hx165_0
    replace hx165_1 := (HB.out.cell (World.block_lt_of_cell? w _ hx165_1)).trans hx165_1
    replace p165 := eq_true p165
    replace q165 := eq_true q165
    have pd165 : 0 ≤ (x5_4 : Int) := of_decide_eq_true (by first | (with_reducible assumption) | assumption)
    have qd165 : (x5_4 : Int) < 2 := of_decide_eq_true (by first | (with_reducible assumption) | assumption)
    have hd165 := dyn2_3 hx165_0 hx165_1 pd165 qd165
    replace pd165 := eq_true pd165
    replace qd165 := eq_true qd165
    have p166 : 0 ≤ (x4_3 : Int) := of_decide_eq_true (by first | (with_reducible assumption) | assumption)
    have q166 : x4_3 < (l0_2.length : Int) := of_decide_eq_true (by first | (with_reducible assumption) | assumption)
    obtain ⟨ad166, e166, hx166_0, hx166_1⟩ := at_T87 HR0_2.out x4_3 p166 q166
    cases e166
    replace hx166_0 := (HB.out.cell (World.block_lt_of_cell? w _ hx166_0)).trans hx166_0
    replace hx166_1 := (HB.out.cell (World.block_lt_of_cell? w _ hx166_1)).trans hx166_1
    replace p166 := eq_true p166
    replace q166 := eq_true q166
    have pd166 : 0 ≤ (x5_4 : Int) := of_decide_eq_true (by first | (with_reducible assumption) | assumption)
    have qd166 : (x5_4 : Int) < 2 := of_decide_eq_true (by first | (with_reducible assumption) | assumption)
    have hd166 := dyn2_3 hx166_0 hx166_1 pd166 qd166
    replace pd166 := eq_true pd166
    replace qd166 := eq_true qd166
    go_wp2
    repeat (go_quiet (fail); try go_wp2)
    go_ret
    exact ⟨by first | rfl | (simp [errW_none, errW_some] <;> rfl) | (simp [*, errW_none, errW_some] <;> rfl), by repeat (first | (with_reducible first | exact HB.out | apply below_alloc | apply pw_below_drewN | apply below_drew1 | refine below_set ?_ GE163.out) | exact HB.out)⟩
   ·rw [if_neg c27] at H
    have c27b0 : decide ((asel2 x5_4 ((rd_T87 l0_2 x4_3).f0) ((rd_T87 l0_2 x4_3).f1)) < 0) = false := decide_eq_false c27
    clear c27
    by_cases c30 : (asel2 x5_4 ((rd_T87 l0_2 x4_3).f0) ((rd_T87 l0_2 x4_3).f1)) > 1
    ·(
 rw [if_pos c30] at H
 have c30b0 : decide (1 < (asel2 x5_4 ((rd_T87 l0_2 x4_3).f0) ((rd_T87 l0_2 x4_3).f1))) = true := decide_eq_true c30
 clear c30
 obtain rfl := Option.some.inj H
 have hcz31_0 : wr.cell? ⟨gb163, 0, none⟩ = some (.bool a0_0) := (blk_cell BK163.out 0).trans rfl
 have hcz31_1 : wr.cell? ⟨gb163, 1, none⟩ = some (.int .i64 a0_1) := (blk_cell BK163.out 1).trans rfl
 have hcz31_2 : wr.cell? ⟨gb163, 2, none⟩ = some (.slice A0_2 l0_2.length c0_2) := (blk_cell BK163.out 2).trans rfl
 have hcz31_3 : wr.cell? ⟨gb163, 3, none⟩ = some (.slice A0_3 l0_3.length c0_3) := (blk_cell BK163.out 3).trans rfl
 have hfz31_0 := blk_frozen BK163.out 0
 have hfz31_1 := blk_frozen BK163.out 1
 have hfz31_2 := blk_frozen BK163.out 2
 have hfz31_3 := blk_frozen BK163.out 3
 have p164 : 0 ≤ (x4_3 : Int) := of_decide_eq_true (by first | (with_reducible assumption) | assumption)
 have q164 : x4_3 < (l0_3.length : Int) := of_decide_eq_true (by first | (with_reducible assumption) | assumption)
 obtain ⟨ad164, e164, hx164_0, hx164_1⟩ := at_T87 HR0_3.out x4_3 p164 q164
 cases e164
 replace hx164_0 := (HB.out.cell (World.block_lt_of_cell? w _ hx164_0)).trans hx164_0
 replace hx164_1 := (HB.out.cell (World.block_lt_of_cell? w _ hx164_1)).trans hx164_1
 replace p164 := eq_true p164
 replace q164 := eq_true q164
 have pd164 : 0 ≤ (x5_4 : Int) := of_decide_eq_true (by first | (with_reducible assumption) | assumption)
 have qd164 : (x5_4 : Int) < 2 := of_decide_eq_true (by first | (with_reducible assumption) | assumption)
 have hd164 := dyn2_3 hx164_0 hx164_1 pd164 qd164
 replace pd164 := eq_true pd164
 replace qd164 := eq_true qd164
 have p165 : 0 ≤ (x4_3 : Int) := of_decide_eq_true (by first | (with_reducible assumption) | assumption)
 have q165 : x4_3 < (l0_3.length : Int) := of_decide_eq_true (by first | (with_reducible assumption) | assumption)
 obtain ⟨ad165, e165, hx165_0, hx165_1⟩ := at_T87 HR0_3.out x4_3 p165 q165
 obtain rfl : ad164 = ad165 := (by injection e165)
 replace hx165_0 := (HB.out.cell (World.block_lt_of_cell? w _ hx165_0)).trans hx165_0
 replace hx165_1 := (HB.out.cell (World.block_lt_of_cell? w _ hx165_1)).trans hx165_1
 replace p165 := eq_true p165
 replace q165 := eq_true q165
 have pd165 : 0 ≤ (x5_4 : Int) := of_decide_eq_true (by first | (with_reducible assumption) | assumption)
 have qd165 : (x5_4 : Int) < 2 := of_decide_eq_true (by first | (with_reducible assumption) | assumption)
 have hd165 := dyn2_3 hx165_0 hx165_1 pd165 qd165
 replace pd165 := eq_true pd165
 replace qd165 := eq_true qd165
 have p166 : 0 ≤ (x4_3 : Int) := of_decide_eq_true (by first | (with_reducible assumption) | assumption)
 have q166 : x4_3 < (l0_2.length : Int) := of_decide_eq_true (by first | (with_reducible assumption) | assumption)
 obtain ⟨ad166, e166, hx166_0, hx166_1⟩ := at_T87 HR0_2.out x4_3 p166 q166
 cases e166
 replace hx166_0 := (HB.out.cell (World.block_lt_of_cell? w _ hx166_0)).trans hx166_0
 replace hx166_1 := (HB.out.cell (World.block_lt_of_cell? w _ hx166_1)).trans hx166_1
 replace p166 := eq_true p166
 replace q166 := eq_true q166
 have pd166 : 0 ≤ (x5_4 : Int) := of_decide_eq_true (by first | (with_reducible assumption) | assumption)
 have qd166 : (x5_4 : Int) < 2 := of_decide_eq_true (by first | (with_reducible assumption) | assumption)
 have hd166 := dyn2_3 hx166_0 hx166_1 pd166 qd166
 replace pd166 := eq_true pd166
 replace qd166 := eq_true qd166
 have p167 : 0 ≤ (x4_3 : Int) := of_decide_eq_true (by first | (with_reducible assumption) | assumption)
 have q167 : x4_3 < (l0_2.length : Int) := of_decide_eq_true (by first | (with_reducible assumption) | assumption)
 obtain ⟨ad167, e167, hx167_0, hx167_1⟩ := at_T87 HR0_2.out x4_3 p167 q167
 obtain rfl : ad166 = ad167 := (by injection e167)
 replace hx167_0 := (HB.out.cell (World.block_lt_of_cell? w _ hx167_0)).trans hx167_0
 replace hx167_1 := (HB.out.cell (World.block_lt_of_cell? w _ hx167_1)).trans hx167_1
 replace p167 := eq_true p167
 replace q167 := eq_true q167
 have pd167 : 0 ≤ (x5_4 : Int) := of_decide_eq_true (by first | (with_reducible assumption) | assumption)
 have qd167 : (x5_4 : Int) < 2 := of_decide_eq_true (by first | (with_reducible assumption) | assumption)
 have hd167 := dyn2_3 hx167_0 hx167_1 pd167 qd167
 replace pd167 := eq_true pd167
 replace qd167 := eq_true qd167
 go_wp2
 repeat (go_quiet (fail); try go_wp2)
 go_ret
 exact ⟨by first | rfl | (simp [errW_none, errW_some] <;> rfl) | (simp [*, errW_none, errW_some] <;> rfl), by repeat (first | (with_reducible first | exact HB.out | apply below_alloc | apply pw_below_drewN | apply below_drew1 | refine below_set ?_ GE163.out) | exact HB.out)⟩)
    ·(
 rw [if_neg c30] at H
 have c30b0 : decide (1 < (asel2 x5_4 ((rd_T87 l0_2 x4_3).f0) ((rd_T87 l0_2 x4_3).f1))) = false := decide_eq_false c30
 clear c30
 have H' := Aside0.mk H
 clear H
 have hcz32_0 : wr.cell? ⟨gb163, 0, none⟩ = some (.bool a0_0) := (blk_cell BK163.out 0).trans rfl
 have hcz32_1 : wr.cell? ⟨gb163, 1, none⟩ = some (.int .i64 a0_1) := (blk_cell BK163.out 1).trans rfl
 have hcz32_2 : wr.cell? ⟨gb163, 2, none⟩ = some (.slice A0_2 l0_2.length c0_2) := (blk_cell BK163.out 2).trans rfl
 have hcz32_3 : wr.cell? ⟨gb163, 3, none⟩ = some (.slice A0_3 l0_3.length c0_3) := (blk_cell BK163.out 3).trans rfl
 have hfz32_0 := blk_frozen BK163.out 0
 have hfz32_1 := blk_frozen BK163.out 1
 have hfz32_2 := blk_frozen BK163.out 2
 have hfz32_3 := blk_frozen BK163.out 3
 have p164 : 0 ≤ (x4_3 : Int) := of_decide_eq_true (by first | (with_reducible assumption) | assumption)
 have q164 : x4_3 < (l0_3.length : Int) := of_decide_eq_true (by first | (with_reducible assumption) | assumption)
 obtain ⟨ad164, e164, hx164_0, hx164_1⟩ := at_T87 HR0_3.out x4_3 p164 q164
 cases e164
 replace hx164_0 := (HB.out.cell (World.block_lt_of_cell? w _ hx164_0)).trans hx164_0
 replace hx164_1 := (HB.out.cell (World.block_lt_of_cell? w _ hx164_1)).trans hx164_1
 replace p164 := eq_true p164
 replace q164 := eq_true q164
 have pd164 : 0 ≤ (x5_4 : Int) := of_decide_eq_true (by first | (with_reducible assumption) | assumption)
 have qd164 : (x5_4 : Int) < 2 := of_decide_eq_true (by first | (with_reducible assumption) | assumption)
 have hd164 := dyn2_3 hx164_0 hx164_1 pd164 qd164
 replace pd164 := eq_true pd164
 replace qd164 := eq_true qd164
 have p165 : 0 ≤ (x4_3 : Int) := of_decide_eq_true (by first | (with_reducible assumption) | assumption)
 have q165 : x4_3 < (l0_3.length : Int) := of_decide_eq_true (by first | (with_reducible assumption) | assumption)
 obtain ⟨ad165, e165, hx165_0, hx165_1⟩ := at_T87 HR0_3.out x4_3 p165 q165
 obtain rfl : ad164 = ad165 := (by injection e165)
 replace hx165_0 := (HB.out.cell (World.block_lt_of_cell? w _ hx165_0)).trans hx165_0
 replace hx165_1 := (HB.out.cell (World.block_lt_of_cell? w _ hx165_1)).trans hx165_1
 replace p165 := eq_true p165
 replace q165 := eq_true q165
 have pd165 : 0 ≤ (x5_4 : Int) := of_decide_eq_true (by first | (with_reducible assumption) | assumption)
 have qd165 : (x5_4 : Int) < 2 := of_decide_eq_true (by first | (with_reducible assumption) | assumption)
 have hd165 := dyn2_3 hx165_0 hx165_1 pd165 qd165
 replace pd165 := eq_true pd165
 replace qd165 := eq_true qd165
 have p166 : 0 ≤ (x4_3 : Int) := of_decide_eq_true (by first | (with_reducible assumption) | assumption)
 have q166 : x4_3 < (l0_2.length : Int) := of_decide_eq_true (by first | (with_reducible assumption) | assumption)
 obtain ⟨ad166, e166, hx166_0, hx166_1⟩ := at_T87 HR0_2.out x4_3 p166 q166
 cases e166
 replace hx166_0 := (HB.out.cell (World.block_lt_of_cell? w _ hx166_0)).trans hx166_0
 replace hx166_1 := (HB.out.cell (World.block_lt_of_cell? w _ hx166_1)).trans hx166_1
 replace p166 := eq_true p166
 replace q166 := eq_true q166
 have pd166 : 0 ≤ (x5_4 : Int) := of_decide_eq_true (by first | (with_reducible assumption) | assumption)
 have qd166 : (x5_4 : Int) < 2 := of_decide_eq_true (by first | (with_reducible assumption) | assumption)
 have hd166 := dyn2_3 hx166_0 hx166_1 pd166 qd166
 replace pd166 := eq_true pd166
 replace qd166 := eq_true qd166
 have p167 : 0 ≤ (x4_3 : Int) := of_decide_eq_true (by first | (with_reducible assumption) | assumption)
 have q167 : x4_3 < (l0_2.length : Int) := of_decide_eq_true (by first | (with_reducible assumption) | assumption)
 obtain ⟨ad167, e167, hx167_0, hx167_1⟩ := at_T87 HR0_2.out x4_3 p167 q167
 obtain rfl : ad166 = ad167 := (by injection e167)
 replace hx167_0 := (HB.out.cell (World.block_lt_of_cell? w _ hx167_0)).trans hx167_0
 replace hx167_1 := (HB.out.cell (World.block_lt_of_cell? w _ hx167_1)).trans hx167_1
 replace p167 := eq_true p167
 replace q167 := eq_true q167
 have pd167 : 0 ≤ (x5_4 : Int) := of_decide_eq_true (by first | (with_reducible assumption) | assumption)
 have qd167 : (x5_4 : Int) < 2 := of_decide_eq_true (by first | (with_reducible assumption) | assumption)
 have hd167 := dyn2_3 hx167_0 hx167_1 pd167 qd167
 replace pd167 := eq_true pd167
 replace qd167 := eq_true qd167
 go_wp2
 repeat (go_quiet (fail); try go_wp2)
 go_roundg k4
 case measure => have := HJ1.out; have := HJ8.out; have := HK3.out; have := HK4.out; omega
 case rel => exact ⟨(wrap64 (x5_4 + 1)), (by first | rfl | (simp; done) | (simp [*]; done)), H', ⟨by have := HJ1.out; have := HJ8.out; have := HK3.out; have := HK4.out; omega⟩, ⟨by (with_reducible repeat (first | refine blk_drewN ?_ _ | refine blk_drew ?_ | refine blk_alloc ?_ _)); exact BK163.out⟩, ⟨by repeat (first | (with_reducible first | exact HB.out | apply below_alloc | apply pw_below_drewN | apply below_drew1 | refine below_set ?_ GE163.out) | exact HB.out)⟩⟩)
  ·rw [if_neg c25] at H
   exact absurd H (by simp))
   ·rw [if_neg c18] at H
    exact absurd H (by simp)
  ·rw [if_neg c17] at H
   exact absurd H (by simp)
 ·rw [if_neg c16] at H
  exact absurd H (by simp))
      ·(
 rw [if_neg c15] at H
 have c15b0 : decide (x5_4 < 2) = false := decide_eq_false c15
 clear c15
 have H' := Aside0.mk H
 clear H
 go_wp2
 repeat (go_quiet (fail); try go_wp2)
 go_roundg k4
 case measure => have := HJ1.out; have := HJ8.out; have := HK3.out; have := HK4.out; omega
 case rel => exact ⟨(wrap64 (x4_3 + 1)), (by first | rfl | (simp; done) | (simp [*]; done)), H', ⟨by have := HJ1.out; have := HJ8.out; have := HK3.out; have := HK4.out; omega⟩, ⟨by (with_reducible repeat (first | refine blk_drewN ?_ _ | refine blk_drew ?_ | refine blk_alloc ?_ _)); exact BK163.out⟩, ⟨by repeat (first | (with_reducible first | exact HB.out | apply below_alloc | apply pw_below_drewN | apply below_drew1 | refine below_set ?_ GE163.out) | exact HB.out)⟩⟩)
   ·rw [if_neg c14] at H
    have c14b0 : decide (x4_3 < (l0_2.length : Int)) = false := decide_eq_false c14
    clear c14
    have H' := Aside0.mk H
    clear H
    go_wp2
    repeat (go_quiet (fail); try go_wp2)
    go_loopg [6] k3 (fun kq v6 w' => ∃ (x6_4 : Int), v6 = .int .i64 x6_4 ∧ Aside0 (evermoreref11_Check.l2 kq (l0_2.length : Int) x6_4 a0_0 a0_1 l0_2 l0_3 = some r) ∧ Aside0 (kq ≤ k3) ∧ Aside0 (w'.heap[gb163]? = some (.cells #[.bool a0_0, .int .i64 a0_1, (.slice A0_2 l0_2.length c0_2), (.slice A0_3 l0_3.length c0_3)] 42 (0, 0))) ∧ Aside0 (Below w.heap.size w w'))
    case atStart => exact ⟨(0), (by first | rfl | (simp; done) | (simp [*]; done)), H', ⟨Nat.le_refl _⟩, ⟨by (with_reducible repeat (first | refine blk_drewN ?_ _ | refine blk_drew ?_ | refine blk_alloc ?_ _)); exact BK163.out⟩, ⟨by repeat (first | (with_reducible first | exact HB.out | apply below_alloc | apply pw_below_drewN | apply below_drew1 | refine below_set ?_ GE163.out) | exact HB.out)⟩⟩
    case round =>
     clear H'
     try clear c1
     try clear p1
     try clear q1
     try clear hx1
     try clear c2
     try clear p2
     try clear c3
     try clear c5
     try clear c5b0
     try clear c5b1
     try clear c6
     try clear c6b0
     try clear c6b1
     try clear p6
     try clear c8
     try clear c10
     try clear c10b0
     try clear c13
     try clear c14
     try clear c14b0
     try clear c15
     try clear c15b0
     try clear c16
     try clear c16b0
     try clear p16
     try clear q16
     try clear hx16
     try clear c17
     try clear c17b0
     try clear c18
     try clear c18b0
     try clear c20
     try clear c20b0
     try clear c23
     try clear c23b0
     try clear c25
     try clear c25b0
     try clear c27
     try clear c27b0
     try clear c30
     try clear c30b0
     try clear hcz11_0
     try clear hcz11_1
     try clear hcz11_2
     try clear hcz11_3
     try clear hcz12_0
     try clear hcz12_1
     try clear hcz12_2
     try clear hcz12_3
     try clear hcz21_0
     try clear hcz21_1
     try clear hcz21_2
     try clear hcz21_3
     try clear hcz24_0
     try clear hcz24_1
     try clear hcz24_2
     try clear hcz24_3
     try clear hcz28_0
     try clear hcz28_1
     try clear hcz28_2
     try clear hcz28_3
     try clear hcz31_0
     try clear hcz31_1
     try clear hcz31_2
     try clear hcz31_3
     try clear hcz32_0
     try clear hcz32_1
     try clear hcz32_2
     try clear hcz32_3
     try clear hcz4_0
     try clear hcz4_1
     try clear hcz4_2
     try clear hcz4_3
     try clear hcz7_0
     try clear hcz7_1
     try clear hcz7_2
     try clear hcz7_3
     try clear hfz11_0
     try clear hfz11_1
     try clear hfz11_2
     try clear hfz11_3
     try clear hfz12_0
     try clear hfz12_1
     try clear hfz12_2
     try clear hfz12_3
     try clear hfz21_0
     try clear hfz21_1
     try clear hfz21_2
     try clear hfz21_3
     try clear hfz24_0
     try clear hfz24_1
     try clear hfz24_2
     try clear hfz24_3
     try clear hfz28_0
     try clear hfz28_1
     try clear hfz28_2
     try clear hfz28_3
     try clear hfz31_0
     try clear hfz31_1
     try clear hfz31_2
     try clear hfz31_3
     try clear hfz32_0
     try clear hfz32_1
     try clear hfz32_2
     try clear hfz32_3
     try clear hfz4_0
     try clear hfz4_1
     try clear hfz4_2
     try clear hfz4_3
     try clear hfz7_0
     try clear hfz7_1
     try clear hfz7_2
     try clear hfz7_3
     try clear hx164_0
     try clear hx164_1
     try clear hx165_0
     try clear hx165_1
     try clear hx166_0
     try clear hx166_1
     try clear hx167_0
     try clear hx167_1
     try clear p164
     try clear p165
     try clear p166
     try clear p167
     try clear p2
     try clear q164
     try clear q165
     try clear q166
     try clear q167
     obtain ⟨x6_4, rfl, HA, HK4, BK163, HB⟩ := hrel
     cases gk with
     | zero => exact absurd HA.out (by simp [evermoreref11_Check.l2])
     | succ k4 =>
      have H := HA.out
      clear HA
      simp only [evermoreref11_Check.l2] at H
      by_cases c33 : x6_4 < (l0_2.length : Int)
      ·(
 rw [if_pos c33] at H
 have c33b0 : decide (x6_4 < (l0_2.length : Int)) = true := decide_eq_true c33
 clear c33
 by_cases c34 : a0_0 = true
 ·subst c34
  have H1 : (if 0 ≤ x6_4 then (if x6_4 < (l0_2.length : Int) then (if ((rd_T87 l0_2 x6_4).f0) = ((rd_T87 l0_2 x6_4).f1) then (evermoreref11_Check.l2 k4 (l0_2.length : Int) (wrap64 (x6_4 + 1)) true a0_1 l0_2 l0_3) else (some 3)) else (none)) else (none)) = some r := by rw [if_pos rfl] at H; exact H
  clear H
  have H := H1
  clear H1
  by_cases c35 : 0 ≤ x6_4
  ·rw [if_pos c35] at H
   have c35b0 : decide (0 ≤ x6_4) = true := decide_eq_true c35
   clear c35
   by_cases c36 : x6_4 < (l0_2.length : Int)
   ·rw [if_pos c36] at H
    have c36b0 : decide (x6_4 < (l0_2.length : Int)) = true := decide_eq_true c36
    clear c36
    by_cases c37 : ((rd_T87 l0_2 x6_4).f0) = ((rd_T87 l0_2 x6_4).f1)
    ·(
 rw [if_pos c37] at H
 have c37b0 : (((rd_T87 l0_2 x6_4).f0) == ((rd_T87 l0_2 x6_4).f1)) = true := beq_iff_eq.mpr c37
 have c37b1 : (((rd_T87 l0_2 x6_4).f0) != ((rd_T87 l0_2 x6_4).f1)) = false := bne_eq_false_iff_eq.mpr c37
 clear c37
 have H' := Aside0.mk H
 clear H
 have hcz38_0 : wr.cell? ⟨gb163, 0, none⟩ = some (.bool true) := (blk_cell BK163.out 0).trans rfl
 have hcz38_1 : wr.cell? ⟨gb163, 1, none⟩ = some (.int .i64 a0_1) := (blk_cell BK163.out 1).trans rfl
 have hcz38_2 : wr.cell? ⟨gb163, 2, none⟩ = some (.slice A0_2 l0_2.length c0_2) := (blk_cell BK163.out 2).trans rfl
 have hcz38_3 : wr.cell? ⟨gb163, 3, none⟩ = some (.slice A0_3 l0_3.length c0_3) := (blk_cell BK163.out 3).trans rfl
 have hfz38_0 := blk_frozen BK163.out 0
 have hfz38_1 := blk_frozen BK163.out 1
 have hfz38_2 := blk_frozen BK163.out 2
 have hfz38_3 := blk_frozen BK163.out 3
 have p168 : 0 ≤ (x6_4 : Int) := of_decide_eq_true (by first | (with_reducible assumption) | assumption)
 have q168 : x6_4 < (l0_2.length : Int) := of_decide_eq_true (by first | (with_reducible assumption) | assumption)
 obtain ⟨ad168, e168, hx168_0, hx168_1⟩ := at_T87 HR0_2.out x6_4 p168 q168
 cases e168
 replace hx168_0 := (HB.out.cell (World.block_lt_of_cell? w _ hx168_0)).trans hx168_0
 replace hx168_1 := (HB.out.cell (World.block_lt_of_cell? w _ hx168_1)).trans hx168_1
 replace p168 := eq_true p168
 replace q168 := eq_true q168
 have p169 : 0 ≤ (x6_4 : Int) := of_decide_eq_true (by first | (with_reducible assumption) | assumption)
 have q169 : x6_4 < (l0_2.length : Int) := of_decide_eq_true (by first | (with_reducible assumption) | assumption)
 obtain ⟨ad169, e169, hx169_0, hx169_1⟩ := at_T87 HR0_2.out x6_4 p169 q169
 obtain rfl : ad168 = ad169 := (by injection e169)
 replace hx169_0 := (HB.out.cell (World.block_lt_of_cell? w _ hx169_0)).trans hx169_0
 replace hx169_1 := (HB.out.cell (World.block_lt_of_cell? w _ hx169_1)).trans hx169_1
 replace p169 := eq_true p169
 replace q169 := eq_true q169
 go_wp2
 repeat (go_quiet (fail); try go_wp2)
 go_roundg k4
 case measure => have := HJ1.out; have := HJ8.out; have := HK3.out; have := HK4.out; omega
 case rel => exact ⟨(wrap64 (x6_4 + 1)), (by first | rfl | (simp; done) | (simp [*]; done)), H', ⟨by have := HJ1.out; have := HJ8.out; have := HK3.out; have := HK4.out; omega⟩, ⟨by (with_reducible repeat (first | refine blk_drewN ?_ _ | refine blk_drew ?_ | refine blk_alloc ?_ _)); exact BK163.out⟩, ⟨by repeat (first | (with_reducible first | exact HB.out | apply below_alloc | apply pw_below_drewN | apply below_drew1 | refine below_set ?_ GE163.out) | exact HB.out)⟩⟩)
    ·(
 rw [if_neg c37] at H
 have c37b0 : (((rd_T87 l0_2 x6_4).f0) == ((rd_T87 l0_2 x6_4).f1)) = false := beq_eq_false_iff_ne.mpr c37
 have c37b1 : (((rd_T87 l0_2 x6_4).f0) != ((rd_T87 l0_2 x6_4).f1)) = true := bne_iff_ne.mpr c37
 obtain rfl := Option.some.inj H
 have hcz39_0 : wr.cell? ⟨gb163, 0, none⟩ = some (.bool true) := (blk_cell BK163.out 0).trans rfl
 have hcz39_1 : wr.cell? ⟨gb163, 1, none⟩ = some (.int .i64 a0_1) := (blk_cell BK163.out 1).trans rfl
 have hcz39_2 : wr.cell? ⟨gb163, 2, none⟩ = some (.slice A0_2 l0_2.length c0_2) := (blk_cell BK163.out 2).trans rfl
 have hcz39_3 : wr.cell? ⟨gb163, 3, none⟩ = some (.slice A0_3 l0_3.length c0_3) := (blk_cell BK163.out 3).trans rfl
 have hfz39_0 := blk_frozen BK163.out 0
 have hfz39_1 := blk_frozen BK163.out 1
 have hfz39_2 := blk_frozen BK163.out 2
 have hfz39_3 := blk_frozen BK163.out 3
 have p168 : 0 ≤ (x6_4 : Int) := of_decide_eq_true (by first | (with_reducible assumption) | assumption)
 have q168 : x6_4 < (l0_2.length : Int) := of_decide_eq_true (by first | (with_reducible assumption) | assumption)
 obtain ⟨ad168, e168, hx168_0, hx168_1⟩ := at_T87 HR0_2.out x6_4 p168 q168
 cases e168
 replace hx168_0 := (HB.out.cell (World.block_lt_of_cell? w _ hx168_0)).trans hx168_0
 replace hx168_1 := (HB.out.cell (World.block_lt_of_cell? w _ hx168_1)).trans hx168_1
 replace p168 := eq_true p168
 replace q168 := eq_true q168
 have p169 : 0 ≤ (x6_4 : Int) := of_decide_eq_true (by first | (with_reducible assumption) | assumption)
 have q169 : x6_4 < (l0_2.length : Int) := of_decide_eq_true (by first | (with_reducible assumption) | assumption)
 obtain ⟨ad169, e169, hx169_0, hx169_1⟩ := at_T87 HR0_2.out x6_4 p169 q169
 obtain rfl : ad168 = ad169 := (by injection e169)
 replace hx169_0 := (HB.out.cell (World.block_lt_of_cell? w _ hx169_0)).trans hx169_0
 replace hx169_1 := (HB.out.cell (World.block_lt_of_cell? w _ hx169_1)).trans hx169_1
 replace p169 := eq_true p169
 replace q169 := eq_true q169
 go_wp2
 repeat (go_quiet (fail); try go_wp2)
 go_ret
 exact ⟨by first | rfl | (simp [errW_none, errW_some] <;> rfl) | (simp [*, errW_none, errW_some] <;> rfl), by repeat (first | (with_reducible first | exact HB.out | apply below_alloc | apply pw_below_drewN | apply below_drew1 | refine below_set ?_ GE163.out) | exact HB.out)⟩)
   ·rw [if_neg c36] at H
    exact absurd H (by simp)
  ·rw [if_neg c35] at H
   exact absurd H (by simp)
 ·replace c34 := Bool.eq_false_iff.mpr c34
  subst c34
  have H1 : (evermoreref11_Check.l2 k4 (l0_2.length : Int) (wrap64 (x6_4 + 1)) false a0_1 l0_2 l0_3) = some r := by rw [if_neg (show ¬ (false = true) by decide)] at H; exact H
  clear H
  have H := H1
  clear H1
  have H' := Aside0.mk H
  clear H
  have hcz40_0 : wr.cell? ⟨gb163, 0, none⟩ = some (.bool false) := (blk_cell BK163.out 0).trans rfl
  have hcz40_1 : wr.cell? ⟨gb163, 1, none⟩ = some (.int .i64 a0_1) := (blk_cell BK163.out 1).trans rfl
  have hcz40_2 : wr.cell? ⟨gb163, 2, none⟩ = some (.slice A0_2 l0_2.length c0_2) := (blk_cell BK163.out 2).trans rfl
  have hcz40_3 : wr.cell? ⟨gb163, 3, none⟩ = some (.slice A0_3 l0_3.length c0_3) := (blk_cell BK163.out 3).trans rfl
  have hfz40_0 := blk_frozen BK163.out 0
  have hfz40_1 := blk_frozen BK163.out 1
  have hfz40_2 := blk_frozen BK163.out 2
  have hfz40_3 := blk_frozen BK163.out 3
  go_wp2
  repeat (go_quiet (fail); try go_wp2)
  go_roundg k4
  case measure => have := HJ1.out; have := HJ8.out; have := HK3.out; have := HK4.out; omega
  case rel => exact ⟨(wrap64 (x6_4 + 1)), (by first | rfl | (simp; done) | (simp [*]; done)), H', ⟨by have := HJ1.out; have := HJ8.out; have := HK3.out; have := HK4.out; omega⟩, ⟨by (with_reducible repeat (first | refine blk_drewN ?_ _ | refine blk_drew ?_ | refine blk_alloc ?_ _)); exact BK163.out⟩, ⟨by repeat (first | (with_reducible first | exact HB.out | apply below_alloc | apply pw_below_drewN | apply below_drew1 | refine below_set ?_ GE163.out) | exact HB.out)⟩⟩)
      ·(
 rw [if_neg c33] at H
 have c33b0 : decide (x6_4 < (l0_2.length : Int)) = false := decide_eq_false c33
 clear c33
 obtain rfl := Option.some.inj H
 go_wp2
 repeat (go_quiet (fail); try go_wp2)
 go_ret
 exact ⟨by first | rfl | (simp [errW_none, errW_some] <;> rfl) | (simp [*, errW_none, errW_some] <;> rfl), by repeat (first | (with_reducible first | exact HB.out | apply below_alloc | apply pw_below_drewN | apply below_drew1 | refine below_set ?_ GE163.out) | exact HB.out)⟩))
end Go.Proofs.Ythbdmfhobienaaa.PSynthSays
