/- For all heaps, every state and every step the program's answer is the reference's. No conditions beyond the statement's. -/
import Derived.Test.YtklkcdphcmimoaaPCoverFiresx5
import Derived.Test.YtklkcdphcmimoaaQCoverFires
namespace Go.Proofs.Ytklkcdphcmimoaa.Pure
open Go.RowKit Go.Proofs.Ytklkcdphcmimoaa.PCoverFires Go.Proofs.YtklkcdphcmimoaaW.PrintWords Go.Proofs.YtklkcdphcmimoaaW.PrintLast Go.Proofs.YtklkcdphcmimoaaW.PrintMore
set_option linter.unusedVariables false
set_option linter.unusedSimpArgs false
theorem w64 {n : Int} (h : -9223372036854775808 ≤ n) (h' : n ≤ 9223372036854775807) : wrap64 n = n := by unfold wrap64; omega
theorem rdn (l : List Int) (i : Nat) (h : i < l.length) : rd l (i : Int) = l[i] := by
  unfold rd; rw [Int.toNat_natCast, List.getD_eq_getElem?_getD, List.getElem?_eq_getElem h]; rfl
theorem rdOfn {α : Type} (d : α) (l : List α) (i : Nat) (h : i < l.length) : rdOf d l (i : Int) = l[i] := by
  unfold rdOf; rw [Int.toNat_natCast, List.getD_eq_getElem?_getD, List.getElem?_eq_getElem h]; rfl
theorem evc {α : Type} {g : Nat → Option α} {a b : α} (h : Ev g a) (e : a = b) : Ev g b := e ▸ h
theorem rdL (l : List (List Int)) (n : Nat) : rd_L1 l (n : Int) = l.getD n [] := by unfold rd_L1; rw [Int.toNat_natCast]
theorem rdN (l : List Int) (n : Nat) : rd l (n : Int) = l.getD n 0 := by unfold rd; rw [Int.toNat_natCast]
theorem w1 (i : Nat) (h : i ≤ 9223372036854775000) : wrap64 ((i : Int) + 1) = ((i + 1 : Nat) : Int) := by rw [w64 (by omega) (by omega)]; omega
theorem getD_mem {α : Type} (l : List α) (n : Nat) (d : α) (h : n < l.length) : l.getD n d ∈ l := by
  rw [List.getD_eq_getElem?_getD, List.getElem?_eq_getElem h]; exact List.getElem_mem h
theorem drop_getD {α : Type} (l : List α) (n : Nat) (d : α) (h : n < l.length) : l.drop n = l.getD n d :: l.drop (n + 1) := by
  rw [List.drop_eq_getElem_cons h, List.getD_eq_getElem?_getD, List.getElem?_eq_getElem h]; rfl
theorem evermoreref1_Words_l0 (a b : List Int) (hl : a.length = b.length) (hb : a.length ≤ 9223372036854775000) : ∀ d i : Nat, i + d = a.length → Ev (fun k => evermoreref1_Words.l0 k a b (i : Int)) (decide (a.drop i = b.drop i)) := by
  intro d
  induction d with
  | zero =>
    intro i hi
    refine Ev.step (fun k => by rw [evermoreref1_Words.l0]) ?_
    simp only [if_neg (show ¬ ((i : Int) < (a.length : Int)) by omega)]
    rw [List.drop_of_length_le (by omega), List.drop_of_length_le (by omega)]
    simpa using Ev.now true
  | succ d ih =>
    intro i hi
    refine Ev.step (fun k => by rw [evermoreref1_Words.l0]) ?_
    have h1 : i < a.length := by omega
    have h2 : i < b.length := by omega
    simp only [if_pos (show ((i : Int) < (a.length : Int)) by omega), if_pos (show (0 ≤ (i : Int)) by omega), if_pos (show ((i : Int) < (b.length : Int)) by omega), rdn a i h1, rdn b i h2]
    rw [List.drop_eq_getElem_cons h1, List.drop_eq_getElem_cons h2]
    by_cases e : a[i] = b[i]
    · simp only [if_pos e]
      have := ih (i + 1) (by omega)
      rw [show wrap64 ((i : Int) + 1) = ((i + 1 : Nat) : Int) from by rw [w64 (by omega) (by omega)]; omega]
      exact evc this (by simp only [List.cons.injEq, e, true_and])
    · simp only [if_neg e]
      exact evc (Ev.now false) (by simp only [List.cons.injEq, e, false_and, decide_false])
theorem evermoreref1_Words_ev (a b : List Int) (hb : a.length ≤ 9223372036854775000) : Ev (fun k => evermoreref1_Words.f k a b) (decide (a = b)) := by
  unfold evermoreref1_Words.f
  by_cases h : a.length = b.length
  · simp only [if_pos (show ((a.length : Int) = (b.length : Int)) by omega)]
    exact evermoreref1_Words_l0 a b h hb a.length 0 (by omega)
  · simp only [if_neg (show ¬ ((a.length : Int) = (b.length : Int)) by omega)]
    have : a ≠ b := fun e => h (by rw [e])
    simpa [this] using Ev.now false
/-- what is wrong with a row -/
def rowS (r : List Int) (a m : Int) : Int := if (r.length : Int) = a then (if r.any (cover_beyond.bey m) = true then 2 else 0) else 3
theorem bey_same (m x : Int) : cover_Check.bey m x = cover_beyond.bey m x := rfl
theorem row_l0 (r : List Int) (m : Int) (hr : r.length ≤ 4) : ∀ d i : Nat, i + d = r.length → Ev (fun k => evermoreref19_row.l0 k r m (i : Int)) (if (r.drop i).any (cover_beyond.bey m) = true then 2 else 0) := by
  intro d
  induction d with
  | zero =>
    intro i hi
    refine Ev.step (fun k => by rw [evermoreref19_row.l0]) ?_
    simp only [if_neg (show ¬ (i : Int) < (r.length : Int) by omega)]
    exact evc (Ev.now _) (by rw [List.drop_of_length_le (by omega)]; rfl)
  | succ d ih =>
    intro i hi
    refine Ev.step (fun k => by rw [evermoreref19_row.l0]) ?_
    simp only [rdN, w1 i (by omega), if_pos (show (i : Int) < (r.length : Int) by omega), if_pos (show 0 ≤ (i : Int) by omega)]
    rw [drop_getD r i 0 (by omega), List.any_cons]
    by_cases h1 : r.getD i 0 < 0
    · simp only [if_pos h1]
      exact evc (Ev.now _) (by unfold cover_beyond.bey; rw [decide_eq_true h1]; rfl)
    · simp only [if_neg h1]
      by_cases h2 : r.getD i 0 > m
      · simp only [if_pos h2]
        exact evc (Ev.now _) (by rw [show cover_beyond.bey m (r.getD i 0) = true by unfold cover_beyond.bey; rw [decide_eq_true h2, Bool.or_true]]; rfl)
      · simp only [if_neg h2]
        exact evc (ih (i + 1) (by omega)) (by rw [show cover_beyond.bey m (r.getD i 0) = false by unfold cover_beyond.bey; rw [decide_eq_false h1, decide_eq_false h2]; rfl, Bool.false_or])
theorem row_ev (r : List Int) (a m : Int) (ha : a ≤ 4) : Ev (fun k => evermoreref19_row.f k r a m) (rowS r a m) := by
  unfold evermoreref19_row.f rowS
  by_cases h : (r.length : Int) = a
  · simp only [if_pos h]
    exact row_l0 r m (by omega) r.length 0 (by omega)
  · simp only [if_neg h]
    exact Ev.now _
def PL (a : Int) (l : List (List Int)) : Bool := l.any (fun x => decide ((x.length : Int) ≠ a))
def QL (l : List (List Int)) : Bool := l.any (fun x => x.any (cover_beyond.bey 2))
theorem PL_cons (a : Int) (x : List Int) (l : List (List Int)) : PL a (x :: l) = (decide ((x.length : Int) ≠ a) || PL a l) := rfl
theorem QL_cons (x : List Int) (l : List (List Int)) : QL (x :: l) = (x.any (cover_beyond.bey 2) || QL l) := rfl
def valS (a x3 : Int) (m1 m2 : List (List Int)) : Int := if PL a m1 = true ∨ PL a m2 = true then 3 else if x3 = 2 ∨ QL m1 = true ∨ QL m2 = true then 2 else 0
theorem chk_l0 (a : Int) (ha : a ≤ 4) (l1 l2 : List (List Int)) (hl : l2.length = l1.length) (h8 : l1.length ≤ 8) : ∀ d i : Nat, ∀ x3 : Int, i + d = l1.length → (x3 = 0 ∨ x3 = 2) → Ev (fun k => evermoreref19_Check.l0 k x3 (i : Int) a l1 l2) (valS a x3 (l1.drop i) (l2.drop i)) := by
  intro d
  induction d with
  | zero =>
    intro i x3 hi h3
    refine Ev.step (fun k => by rw [evermoreref19_Check.l0]) ?_
    simp only [if_neg (show ¬ (i : Int) < (l1.length : Int) by omega)]
    refine evc (Ev.now _) ?_
    rw [List.drop_of_length_le (by omega), List.drop_of_length_le (by omega)]
    rcases h3 with rfl | rfl <;> rfl
  | succ d ih =>
    intro i x3 hi h3
    refine Ev.step (fun k => by rw [evermoreref19_Check.l0]) ?_
    simp only [rdL, if_pos (show (i : Int) < (l1.length : Int) by omega), if_pos (show (i : Int) < (l2.length : Int) by omega), if_pos (show 0 ≤ (i : Int) by omega)]
    refine Ev.bind (row_ev (l1.getD i []) a 2 ha) ?_
    refine Ev.bind (row_ev (l2.getD i []) a 2 ha) ?_
    rw [drop_getD l1 i [] (by omega), drop_getD l2 i [] (by omega)]
    unfold valS
    rw [PL_cons, PL_cons, QL_cons, QL_cons]
    by_cases h1 : ((l1.getD i []).length : Int) = a
    · have e1 : rowS (l1.getD i []) a 2 ≠ 3 := by unfold rowS; rw [if_pos h1]; split <;> decide
      simp only [if_neg e1]
      refine Ev.step (fun k => by rw [evermoreref19_Check.j2]) ?_
      by_cases h2 : ((l2.getD i []).length : Int) = a
      · have e2 : (rowS (l2.getD i []) a 2 == 3) = false := by unfold rowS; rw [if_pos h2]; split <;> decide
        simp only [e2, if_neg (show ¬ (false = true) by decide), w1 i (by omega)]
        rw [decide_eq_false (show ¬ ((l1.getD i []).length : Int) ≠ a from fun x => x h1), decide_eq_false (show ¬ ((l2.getD i []).length : Int) ≠ a from fun x => x h2), Bool.false_or, Bool.false_or]
        unfold rowS
        simp only [if_pos h1, if_pos h2]
        cases q1 : (l1.getD i []).any (cover_beyond.bey 2) with
        | true =>
          simp only [if_true, if_neg (show ¬ (2 : Int) = 0 by decide)]
          refine evc (ih (i + 1) 2 (by omega) (.inr rfl)) ?_
          unfold valS
          simp
        | false =>
          simp only [if_neg (show ¬ (false = true) by decide), if_true]
          cases q2 : (l2.getD i []).any (cover_beyond.bey 2) with
          | true =>
            simp only [if_true, if_neg (show ¬ (2 : Int) = 0 by decide)]
            refine evc (ih (i + 1) 2 (by omega) (.inr rfl)) ?_
            unfold valS
            simp
          | false =>
            simp only [if_neg (show ¬ (false = true) by decide), if_true]
            refine evc (ih (i + 1) x3 (by omega) h3) ?_
            unfold valS
            simp
      · have e2 : (rowS (l2.getD i []) a 2 == 3) = true := by unfold rowS; rw [if_neg h2]; rfl
        simp only [e2, if_true]
        refine evc (Ev.now 3) ?_
        rw [decide_eq_true (show ((l2.getD i []).length : Int) ≠ a from h2)]
        simp
    · have e1 : rowS (l1.getD i []) a 2 = 3 := by unfold rowS; rw [if_neg h1]
      simp only [if_pos e1]
      refine Ev.step (fun k => by rw [evermoreref19_Check.j2]) ?_
      simp only [if_true]
      refine evc (Ev.now 3) ?_
      rw [decide_eq_true (show ((l1.getD i []).length : Int) ≠ a from h1)]
      simp
theorem chk_ev (a : Int) (l1 l2 : List (List Int)) : Ev (fun k => evermoreref19_Check.f k a l1 l2) (cover_Check.v a l1 l2) := by
  have key : ∀ b : Bool, (b = true ↔ (a < 1 ∨ a > 4 ∨ l1.length > 8)) → Ev (fun k => evermoreref19_Check.j0 k b a l1 l2) (cover_Check.v a l1 l2) := by
    intro b hb
    refine Ev.step (fun k => by rw [evermoreref19_Check.j0]) ?_
    unfold cover_Check.v
    by_cases h : b = true
    · simp only [if_pos h, if_pos (hb.1 h)]; exact Ev.now _
    · have hn : ¬ (a < 1 ∨ a > 4 ∨ l1.length > 8) := fun x => h (hb.2 x)
      simp only [if_neg h, if_neg hn]
      by_cases h2 : l2.length = l1.length
      · simp only [if_pos (show (l2.length : Int) = (l1.length : Int) by omega)]
        refine evc (chk_l0 a (by omega) l1 l2 h2 (by omega) l1.length 0 0 (by omega) (.inl rfl)) ?_
        rw [List.drop_zero, List.drop_zero, if_neg (fun x => x h2)]
        unfold valS PL QL
        rw [List.any_append, List.any_append]
        simp only [Bool.or_eq_true, show ((0 : Int) = 2) = False by simp, false_or]
        rfl
      · simp only [if_neg (show ¬ (l2.length : Int) = (l1.length : Int) by omega)]
        exact evc (Ev.now 3) (by rw [if_pos h2])
  unfold evermoreref19_Check.f
  by_cases h : a < 1
  · simp only [if_pos h]; exact key true ⟨fun _ => .inl h, fun _ => rfl⟩
  · simp only [if_neg h]
    by_cases h2 : a > 4
    · simp only [if_pos h2]; exact key true ⟨fun _ => .inr (.inl h2), fun _ => rfl⟩
    · simp only [if_neg h2]; exact key _ (by rw [decide_eq_true_iff]; omega)
structure HOk (a : Int) (l1 l2 : List (List Int)) : Prop where
  a1 : 1 ≤ a
  a4 : a ≤ 4
  n8 : l1.length ≤ 8
  n2 : l2.length = l1.length
  r1 : ∀ r ∈ l1, (r.length : Int) = a ∧ ∀ x ∈ r, 0 ≤ x ∧ x ≤ 2
  r2 : ∀ r ∈ l2, (r.length : Int) = a ∧ ∀ x ∈ r, 0 ≤ x ∧ x ≤ 2
theorem bey_no {m : Int} {r : List Int} (h : ¬ (r.any (cover_beyond.bey m) = true)) : ∀ x ∈ r, 0 ≤ x ∧ x ≤ m := by
  intro x hx
  have hb : cover_beyond.bey m x = false := by
    cases e : cover_beyond.bey m x with
    | false => rfl
    | true => exact absurd (List.any_eq_true.2 ⟨x, hx, e⟩) h
  unfold cover_beyond.bey at hb
  rw [Bool.or_eq_false_iff] at hb
  have e1 := of_decide_eq_false hb.1
  have e2 := of_decide_eq_false hb.2
  omega
theorem chk_ok {a : Int} {l1 l2 : List (List Int)} (h : cover_Check.v a l1 l2 = 0) : HOk a l1 l2 := by
  unfold cover_Check.v at h
  by_cases h1 : a < 1 ∨ a > 4 ∨ l1.length > 8
  · rw [if_pos h1] at h; omega
  rw [if_neg h1] at h
  by_cases h2 : l2.length ≠ l1.length
  · rw [if_pos h2] at h; omega
  rw [if_neg h2] at h
  by_cases h3 : (l1 ++ l2).any (fun x => decide ((x.length : Int) ≠ a)) = true
  · rw [if_pos h3] at h; omega
  rw [if_neg h3] at h
  by_cases h4 : (l1 ++ l2).any (fun x => x.any (cover_Check.bey 2)) = true
  · rw [if_pos h4] at h; omega
  have key : ∀ r ∈ l1 ++ l2, (r.length : Int) = a ∧ ∀ x ∈ r, 0 ≤ x ∧ x ≤ 2 := fun r hr =>
    ⟨Decidable.of_not_not fun x => h3 (List.any_eq_true.2 ⟨r, hr, decide_eq_true x⟩), bey_no (fun x => h4 (List.any_eq_true.2 ⟨r, hr, x⟩))⟩
  exact ⟨by omega, by omega, by omega, Decidable.of_not_not h2, fun r hr => key r (List.mem_append_left _ hr), fun r hr => key r (List.mem_append_right _ hr)⟩
/-- heaps and a state -/
def hS (a : Int) (l1 l2 : List (List Int)) (s : List Int) : Int := if cover_Check.v a l1 l2 = 0 then rowS s a 10 else cover_Check.v a l1 l2
theorem checked_ev (a : Int) (l1 l2 : List (List Int)) (s : List Int) : Ev (fun k => cover_checked.f k a l1 l2 [s]) (hS a l1 l2 s) := by
  unfold cover_checked.f cover_Check.f hS
  simp only [Option.bind_some]
  by_cases h : cover_Check.v a l1 l2 = 0
  · simp only [if_pos h]
    refine Ev.step (fun k => by rw [cover_checked.l0]) ?_
    have hw : wrap64 ((0 : Int) + 1) = 1 := by rw [w64 (by omega) (by omega)]; rfl
    have hr : rd_L1 [s] 0 = s := rfl
    simp only [List.length_singleton, hr, hw, if_pos (show (0 : Int) < ((1 : Nat) : Int) by decide), if_pos (show (0 : Int) ≤ 0 by decide)]
    unfold rowS
    by_cases h1 : (s.length : Int) = a
    · simp only [if_pos h1]
      unfold cover_beyond.f
      simp only [Option.bind_some]
      by_cases h2 : s.any (cover_beyond.bey 10) = true
      · simp only [if_pos h2]; exact Ev.now _
      · simp only [if_neg h2]
        refine Ev.step (fun k => by rw [cover_checked.l0]) ?_
        simp only [if_neg (show ¬ (1 : Int) < ((1 : Nat) : Int) by decide)]
        exact Ev.now _
    · simp only [if_neg h1]; exact Ev.now _
  · simp only [if_neg h]; exact Ev.now _
theorem heaps_ev (a : Int) (l1 l2 : List (List Int)) (s : List Int) : Ev (fun k => evermorelaw_heaps.f k a l1 l2 [s]) (hS a l1 l2 s) := by
  unfold evermorelaw_heaps.f hS
  refine Ev.bind (chk_ev a l1 l2) ?_
  refine Ev.step (fun k => by rw [evermorelaw_heaps.l0]) ?_
  have hw : wrap64 ((0 : Int) + 1) = 1 := by rw [w64 (by omega) (by omega)]; rfl
  have hr : rd_L1 [s] 0 = s := rfl
  simp only [List.length_singleton, hr, hw, if_pos (show (0 : Int) < ((1 : Nat) : Int) by decide), if_pos (show (0 : Int) ≤ 0 by decide)]
  by_cases h : cover_Check.v a l1 l2 = 0
  · have H := chk_ok h
    simp only [if_pos h]
    unfold evermoreref19_State.f
    refine Ev.bind (Ev.bind (row_ev s a 10 H.a4) (Ev.now _)) ?_
    refine Ev.step (fun k => by rw [evermorelaw_heaps.l0]) ?_
    simp only [List.length_singleton, if_neg (show ¬ (1 : Int) < ((1 : Nat) : Int) by decide)]
    exact Ev.now _
  · simp only [if_neg h]; exact Ev.now _
/-- as many of each -/
def cov (s t : List Int) : Nat → Nat → Bool
  | _, 0 => true
  | i, d + 1 => if s.getD i 0 < t.getD i 0 then false else cov s t (i + 1) d
theorem pcov (s t : List Int) (hl : t.length = s.length) (h4 : s.length ≤ 4) : ∀ d i : Nat, i + d = s.length → Ev (fun k => cover_covers.l0 k s t (s.length : Int) (i : Int)) (cov s t i d) := by
  intro d
  induction d with
  | zero =>
    intro i hi
    refine Ev.step (fun k => by rw [cover_covers.l0]) ?_
    simp only [if_neg (show ¬ (i : Int) < (s.length : Int) by omega)]
    exact Ev.now _
  | succ d ih =>
    intro i hi
    refine Ev.step (fun k => by rw [cover_covers.l0]) ?_
    simp only [rdN, w1 i (by omega), if_pos (show (i : Int) < (s.length : Int) by omega), if_pos (show (i : Int) < (t.length : Int) by omega), if_pos (show 0 ≤ (i : Int) by omega)]
    unfold cov
    by_cases h : s.getD i 0 < t.getD i 0
    · simp only [if_pos h]; exact Ev.now _
    · simp only [if_neg h]; exact ih (i + 1) (by omega)
theorem rcov (s t : List Int) (hl : t.length = s.length) (h4 : s.length ≤ 4) : ∀ d i : Nat, i + d = s.length → Ev (fun k => evermoreref19_Covers.l0 k s t (i : Int)) (cov s t i d) := by
  intro d
  induction d with
  | zero =>
    intro i hi
    refine Ev.step (fun k => by rw [evermoreref19_Covers.l0]) ?_
    simp only [if_neg (show ¬ (i : Int) < (s.length : Int) by omega)]
    exact Ev.now _
  | succ d ih =>
    intro i hi
    refine Ev.step (fun k => by rw [evermoreref19_Covers.l0]) ?_
    simp only [rdN, w1 i (by omega), if_pos (show (i : Int) < (s.length : Int) by omega), if_pos (show (i : Int) < (t.length : Int) by omega), if_pos (show 0 ≤ (i : Int) by omega)]
    unfold cov
    by_cases h : s.getD i 0 < t.getD i 0
    · simp only [if_pos h]; exact Ev.now _
    · simp only [if_neg h]; exact ih (i + 1) (by omega)
/-- the state behind a step -/
def beh (s g t : List Int) (i : Nat) : List Int := (List.range i).map (fun j => s.getD j 0 + g.getD j 0 - t.getD j 0)
theorem beh_succ (s g t : List Int) (i : Nat) : beh s g t (i + 1) = beh s g t i ++ [s.getD i 0 + g.getD i 0 - t.getD i 0] := by unfold beh; rw [List.range_succ, List.map_append]; rfl
theorem beh_len (s g t : List Int) (i : Nat) : (beh s g t i).length = i := by unfold beh; rw [List.length_map, List.length_range]
theorem rng {r : List Int} {m : Int} (h : ∀ x ∈ r, 0 ≤ x ∧ x ≤ m) {i : Nat} (hi : i < r.length) : 0 ≤ r.getD i 0 ∧ r.getD i 0 ≤ m := h _ (getD_mem _ _ _ hi)
theorem pdone {a : Int} {l1 l2 : List (List Int)} (H : HOk a l1 l2) (s : List Int) (hs : (s.length : Int) = a) (hs2 : ∀ x ∈ s, 0 ≤ x ∧ x ≤ 10) (q : Nat) (hq : q < l1.length) : ∀ d i : Nat, i + d = s.length → Ev (fun k => cover_done.l0 k (q : Int) (beh s (l2.getD q []) (l1.getD q []) i ++ s.drop i) (s.length : Int) (i : Int) a l1 l2) (beh s (l2.getD q []) (l1.getD q []) s.length) := by
  have h4 := H.a4
  have hn2 := H.n2
  have hg := H.r2 _ (getD_mem l2 q [] (by omega))
  have ht := H.r1 _ (getD_mem l1 q [] hq)
  intro d
  induction d with
  | zero =>
    intro i hi
    refine Ev.step (fun k => by rw [cover_done.l0]) ?_
    simp only [if_neg (show ¬ (i : Int) < (s.length : Int) by omega)]
    exact evc (Ev.now _) (by rw [List.drop_of_length_le (by omega), List.append_nil, show i = s.length by omega])
  | succ d ih =>
    intro i hi
    have e := ih (i + 1) (by omega)
    have b1 := rng hs2 (show i < s.length by omega)
    have b2 := rng hg.2 (show i < (l2.getD q []).length by omega)
    have b3 := rng ht.2 (show i < (l1.getD q []).length by omega)
    have hL : (beh s (l2.getD q []) (l1.getD q []) i ++ s.drop i).length = s.length := by rw [List.length_append, beh_len, List.length_drop]; omega
    have hv : (beh s (l2.getD q []) (l1.getD q []) i ++ s.drop i).getD i 0 = s.getD i 0 := by
      rw [List.getD_eq_getElem?_getD, List.getElem?_append_right (by rw [beh_len]; omega), beh_len, Nat.sub_self, drop_getD s i 0 (by omega)]; rfl
    have hset : (beh s (l2.getD q []) (l1.getD q []) i ++ s.drop i).set i (s.getD i 0 + (l2.getD q []).getD i 0 - (l1.getD q []).getD i 0) = beh s (l2.getD q []) (l1.getD q []) (i + 1) ++ s.drop (i + 1) := by
      rw [List.set_append_right _ _ (by rw [beh_len]; omega), beh_len, Nat.sub_self, drop_getD s i 0 (by omega), beh_succ, List.append_assoc]; rfl
    refine Ev.step (fun k => by rw [cover_done.l0]) ?_
    simp only [rdL, rdN, hL, hv, Int.toNat_natCast, w1 i (by omega), if_pos (show (i : Int) < (s.length : Int) by omega), if_pos (show 0 ≤ (i : Int) by omega), if_pos (show 0 ≤ (q : Int) by omega), if_pos (show (q : Int) < (l2.length : Int) by omega), if_pos (show (q : Int) < (l1.length : Int) by omega), if_pos (show (i : Int) < ((l2.getD q []).length : Int) by omega), if_pos (show (i : Int) < ((l1.getD q []).length : Int) by omega)]
    rw [w64 (n := (l2.getD q []).getD i 0 - (l1.getD q []).getD i 0) (by omega) (by omega), w64 (n := s.getD i 0 + ((l2.getD q []).getD i 0 - (l1.getD q []).getD i 0)) (by omega) (by omega), ← Int.add_sub_assoc, hset]
    exact e
theorem rdone {a : Int} {l1 l2 : List (List Int)} (H : HOk a l1 l2) (s : List Int) (hs : (s.length : Int) = a) (hs2 : ∀ x ∈ s, 0 ≤ x ∧ x ≤ 10) (q : Nat) (hq : q < l1.length) : ∀ d i : Nat, i + d = s.length → Ev (fun k => evermoreref19_Done.l0 k s (q : Int) (beh s (l2.getD q []) (l1.getD q []) i) (i : Int) a l1 l2) (beh s (l2.getD q []) (l1.getD q []) s.length) := by
  have h4 := H.a4
  have hn2 := H.n2
  have hg := H.r2 _ (getD_mem l2 q [] (by omega))
  have ht := H.r1 _ (getD_mem l1 q [] hq)
  intro d
  induction d with
  | zero =>
    intro i hi
    refine Ev.step (fun k => by rw [evermoreref19_Done.l0]) ?_
    simp only [if_neg (show ¬ (i : Int) < (s.length : Int) by omega)]
    exact evc (Ev.now _) (by rw [show i = s.length by omega])
  | succ d ih =>
    intro i hi
    have e := ih (i + 1) (by omega)
    rw [beh_succ] at e
    have b1 := rng hs2 (show i < s.length by omega)
    have b2 := rng hg.2 (show i < (l2.getD q []).length by omega)
    have b3 := rng ht.2 (show i < (l1.getD q []).length by omega)
    refine Ev.step (fun k => by rw [evermoreref19_Done.l0]) ?_
    simp only [rdL, rdN, beh_len, w1 i (by omega), if_pos (show i < 17592186044416 by omega), if_pos (show (i : Int) < (s.length : Int) by omega), if_pos (show 0 ≤ (i : Int) by omega), if_pos (show 0 ≤ (q : Int) by omega), if_pos (show (q : Int) < (l2.length : Int) by omega), if_pos (show (q : Int) < (l1.length : Int) by omega), if_pos (show (i : Int) < ((l2.getD q []).length : Int) by omega), if_pos (show (i : Int) < ((l1.getD q []).length : Int) by omega)]
    rw [w64 (n := s.getD i 0 + (l2.getD q []).getD i 0) (by omega) (by omega), w64 (n := s.getD i 0 + (l2.getD q []).getD i 0 - (l1.getD q []).getD i 0) (by omega) (by omega)]
    exact e
/-- what firing comes to -/
def fireS (a : Int) (l1 l2 : List (List Int)) (s : List Int) (t : Int) : List Int × Int :=
  if hS a l1 l2 s = 0 then (if t < 0 ∨ t ≥ (l1.length : Int) then ([], 5) else if cov s (l1.getD t.toNat []) 0 s.length = true then (beh s (l2.getD t.toNat []) (l1.getD t.toNat []) s.length, 0) else ([], 6)) else ([], hS a l1 l2 s)
theorem hS_ok {a : Int} {l1 l2 : List (List Int)} {s : List Int} (h : hS a l1 l2 s = 0) : cover_Check.v a l1 l2 = 0 ∧ (s.length : Int) = a ∧ ∀ x ∈ s, 0 ≤ x ∧ x ≤ 10 := by
  unfold hS at h
  by_cases h0 : cover_Check.v a l1 l2 = 0
  · rw [if_pos h0] at h
    unfold rowS at h
    by_cases h1 : (s.length : Int) = a
    · rw [if_pos h1] at h
      by_cases h2 : s.any (cover_beyond.bey 10) = true
      · rw [if_pos h2] at h; omega
      · exact ⟨h0, h1, bey_no h2⟩
    · rw [if_neg h1] at h; omega
  · rw [if_neg h0] at h; exact absurd h h0
theorem fire_ev (a : Int) (l1 l2 : List (List Int)) (s : List Int) (t : Int) : Ev (fun k => cover_Fire.f k a l1 l2 s t) (fireS a l1 l2 s t) := by
  unfold cover_Fire.f fireS
  refine Ev.bind (checked_ev a l1 l2 s) ?_
  by_cases h : hS a l1 l2 s = 0
  · simp only [if_pos h]
    obtain ⟨h0, h1, h2⟩ := hS_ok h
    have H := chk_ok h0
    have h4 := H.a4
    by_cases h5 : t < 0 ∨ t ≥ (l1.length : Int)
    · rw [if_pos h5]
      have key : Ev (fun k => cover_Fire.j0 k s t true a l1 l2) ([], 5) := by
        refine Ev.step (fun k => by rw [cover_Fire.j0]) ?_
        simp only [if_true]
        exact Ev.now _
      by_cases h6 : t < 0
      · simp only [if_pos h6]; exact key
      · simp only [if_neg h6, decide_eq_true (show t ≥ (l1.length : Int) by omega)]; exact key
    · rw [if_neg h5]
      obtain ⟨q, rfl⟩ := Int.eq_ofNat_of_zero_le (show 0 ≤ t by omega)
      have hq : q < l1.length := by omega
      have ht := H.r1 _ (getD_mem l1 q [] hq)
      simp only [if_neg (show ¬ (q : Int) < 0 by omega), decide_eq_false (show ¬ (q : Int) ≥ (l1.length : Int) by omega)]
      refine Ev.step (fun k => by rw [cover_Fire.j0]) ?_
      simp only [if_neg (show ¬ (false = true) by decide), rdL, Int.toNat_natCast, if_pos (show 0 ≤ (q : Int) by omega), if_pos (show (q : Int) < (l1.length : Int) by omega)]
      refine Ev.bind (pcov s (l1.getD q []) (by omega) (by omega) s.length 0 (by omega)) ?_
      by_cases h7 : cov s (l1.getD q []) 0 s.length = true
      · simp only [if_pos h7]
        unfold cover_done.f slices_Clone_int_int.f
        simp only [if_pos (show s.length < 17592186044416 by omega), Option.bind_some]
        refine Ev.bind (pdone H s h1 h2 q hq s.length 0 (by omega)) ?_
        exact Ev.now _
      · simp only [if_neg h7]
        exact Ev.now _
  · simp only [if_neg h]; exact Ev.now _
theorem law (a : Int) (l1 l2 : List (List Int)) (s : List Int) (t : Int) : Ev (fun k => evermorelaw_CoverFires.f k a l1 l2 s t) true := by
  unfold evermorelaw_CoverFires.f cover_Check.f
  simp only [Option.bind_some]
  refine Ev.bind (chk_ev a l1 l2) ?_
  refine Ev.bind (fire_ev a l1 l2 s t) ?_
  simp only [if_true]
  refine Ev.bind (heaps_ev a l1 l2 s) ?_
  unfold fireS
  have j2n : ∀ e : Int, e ≠ 0 → Ev (fun k => evermorelaw_CoverFires.j2 k s t ([] : List Int) e e a l1 l2) true := by
    intro e he
    refine Ev.step (fun k => by rw [evermorelaw_CoverFires.j2]) ?_
    simp only [if_neg he, if_true]
    exact evc (Ev.now _) rfl
  have j1n : ∀ e : Int, e ≠ 0 → Ev (fun k => evermorelaw_CoverFires.j1 k s t ([] : List Int) e e a l1 l2) true := by
    intro e he
    refine Ev.step (fun k => by rw [evermorelaw_CoverFires.j1]) ?_
    simp only [if_neg he]
    exact j2n e he
  by_cases h : hS a l1 l2 s = 0
  · obtain ⟨h0, h1, h2⟩ := hS_ok h
    have H := chk_ok h0
    have h4 := H.a4
    simp only [h, if_true]
    by_cases h5 : t < 0 ∨ t ≥ (l1.length : Int)
    · simp only [if_pos h5]
      have key : Ev (fun k => evermorelaw_CoverFires.j0 k s t ([] : List Int) 5 0 true a l1 l2) true := by
        refine Ev.step (fun k => by rw [evermorelaw_CoverFires.j0]) ?_
        simp only [if_true]
        exact j1n 5 (by decide)
      by_cases h6 : t < 0
      · simp only [if_pos h6]; exact key
      · simp only [if_neg h6, decide_eq_true (show t ≥ (l1.length : Int) by omega)]; exact key
    · simp only [if_neg h5]
      obtain ⟨q, rfl⟩ := Int.eq_ofNat_of_zero_le (show 0 ≤ t by omega)
      have hq : q < l1.length := by omega
      have ht := H.r1 _ (getD_mem l1 q [] hq)
      simp only [if_neg (show ¬ (q : Int) < 0 by omega), decide_eq_false (show ¬ (q : Int) ≥ (l1.length : Int) by omega)]
      refine Ev.step (fun k => by rw [evermorelaw_CoverFires.j0]) ?_
      simp only [if_neg (show ¬ (false = true) by decide)]
      refine Ev.step (fun k => by rw [evermorelaw_CoverFires.j1]) ?_
      simp only [rdL, Int.toNat_natCast, if_true, if_pos (show 0 ≤ (q : Int) by omega), if_pos (show (q : Int) < (l1.length : Int) by omega)]
      refine Ev.bind (rcov s (l1.getD q []) (by omega) (by omega) s.length 0 (by omega)) ?_
      by_cases h7 : cov s (l1.getD q []) 0 s.length = true
      · simp only [if_pos h7]
        refine Ev.step (fun k => by rw [evermorelaw_CoverFires.j2]) ?_
        simp only [if_true]
        refine Ev.bind (rdone H s h1 h2 q hq s.length 0 (by omega)) ?_
        refine Ev.bind (evermoreref1_Words_ev _ _ (by rw [beh_len]; omega)) ?_
        exact evc (Ev.now _) (decide_eq_true rfl)
      · simp only [if_neg h7]
        exact j2n 6 (by decide)
  · simp only [if_neg h]
    refine Ev.step (fun k => by rw [evermorelaw_CoverFires.j0]) ?_
    simp only [if_neg (show ¬ (false = true) by decide)]
    exact j1n _ h
theorem CoverFires : evermorelaw_CoverFires.PureH := by
  intro a l1 l2 s t _ _ _
  exact Ev.rounds (law a l1 l2 s t)

end Go.Proofs.Ytklkcdphcmimoaa.Pure
