import Derived.Test.YtiiioobebeaafaaGHigmanCloses
import Derived.Test.YtiiioobebeaafaaSxW
import Derived.Test.YtiiioobebeaafaaSxV2
set_option linter.unusedVariables false
namespace Go.Proofs.YtiiioobebeaafaaSx
/-- With enough fuel. -/
def Ev {α : Type} (g : Nat → Option α) (r : α) : Prop := ∃ k0, ∀ k, k0 ≤ k → g k = some r
theorem Ev.now {α : Type} (r : α) : Ev (fun _ => some r) r := ⟨0, fun _ _ => rfl⟩
theorem Ev.all {α : Type} {g : Nat → Option α} {r : α} (h : ∀ k, g k = some r) : Ev g r := ⟨0, fun k _ => h k⟩
theorem Ev.step {α : Type} {g h : Nat → Option α} {r : α} (e : ∀ k, g (k + 1) = h k) (H : Ev h r) : Ev g r := by
  obtain ⟨k0, H⟩ := H
  refine ⟨k0 + 1, fun k hk => ?_⟩
  obtain ⟨k, rfl⟩ : ∃ j, k = j + 1 := ⟨k - 1, by omega⟩
  rw [e]; exact H _ (by omega)
theorem Ev.bind {α β : Type} {g : Nat → Option α} {h : Nat → α → Option β} {x : α} {r : β} (G : Ev g x) (H : Ev (fun k => h k x) r) : Ev (fun k => (g k).bind (h k)) r := by
  obtain ⟨a, G⟩ := G
  obtain ⟨b, H⟩ := H
  refine ⟨max a b, fun k hk => ?_⟩
  show (g k).bind (h k) = some r
  rw [G k (by omega)]; exact H k (by omega)
theorem Ev.get {α : Type} {g : Nat → Option α} {r : α} (H : Ev g r) : ∃ k, g k = some r := H.elim fun k0 H => ⟨k0, H k0 (Nat.le_refl _)⟩
theorem Ev.cast {α : Type} {g : Nat → Option α} {r r' : α} (H : Ev g r) (e : r = r') : Ev g r' := e ▸ H

theorem wr64 (n : Int) (h0 : -9223372036854775808 ≤ n) (h1 : n < 9223372036854775808) : IntKind.i64.wrap n = n := by rw [IntKind.wrap_i64]; omega
theorem wrSucc (i : Nat) (h : i < 1000000000) : IntKind.i64.wrap ((i : Int) + 1) = ((i + 1 : Nat) : Int) := by rw [wr64] <;> omega
theorem rd_nat {α : Type} (d : α) (w : List α) (i : Nat) : rd d w (i : Int) = w.getD i d := by simp [rd]
theorem drop_getD {α : Type} (d : α) (w : List α) (i : Nat) (h : i < w.length) : w.drop i = w.getD i d :: w.drop (i + 1) := by
  rw [List.drop_eq_getElem_cons h]; simp [List.getD, h]
theorem short (n : Nat) (h : n < 1000000000) : Nat.blt n 1000000000 = true := Nat.ble_eq_true_of_le (by omega)
end Go.Proofs.YtiiioobebeaafaaSx
namespace Go.Proofs.YtiiioobebeaafaaSx.DC
def bad (N : Int) (b : Int) : Bool := decide (b < 0) || decide (N ≤ b)
def badW (B : Int) (w : List Int) : Bool := !decide ((w.length : Int) = B)
def badM (m : Int) : Bool := !(decide (m = 0) || decide (m = 1))
/-- An automaton that may be. -/
structure Fit (A s : Int) (N : List (List Int)) (M : List Int) : Prop where
  a1 : 1 ≤ A
  a4 : A ≤ 4
  n1 : 1 ≤ N.length
  n3 : N.length ≤ 3000
  m : M.length = N.length
  row : ∀ q, q < N.length → ((N.getD q []).length : Int) = A
  s : 0 ≤ s ∧ s < (N.length : Int)
  ent : ∀ q, q < N.length → ∀ a : Nat, (a : Int) < A → 0 ≤ (N.getD q []).getD a 0 ∧ (N.getD q []).getD a 0 < (N.length : Int)
  mark : ∀ q, q < N.length → M.getD q 0 = 0 ∨ M.getD q 0 = 1

theorem idx1 (A s : Int) (N' : List (List Int)) (M : List Int) (N : List (List Int)) (hN : N.length ≤ 3000) : ∀ n i, N.length - i = n → i ≤ N.length →
    ∃ r, Ev (fun k => slices_IndexFunc_____int___int_.l2 k N (N.length : Int) (i : Int) A s N' M) (r, A, s, N', M) ∧ decide (0 ≤ r) = (N.drop i).any (badW A) := by
  intro n
  induction n with
  | zero =>
    intro i hn hi
    refine ⟨-1, Ev.step (h := fun _ => some (-1, A, s, N', M)) (fun k => ?_) (Ev.now _), ?_⟩
    · rw [slices_IndexFunc_____int___int_.l2, if_neg (by omega)]
    · rw [List.drop_eq_nil_of_le (by omega)]; rfl
  | succ n ih =>
    intro i hn hi
    obtain ⟨r, h1, h2⟩ := ih (i + 1) (by omega) (by omega)
    by_cases hb : badW A (N.getD i []) = true
    · refine ⟨i, Ev.step (h := fun _ => some ((i : Int), A, s, N', M)) (fun k => ?_) (Ev.now _), ?_⟩
      · rw [slices_IndexFunc_____int___int_.l2, if_pos (by omega), if_pos (by omega), if_pos (by omega), det_Check_1.f, rd_nat, Option.bind_some]
        rw [badW] at hb; simp only [hb, if_true]
      · rw [drop_getD [] N i (by omega), List.any_cons, hb, Bool.true_or, decide_eq_true (by omega)]
    · refine ⟨r, Ev.step (h := fun k => slices_IndexFunc_____int___int_.l2 k N (N.length : Int) ((i + 1 : Nat) : Int) A s N' M) (fun k => ?_) h1, ?_⟩
      · rw [slices_IndexFunc_____int___int_.l2, if_pos (by omega), if_pos (by omega), if_pos (by omega), det_Check_1.f, rd_nat, Option.bind_some, wrSucc i (by omega)]
        rw [Bool.not_eq_true, badW] at hb; simp only [hb, Bool.false_eq_true, if_false]
      · rw [drop_getD [] N i (by omega), List.any_cons, h2, show badW A (N.getD i []) = false from (Bool.not_eq_true _).mp hb, Bool.false_or]
theorem con1 (A s : Int) (N' : List (List Int)) (M : List Int) (N : List (List Int)) (hN : N.length ≤ 3000) :
    Ev (fun k => slices_ContainsFunc_____int___int_.f k N A s N' M) (N.any (badW A), A, s, N', M) := by
  obtain ⟨r, h1, h2⟩ := idx1 A s N' M N hN _ 0 rfl (by omega)
  rw [List.drop_zero] at h2
  refine (Ev.bind (g := fun k => slices_IndexFunc_____int___int_.f k N A s N' M) (x := (r, A, s, N', M)) (h := fun k r1 => some (decide (0 ≤ r1.fst), r1.snd.fst, r1.snd.snd.fst, r1.snd.snd.snd.fst, r1.snd.snd.snd.snd)) h1 (Ev.now _)).cast ?_
  exact congrArg (fun b => (b, A, s, N', M)) h2

theorem check2 (k : Nat) (b n : Int) : det_Check_2.f k b n = some (bad n b, n) := by
  rw [det_Check_2.f, bad]
  by_cases h : b < 0
  · rw [if_pos h]; simp [h]
  · rw [if_neg h]; simp [h]
theorem idx2 (n0 : Int) (w : List Int) (hw : w.length ≤ 10000) : ∀ n i, w.length - i = n → i ≤ w.length →
    ∃ r, Ev (fun k => slices_IndexFunc___int_int_.l2 k w (w.length : Int) (i : Int) n0) (r, n0) ∧ decide (0 ≤ r) = (w.drop i).any (bad n0) := by
  intro n
  induction n with
  | zero =>
    intro i hn hi
    refine ⟨-1, Ev.step (h := fun _ => some (-1, n0)) (fun k => ?_) (Ev.now _), ?_⟩
    · rw [slices_IndexFunc___int_int_.l2, if_neg (by omega)]
    · rw [List.drop_eq_nil_of_le (by omega)]; rfl
  | succ n ih =>
    intro i hn hi
    obtain ⟨r, h1, h2⟩ := ih (i + 1) (by omega) (by omega)
    by_cases hb : bad n0 (w.getD i (Int.ofNat 0)) = true
    · refine ⟨i, Ev.step (h := fun _ => some ((i : Int), n0)) (fun k => ?_) (Ev.now _), ?_⟩
      · rw [slices_IndexFunc___int_int_.l2, if_pos (by omega), if_pos (by omega), if_pos (by omega), check2, rd_nat, Option.bind_some]
        simp only [hb, if_true]
      · rw [drop_getD (Int.ofNat 0) w i (by omega), List.any_cons, hb, Bool.true_or, decide_eq_true (by omega)]
    · refine ⟨r, Ev.step (h := fun k => slices_IndexFunc___int_int_.l2 k w (w.length : Int) ((i + 1 : Nat) : Int) n0) (fun k => ?_) h1, ?_⟩
      · rw [slices_IndexFunc___int_int_.l2, if_pos (by omega), if_pos (by omega), if_pos (by omega), check2, rd_nat, Option.bind_some, wrSucc i (by omega)]
        simp only [hb]; rfl
      · rw [drop_getD (Int.ofNat 0) w i (by omega), List.any_cons, h2, show bad n0 (w.getD i (Int.ofNat 0)) = false from (Bool.not_eq_true _).mp hb, Bool.false_or]
theorem con2 (n0 : Int) (w : List Int) (hw : w.length ≤ 10000) : Ev (fun k => slices_ContainsFunc___int_int_.f k w n0) (w.any (bad n0), n0) := by
  obtain ⟨r, h1, h2⟩ := idx2 n0 w hw _ 0 rfl (by omega)
  rw [List.drop_zero] at h2
  refine (Ev.bind (g := fun k => slices_IndexFunc___int_int_.f k w n0) (x := (r, n0)) (h := fun k r1 => some (decide (0 ≤ r1.fst), r1.snd)) h1 (Ev.now _)).cast ?_
  exact congrArg (fun b => (b, n0)) h2
theorem check3 (n0 : Int) (w : List Int) (hw : w.length ≤ 10000) : Ev (fun k => det_Check_3.f k w n0) (w.any (bad n0), n0) := by
  show Ev (fun k => (slices_ContainsFunc___int_int_.f k w n0).bind fun r1 => some (r1.fst, r1.snd)) _
  exact Ev.bind (x := (w.any (bad n0), n0)) (con2 n0 w hw) (Ev.now _)
theorem idx3 (n0 : Int) (N : List (List Int)) (hN : N.length ≤ 3000) (hw : ∀ q, q < N.length → (N.getD q []).length ≤ 10000) : ∀ n i, N.length - i = n → i ≤ N.length →
    ∃ r, Ev (fun k => slices_IndexFunc_____int___int__2.l2 k N (N.length : Int) (i : Int) n0) (r, n0) ∧ decide (0 ≤ r) = (N.drop i).any (fun w => w.any (bad n0)) := by
  intro n
  induction n with
  | zero =>
    intro i hn hi
    refine ⟨-1, Ev.step (h := fun _ => some (-1, n0)) (fun k => ?_) (Ev.now _), ?_⟩
    · rw [slices_IndexFunc_____int___int__2.l2, if_neg (by omega)]
    · rw [List.drop_eq_nil_of_le (by omega)]; rfl
  | succ n ih =>
    intro i hn hi
    obtain ⟨r, h1, h2⟩ := ih (i + 1) (by omega) (by omega)
    have c3 := check3 n0 (N.getD i []) (hw i (by omega))
    by_cases hb : (N.getD i []).any (bad n0) = true
    · refine ⟨i, Ev.step (h := fun k => (det_Check_3.f k (N.getD i []) n0).bind fun r5 => if r5.fst = true then some ((i : Int), r5.snd) else slices_IndexFunc_____int___int__2.l2 k N (N.length : Int) ((i + 1 : Nat) : Int) r5.snd) (fun k => ?_) (Ev.bind c3 ?_), ?_⟩
      · rw [slices_IndexFunc_____int___int__2.l2, if_pos (by omega), if_pos (by omega), if_pos (by omega), rd_nat, wrSucc i (by omega)]
      · simp only [hb, if_true]; exact Ev.now _
      · rw [drop_getD [] N i (by omega), List.any_cons, hb, Bool.true_or, decide_eq_true (by omega)]
    · refine ⟨r, Ev.step (h := fun k => (det_Check_3.f k (N.getD i []) n0).bind fun r5 => if r5.fst = true then some ((i : Int), r5.snd) else slices_IndexFunc_____int___int__2.l2 k N (N.length : Int) ((i + 1 : Nat) : Int) r5.snd) (fun k => ?_) (Ev.bind c3 ?_), ?_⟩
      · rw [slices_IndexFunc_____int___int__2.l2, if_pos (by omega), if_pos (by omega), if_pos (by omega), rd_nat, wrSucc i (by omega)]
      · simp only [if_neg hb]; exact h1
      · rw [drop_getD [] N i (by omega), List.any_cons, h2, show (N.getD i []).any (bad n0) = false from (Bool.not_eq_true _).mp hb, Bool.false_or]
theorem con3 (n0 : Int) (N : List (List Int)) (hN : N.length ≤ 3000) (hw : ∀ q, q < N.length → (N.getD q []).length ≤ 10000) : Ev (fun k => slices_ContainsFunc_____int___int__2.f k N n0) (N.any (fun w => w.any (bad n0)), n0) := by
  obtain ⟨r, h1, h2⟩ := idx3 n0 N hN hw _ 0 rfl (by omega)
  rw [List.drop_zero] at h2
  refine (Ev.bind (g := fun k => slices_IndexFunc_____int___int__2.f k N n0) (x := (r, n0)) (h := fun k r1 => some (decide (0 ≤ r1.fst), r1.snd)) h1 (Ev.now _)).cast ?_
  exact congrArg (fun b => (b, n0)) h2
theorem check4 (k : Nat) (m : Int) : det_Check_4.f k m = some (badM m) := by
  rw [det_Check_4.f, badM]
  by_cases h : m = 0
  · rw [if_pos h]; simp [h]
  · rw [if_neg h]; simp [h]
theorem idx4 (w : List Int) (hw : w.length ≤ 3000) : ∀ n i, w.length - i = n → i ≤ w.length →
    ∃ r, Ev (fun k => slices_IndexFunc___int_int__2.l2 k w (w.length : Int) (i : Int)) r ∧ decide (0 ≤ r) = (w.drop i).any badM := by
  intro n
  induction n with
  | zero =>
    intro i hn hi
    refine ⟨-1, Ev.step (h := fun _ => some (-1)) (fun k => ?_) (Ev.now _), ?_⟩
    · rw [slices_IndexFunc___int_int__2.l2, if_neg (by omega)]
    · rw [List.drop_eq_nil_of_le (by omega)]; rfl
  | succ n ih =>
    intro i hn hi
    obtain ⟨r, h1, h2⟩ := ih (i + 1) (by omega) (by omega)
    by_cases hb : badM (w.getD i (Int.ofNat 0)) = true
    · refine ⟨i, Ev.step (h := fun _ => some (i : Int)) (fun k => ?_) (Ev.now _), ?_⟩
      · rw [slices_IndexFunc___int_int__2.l2, if_pos (by omega), if_pos (by omega), if_pos (by omega), check4, rd_nat, Option.bind_some, if_pos hb]
      · rw [drop_getD (Int.ofNat 0) w i (by omega), List.any_cons, hb, Bool.true_or, decide_eq_true (by omega)]
    · refine ⟨r, Ev.step (h := fun k => slices_IndexFunc___int_int__2.l2 k w (w.length : Int) ((i + 1 : Nat) : Int)) (fun k => ?_) h1, ?_⟩
      · rw [slices_IndexFunc___int_int__2.l2, if_pos (by omega), if_pos (by omega), if_pos (by omega), check4, rd_nat, Option.bind_some, wrSucc i (by omega), if_neg hb]
      · rw [drop_getD (Int.ofNat 0) w i (by omega), List.any_cons, h2, show badM (w.getD i (Int.ofNat 0)) = false from (Bool.not_eq_true _).mp hb, Bool.false_or]
theorem con4 (w : List Int) (hw : w.length ≤ 3000) : Ev (fun k => slices_ContainsFunc___int_int__2.f k w) (w.any badM) := by
  obtain ⟨r, h1, h2⟩ := idx4 w hw _ 0 rfl (by omega)
  rw [List.drop_zero] at h2
  refine (Ev.bind (g := fun k => slices_IndexFunc___int_int__2.f k w) (x := r) (h := fun k r1 => some (decide (0 ≤ r1))) h1 (Ev.now _)).cast ?_
  exact h2
end Go.Proofs.YtiiioobebeaafaaSx.DC
namespace Go.Proofs.YtiiioobebeaafaaSx.DC
variable {A s : Int} {N : List (List Int)} {M : List Int}
theorem r24 (hN : N.length ≤ 3000) (hM : M.length = N.length) : ∀ n i, N.length - i = n → i ≤ N.length → Ev (fun k => evermoreref3_Check.l24 k (N.length : Int) (i : Int) A s N M) (if (M.drop i).any badM = true then 2 else 0) := by
  intro n
  induction n with
  | zero =>
    intro i hn hi
    rw [List.drop_eq_nil_of_le (by omega)]
    refine Ev.step (h := fun _ => some 0) (fun k => ?_) (Ev.now _)
    rw [evermoreref3_Check.l24, if_neg (by omega)]
  | succ n ih =>
    intro i hn hi
    have h1 := ih (i + 1) (by omega) (by omega)
    rw [drop_getD (Int.ofNat 0) M i (by omega), List.any_cons]
    by_cases c0 : M.getD i (Int.ofNat 0) = 0
    · rw [show badM (M.getD i (Int.ofNat 0)) = false by rw [badM, decide_eq_true c0]; rfl, Bool.false_or]
      refine Ev.step (h := fun k => evermoreref3_Check.l24 k (N.length : Int) ((i + 1 : Nat) : Int) A s N M) (fun k => ?_) h1
      rw [evermoreref3_Check.l24, if_pos (by omega), if_pos (by omega), if_pos (by omega), rd_nat, if_pos c0, wrSucc i (by omega)]
    · by_cases c1 : M.getD i (Int.ofNat 0) = 1
      · rw [show badM (M.getD i (Int.ofNat 0)) = false by rw [badM, decide_eq_true c1, Bool.or_true]; rfl, Bool.false_or]
        refine Ev.step (h := fun k => evermoreref3_Check.l24 k (N.length : Int) ((i + 1 : Nat) : Int) A s N M) (fun k => ?_) h1
        rw [evermoreref3_Check.l24, if_pos (by omega), if_pos (by omega), if_pos (by omega), rd_nat, if_neg c0, if_pos (by omega), if_pos (by omega), if_pos c1, wrSucc i (by omega)]
      · rw [show badM (M.getD i (Int.ofNat 0)) = true by rw [badM, decide_eq_false c1, decide_eq_false c0]; rfl, Bool.true_or, if_pos rfl]
        refine Ev.step (h := fun _ => some 2) (fun k => ?_) (Ev.now _)
        rw [evermoreref3_Check.l24, if_pos (by omega), if_pos (by omega), if_pos (by omega), rd_nat, if_neg c0, if_pos (by omega), if_pos (by omega), if_neg c1]

theorem r19 (hN : N.length ≤ 3000) (hA : A ≤ 4) (q : Nat) (hq : q < N.length) (hrow : ((N.getD q []).length : Int) = A) : ∀ n a, (N.getD q []).length - a = n → a ≤ (N.getD q []).length →
    (((N.getD q []).drop a).any (bad (N.length : Int)) = true → Ev (fun k => evermoreref3_Check.l19 k (N.length : Int) (q : Int) (a : Int) A s N M) 2) ∧
    (((N.getD q []).drop a).any (bad (N.length : Int)) = false → ∀ e, Ev (fun k => evermoreref3_Check.l16 k (N.length : Int) ((q + 1 : Nat) : Int) A s N M) e → Ev (fun k => evermoreref3_Check.l19 k (N.length : Int) (q : Int) (a : Int) A s N M) e) := by
  intro n
  induction n with
  | zero =>
    intro a hn ha
    rw [List.drop_eq_nil_of_le (by omega)]
    refine ⟨fun h => by simp at h, fun _ e he => Ev.step (fun k => ?_) he⟩
    rw [evermoreref3_Check.l19, if_neg (by omega), wrSucc q (by omega)]
  | succ n ih =>
    intro a hn ha
    obtain ⟨h1, h2⟩ := ih (a + 1) (by omega) (by omega)
    rw [drop_getD (Int.ofNat 0) (N.getD q []) a (by omega), List.any_cons]
    by_cases c0 : (N.getD q []).getD a (Int.ofNat 0) < 0
    · rw [show bad (N.length : Int) ((N.getD q []).getD a (Int.ofNat 0)) = true by rw [bad, decide_eq_true c0]; rfl, Bool.true_or]
      refine ⟨fun _ => Ev.step (h := fun _ => some 2) (fun k => ?_) (Ev.now _), fun h => by simp at h⟩
      rw [evermoreref3_Check.l19, if_pos (by omega), if_pos (by omega), if_pos (by omega), if_pos (by omega), rd_nat, if_pos (by omega), rd_nat, if_pos c0]
    · by_cases c1 : (N.length : Int) ≤ (N.getD q []).getD a (Int.ofNat 0)
      · rw [show bad (N.length : Int) ((N.getD q []).getD a (Int.ofNat 0)) = true by rw [bad, decide_eq_true c1, Bool.or_true], Bool.true_or]
        refine ⟨fun _ => Ev.step (h := fun _ => some 2) (fun k => ?_) (Ev.now _), fun h => by simp at h⟩
        rw [evermoreref3_Check.l19, if_pos (by omega), if_pos (by omega), if_pos (by omega), if_pos (by omega), rd_nat, if_pos (by omega), rd_nat, if_neg c0, if_pos (by omega), if_pos (by omega), if_pos (by omega), if_pos (by omega), if_pos c1]
      · rw [show bad (N.length : Int) ((N.getD q []).getD a (Int.ofNat 0)) = false by rw [bad, decide_eq_false c1, decide_eq_false c0]; rfl, Bool.false_or]
        refine ⟨fun h => Ev.step (fun k => ?_) (h1 h), fun h e he => Ev.step (fun k => ?_) (h2 h e he)⟩
        · rw [evermoreref3_Check.l19, if_pos (by omega), if_pos (by omega), if_pos (by omega), if_pos (by omega), rd_nat, if_pos (by omega), rd_nat, if_neg c0, if_pos (by omega), if_pos (by omega), if_pos (by omega), if_pos (by omega), if_neg c1, wrSucc a (by omega)]
        · rw [evermoreref3_Check.l19, if_pos (by omega), if_pos (by omega), if_pos (by omega), if_pos (by omega), rd_nat, if_pos (by omega), rd_nat, if_neg c0, if_pos (by omega), if_pos (by omega), if_pos (by omega), if_pos (by omega), if_neg c1, wrSucc a (by omega)]

theorem r16 (hN : N.length ≤ 3000) (hA : A ≤ 4) (hrow : ∀ q, q < N.length → ((N.getD q []).length : Int) = A) : ∀ n q, N.length - q = n → q ≤ N.length →
    ((N.drop q).any (fun w => w.any (bad (N.length : Int))) = true → Ev (fun k => evermoreref3_Check.l16 k (N.length : Int) (q : Int) A s N M) 2) ∧
    ((N.drop q).any (fun w => w.any (bad (N.length : Int))) = false → ∀ e, Ev (fun k => evermoreref3_Check.l24 k (N.length : Int) 0 A s N M) e → Ev (fun k => evermoreref3_Check.l16 k (N.length : Int) (q : Int) A s N M) e) := by
  intro n
  induction n with
  | zero =>
    intro q hn hq
    rw [List.drop_eq_nil_of_le (by omega)]
    refine ⟨fun h => by simp at h, fun _ e he => Ev.step (fun k => ?_) he⟩
    rw [evermoreref3_Check.l16, if_neg (by omega)]
  | succ n ih =>
    intro q hn hq
    obtain ⟨h1, h2⟩ := ih (q + 1) (by omega) (by omega)
    have R := r19 (M := M) (s := s) hN hA q (by omega) (hrow q (by omega)) _ 0 rfl (by omega)
    rw [List.drop_zero] at R
    rw [drop_getD [] N q (by omega), List.any_cons]
    by_cases hb : (N.getD q []).any (bad (N.length : Int)) = true
    · rw [hb, Bool.true_or]
      refine ⟨fun _ => Ev.step (fun k => ?_) (R.1 hb), fun h => by simp at h⟩
      rw [evermoreref3_Check.l16, if_pos (by omega)]; rfl
    · have hb' := (Bool.not_eq_true _).mp hb
      rw [hb', Bool.false_or]
      refine ⟨fun h => Ev.step (fun k => ?_) (R.2 hb' 2 (h1 h)), fun h e he => Ev.step (fun k => ?_) (R.2 hb' e (h2 h e he))⟩
      · rw [evermoreref3_Check.l16, if_pos (by omega)]; rfl
      · rw [evermoreref3_Check.l16, if_pos (by omega)]; rfl

theorem r9 (hN : N.length ≤ 3000) : ∀ n q, N.length - q = n → q ≤ N.length →
    ((N.drop q).any (badW A) = true → Ev (fun k => evermoreref3_Check.l9 k (N.length : Int) (q : Int) A s N M) 3) ∧
    ((N.drop q).any (badW A) = false → ∀ e, Ev (fun k => if s < 0 then some 2 else if (N.length : Int) ≤ s then some 2 else evermoreref3_Check.l16 k (N.length : Int) 0 A s N M) e → Ev (fun k => evermoreref3_Check.l9 k (N.length : Int) (q : Int) A s N M) e) := by
  intro n
  induction n with
  | zero =>
    intro q hn hq
    rw [List.drop_eq_nil_of_le (by omega)]
    refine ⟨fun h => by simp at h, fun _ e he => Ev.step (fun k => ?_) he⟩
    rw [evermoreref3_Check.l9, if_neg (by omega)]
  | succ n ih =>
    intro q hn hq
    obtain ⟨h1, h2⟩ := ih (q + 1) (by omega) (by omega)
    rw [drop_getD [] N q (by omega), List.any_cons]
    by_cases hb : ((N.getD q []).length : Int) = A
    · rw [show badW A (N.getD q []) = false by rw [badW, decide_eq_true hb]; rfl, Bool.false_or]
      refine ⟨fun h => Ev.step (fun k => ?_) (h1 h), fun h e he => Ev.step (fun k => ?_) (h2 h e he)⟩
      · rw [evermoreref3_Check.l9, if_pos (by omega), if_pos (by omega), if_pos (by omega), rd_nat, if_pos hb, wrSucc q (by omega)]
      · rw [evermoreref3_Check.l9, if_pos (by omega), if_pos (by omega), if_pos (by omega), rd_nat, if_pos hb, wrSucc q (by omega)]
    · rw [show badW A (N.getD q []) = true by rw [badW, decide_eq_false hb]; rfl, Bool.true_or]
      refine ⟨fun _ => Ev.step (h := fun _ => some 3) (fun k => ?_) (Ev.now _), fun h => by simp at h⟩
      rw [evermoreref3_Check.l9, if_pos (by omega), if_pos (by omega), if_pos (by omega), rd_nat, if_neg hb]

theorem any_at {α : Type} (d : α) (f : α → Bool) (w : List α) (h : w.any f = false) (j : Nat) (hj : j < w.length) : f (w.getD j d) = false := by
  rw [List.any_eq_false] at h
  have : w.getD j d ∈ w := by rw [List.getD_eq_getElem?_getD, List.getElem?_eq_getElem hj]; exact List.getElem_mem hj
  exact (Bool.not_eq_true _).mp (h _ this)
theorem bad_false {N b : Int} (h : bad N b = false) : 0 ≤ b ∧ b < N := by
  rw [bad, Bool.or_eq_false_iff, decide_eq_false_iff_not, decide_eq_false_iff_not] at h; omega

/-- Both say the same of an automaton. -/
theorem check_ev (A s : Int) (N : List (List Int)) (M : List Int) : ∃ e, Ev (fun k => det_Check.f k (A, s, N, M, ())) e ∧ Ev (fun k => evermoreref3_Check.f k (A, s, N, M, ())) e ∧ (e = 0 → Fit A s N M) := by
  by_cases h1 : A < 1
  · exact ⟨2, .all fun k => by rw [det_Check.f, if_pos h1], .all fun k => by rw [evermoreref3_Check.f, if_pos h1], fun h => absurd h (by decide)⟩
  by_cases h2 : 4 < A
  · exact ⟨2, .all fun k => by rw [det_Check.f, if_neg h1, if_pos h2], .all fun k => by rw [evermoreref3_Check.f, if_neg h1, if_pos h2], fun h => absurd h (by decide)⟩
  by_cases h3 : (N.length : Int) < 1
  · exact ⟨1, .all fun k => by rw [det_Check.f, if_neg h1, if_neg h2, if_pos h3], .all fun k => by rw [evermoreref3_Check.f, if_neg h1, if_neg h2, if_pos h3], fun h => absurd h (by decide)⟩
  by_cases h4 : 3000 < (N.length : Int)
  · exact ⟨1, .all fun k => by rw [det_Check.f, if_neg h1, if_neg h2, if_neg h3, if_pos h4], .all fun k => by rw [evermoreref3_Check.f, if_neg h1, if_neg h2, if_neg h3, if_pos h4], fun h => absurd h (by decide)⟩
  by_cases h5 : ¬ (M.length : Int) = (N.length : Int)
  · exact ⟨3, .all fun k => by rw [det_Check.f, if_neg h1, if_neg h2, if_neg h3, if_neg h4, if_neg h5], .all fun k => by rw [evermoreref3_Check.f, if_neg h1, if_neg h2, if_neg h3, if_neg h4, if_neg h5], fun h => absurd h (by decide)⟩
  have h5 := Decidable.not_not.1 h5
  have hN : N.length ≤ 3000 := by omega
  have R9 := r9 (A := A) (s := s) (M := M) hN _ 0 rfl (by omega)
  rw [List.drop_zero] at R9
  have C1 := con1 A s N M N hN
  by_cases hb : N.any (badW A) = true
  · refine ⟨3, ?_, ?_, fun h => absurd h (by decide)⟩
    · simp only [det_Check.f, if_neg h1, if_neg h2, if_neg h3, if_neg h4, if_pos h5]
      refine Ev.bind C1 ?_
      simp only [if_pos hb]; exact Ev.now _
    · simp only [evermoreref3_Check.f, if_neg h1, if_neg h2, if_neg h3, if_neg h4, if_pos h5]
      exact R9.1 hb
  have hb' := (Bool.not_eq_true _).mp hb
  have hrow : ∀ q, q < N.length → ((N.getD q []).length : Int) = A := by
    intro q hq
    have := any_at [] _ _ hb' q hq
    rw [badW, Bool.not_eq_false', decide_eq_true_iff] at this; exact this
  by_cases hs : bad (N.length : Int) s = true
  · refine ⟨2, ?_, ?_, fun h => absurd h (by decide)⟩
    · simp only [det_Check.f, if_neg h1, if_neg h2, if_neg h3, if_neg h4, if_pos h5]
      refine Ev.bind C1 ?_
      simp only [if_neg hb]
      refine Ev.bind (.all fun k => check2 k s _) ?_
      simp only [if_pos hs]; exact Ev.now _
    · simp only [evermoreref3_Check.f, if_neg h1, if_neg h2, if_neg h3, if_neg h4, if_pos h5]
      refine R9.2 hb' 2 ?_
      rw [bad, Bool.or_eq_true, decide_eq_true_iff, decide_eq_true_iff] at hs
      by_cases c0 : s < 0
      · simp only [if_pos c0]; exact Ev.now _
      · have c1 : (N.length : Int) ≤ s := hs.resolve_left c0
        simp only [if_neg c0, if_pos c1]; exact Ev.now _
  have hs' := bad_false ((Bool.not_eq_true _).mp hs)
  have hs0 : ¬ s < 0 := by omega
  have hs1 : ¬ (N.length : Int) ≤ s := by omega
  have C3 := con3 (N.length : Int) N hN (fun q hq => by have := hrow q hq; omega)
  have R16 := r16 (s := s) (M := M) hN (by omega) hrow _ 0 rfl (by omega)
  rw [List.drop_zero] at R16
  by_cases he : N.any (fun w => w.any (bad (N.length : Int))) = true
  · refine ⟨2, ?_, ?_, fun h => absurd h (by decide)⟩
    · simp only [det_Check.f, if_neg h1, if_neg h2, if_neg h3, if_neg h4, if_pos h5]
      refine Ev.bind C1 ?_
      simp only [if_neg hb]
      refine Ev.bind (.all fun k => check2 k s _) ?_
      simp only [if_neg hs]
      refine Ev.bind C3 ?_
      simp only [if_pos he]; exact Ev.now _
    · simp only [evermoreref3_Check.f, if_neg h1, if_neg h2, if_neg h3, if_neg h4, if_pos h5]
      refine R9.2 hb' 2 ?_
      simp only [if_neg hs0, if_neg hs1]
      exact R16.1 he
  have he' := (Bool.not_eq_true _).mp he
  have C4 := con4 M (by omega)
  have R24 := r24 (A := A) (s := s) hN (show M.length = N.length by omega) _ 0 rfl (by omega)
  rw [List.drop_zero] at R24
  refine ⟨if M.any badM = true then 2 else 0, ?_, ?_, fun h => ?_⟩
  · simp only [det_Check.f, if_neg h1, if_neg h2, if_neg h3, if_neg h4, if_pos h5]
    refine Ev.bind C1 ?_
    simp only [if_neg hb]
    refine Ev.bind (.all fun k => check2 k s _) ?_
    simp only [if_neg hs]
    refine Ev.bind C3 ?_
    simp only [if_neg he]
    refine Ev.bind C4 ?_
    by_cases hm : M.any badM = true
    · simp only [if_pos hm]; exact Ev.now _
    · simp only [if_neg hm]; exact Ev.now _
  · simp only [evermoreref3_Check.f, if_neg h1, if_neg h2, if_neg h3, if_neg h4, if_pos h5]
    refine R9.2 hb' _ ?_
    simp only [if_neg hs0, if_neg hs1]
    exact R16.2 he' _ R24
  · by_cases hm : M.any badM = true
    · rw [if_pos hm] at h; exact absurd h (by decide)
    · have hm' := (Bool.not_eq_true _).mp hm
      refine ⟨by omega, by omega, by omega, hN, by omega, hrow, hs', fun q hq a ha => ?_, fun q hq => ?_⟩
      · have := any_at [] _ _ he' q hq
        have hr := hrow q hq
        exact bad_false (any_at 0 _ _ this a (by omega))
      · have := any_at 0 _ _ hm' q (by omega)
        rw [badM, Bool.not_eq_false', Bool.or_eq_true, decide_eq_true_iff, decide_eq_true_iff] at this
        exact this
end Go.Proofs.YtiiioobebeaafaaSx.DC
namespace Go.Proofs.YtiiioobebeaafaaSx.DC
/-! Keys: two bytes a number. -/
def encB (x : Int) : List Int := [IntKind.u8.wrap x, IntKind.u8.wrap (x.fdiv (2 ^ min (Int.toNat 8) IntKind.i64.bits))]
theorem strOf_data (L : List Int) : ∀ r : ByteArray, (L.foldl (fun r n => r.push (UInt8.ofNat n.toNat)) r).data.toList = r.data.toList ++ L.map fun n => UInt8.ofNat n.toNat := by
  induction L with
  | nil => intro r; simp
  | cons a L ih => intro r; rw [List.foldl_cons, ih]; simp [ByteArray.push]
theorem wrap_u8 (x : Int) : IntKind.u8.wrap x = x % 256 := by
  simp [IntKind.wrap, IntKind.signed, IntKind.bits]
theorem enc_eq (x : Int) : encB x = [x % 256, (x / 256) % 256] := by
  have e : (2 : Int) ^ min (Int.toNat 8) IntKind.i64.bits = 256 := by decide
  rw [encB, wrap_u8, wrap_u8, e, Int.fdiv_eq_ediv_of_nonneg _ (by decide)]
theorem enc_inj : ∀ u v : List Int, u.length = v.length → (∀ x ∈ u, 0 ≤ x ∧ x < 65536) → (∀ x ∈ v, 0 ≤ x ∧ x < 65536) → (u.flatMap encB).map (fun n => UInt8.ofNat n.toNat) = (v.flatMap encB).map (fun n => UInt8.ofNat n.toNat) → u = v := by
  intro u
  induction u with
  | nil => intro v h _ _ _; cases v with
    | nil => rfl
    | cons => simp at h
  | cons a u ih =>
    intro v h hu hv e
    cases v with
    | nil => simp at h
    | cons b v =>
      have ha := hu a List.mem_cons_self
      have hb := hv b List.mem_cons_self
      rw [List.flatMap_cons, List.flatMap_cons, List.map_append, List.map_append, enc_eq, enc_eq] at e
      simp only [List.map_cons, List.map_nil, List.cons_append, List.nil_append, List.cons.injEq] at e
      have e1 := congrArg UInt8.toNat e.1
      have e2 := congrArg UInt8.toNat e.2.1
      have e3 := ih v (by simpa using h) (fun x hx => hu x (List.mem_cons_of_mem _ hx)) (fun x hx => hv x (List.mem_cons_of_mem _ hx)) e.2.2
      have t : ∀ n : Nat, n < 256 → (UInt8.ofNat n).toNat = n := by intro n hn; simp; omega
      rw [t _ (by omega), t _ (by omega)] at e1
      rw [t _ (by omega), t _ (by omega)] at e2
      rw [e3, show a = b by omega]
def text (u : List Int) : ByteArray := strOf (u.flatMap encB)
theorem text_inj {u v : List Int} (h : u.length = v.length) (hu : ∀ x ∈ u, 0 ≤ x ∧ x < 65536) (hv : ∀ x ∈ v, 0 ≤ x ∧ x < 65536) : text u = text v ↔ u = v := by
  refine ⟨fun e => enc_inj u v h hu hv ?_, fun e => e ▸ rfl⟩
  have e1 := congrArg (fun b : ByteArray => b.data.toList) e
  simp only [text, strOf, strOf_data] at e1
  simpa using e1

/-! Maps from keys to numbers in the order of their coming. -/
section
variable {α : Type} {K : Ty} (key : α → K.den)
def numb : Nat → List α → List (K.den × Int)
  | _, [] => []
  | i, a :: l => (key a, (i : Int)) :: numb (i + 1) l
theorem numb_len : ∀ (l : List α) (i : Nat), (numb key i l).length = l.length := by
  intro l
  induction l with
  | nil => intro i; rfl
  | cons a l ih => intro i; rw [numb, List.length_cons, List.length_cons, ih]
theorem numb_get (x : K.den) : ∀ (l : List α) (i : Nat), mget K (.int .i64) (numb key i l) x = if l.findIdx (fun a => K.beq x (key a)) < l.length then ((i + l.findIdx (fun a => K.beq x (key a)) : Nat) : Int) else (0 : Int) := by
  intro l
  induction l with
  | nil => intro i; rfl
  | cons a l ih =>
    intro i
    rw [List.findIdx_cons, List.length_cons]
    show (bif K.beq x (key a) then (i : Int) else mget K (.int .i64) (numb key (i + 1) l) x) = _
    cases h : K.beq x (key a) with
    | true => simp
    | false =>
      rw [cond_false, cond_false, ih]
      by_cases hl : l.findIdx (fun a => K.beq x (key a)) < l.length
      · rw [if_pos hl, if_pos (by omega)]; congr 1; omega
      · rw [if_neg hl, if_neg (by omega)]
theorem numb_has (x : K.den) : ∀ (l : List α) (i : Nat), mhas K (.int .i64) (numb key i l) x = decide (l.findIdx (fun a => K.beq x (key a)) < l.length) := by
  intro l
  induction l with
  | nil => intro i; rfl
  | cons a l ih =>
    intro i
    rw [List.findIdx_cons, List.length_cons]
    show (bif K.beq x (key a) then true else mhas K (.int .i64) (numb key (i + 1) l) x) = _
    cases h : K.beq x (key a) with
    | true => simp
    | false => rw [cond_false, cond_false, ih]; simp
theorem numb_put (b : α) : ∀ (l : List α) (i : Nat), ¬ l.findIdx (fun a => K.beq (key b) (key a)) < l.length → mput K (.int .i64) (numb key i l) (key b) ((i + l.length : Nat) : Int) = numb key i (l ++ [b]) := by
  intro l
  induction l with
  | nil => intro i _; rfl
  | cons a l ih =>
    intro i h
    rw [List.findIdx_cons, List.length_cons] at h
    show (bif K.beq (key b) (key a) then _ else _) = _
    cases hb : K.beq (key b) (key a) with
    | true => rw [hb] at h; simp at h
    | false =>
      rw [hb, cond_false] at h
      rw [cond_false]
      have := ih (i + 1) (by omega)
      rw [show i + 1 + l.length = i + (a :: l).length by simp; omega] at this
      exact congrArg (List.cons (key a, (i : Int))) this
end

/-! The program's row of bytes. -/
variable {A s : Int} {N : List (List Int)} {M : List Int}
theorem bytes10 (F : Fit A s N M) (cl : List Int) (hcl : cl.length = N.length) (count : Int) (q : Nat) (hq : q < N.length) (nu : List ((Int × (ByteArray × Unit)) × Int)) (nx : List Int) (r : List Int)
    (H : Ev (fun k => if mhas (.pair (.int .i64) (.pair .str .unit)) (.int .i64) nu (cl.getD q 0, text ((N.getD q []).map fun t => cl.getD t.toNat 0), ()) = true then
        det_Classes.j18 k count (q : Int) N (N.length : Int) (q : Int) A s N M cl nu nx (cl.getD q 0) (text ((N.getD q []).map fun t => cl.getD t.toNat 0))
      else det_Classes.j18 k count (q : Int) N (N.length : Int) (q : Int) A s N M cl (mput (.pair (.int .i64) (.pair .str .unit)) (.int .i64) nu (cl.getD q 0, text ((N.getD q []).map fun t => cl.getD t.toNat 0), ()) (nu.length : Int)) nx (cl.getD q 0) (text ((N.getD q []).map fun t => cl.getD t.toNat 0))) r) :
    ∀ n a, (N.getD q []).length - a = n → a ≤ (N.getD q []).length → Ev (fun k => det_Classes.l10 k count (q : Int) N (N.length : Int) (q : Int) (N.getD q []) ((N.getD q []).length : Int) (a : Int) A s N M cl nu nx ((((N.getD q []).take a).map fun t => cl.getD t.toNat 0).flatMap encB)) r := by
  have hrow := F.row q hq
  have a4 := F.a4
  have n3 := F.n3
  intro n
  induction n with
  | zero =>
    intro a hn ha
    rw [List.take_of_length_le (by omega)]
    refine Ev.step (fun k => ?_) H
    rw [det_Classes.l10, if_neg (by omega), if_pos (by omega), if_pos (by omega)]
    rfl
  | succ n ih =>
    intro a hn ha
    have he := F.ent q hq a (by omega)
    have c1 : (0 : Int) ≤ (N.getD q []).getD a (Int.ofNat 0) := he.1
    have c2 : (N.getD q []).getD a (Int.ofNat 0) < (cl.length : Int) := by rw [hcl]; exact he.2
    have hsz : ∀ l : List Int, (l.flatMap encB).length = 2 * l.length := by
      intro l
      induction l with
      | nil => rfl
      | cons x l ih => rw [List.flatMap_cons, List.length_append, ih, List.length_cons]; simp only [encB, List.length_cons, List.length_nil]; omega
    have e : (((N.getD q []).take a).map fun t => cl.getD t.toNat 0).flatMap encB ++ encB (cl.getD ((N.getD q []).getD a (Int.ofNat 0)).toNat (Int.ofNat 0)) = (((N.getD q []).take (a + 1)).map fun t => cl.getD t.toNat 0).flatMap encB := by
      rw [List.take_succ_eq_append_getElem (by omega), List.map_append, List.flatMap_append]
      congr 1
      simp only [List.map_cons, List.map_nil, List.flatMap_cons, List.flatMap_nil, List.append_nil]
      rw [List.getD_eq_getElem?_getD (l := N.getD q []), List.getElem?_eq_getElem (by omega)]
      rfl
    refine Ev.step (fun k => ?_) (ih (a + 1) (by omega) (by omega))
    have hs := short ((((N.getD q []).take (a + 1)).map fun t => cl.getD t.toNat 0).flatMap encB).length (by rw [hsz]; simp; omega)
    rw [← e] at hs ⊢
    rw [det_Classes.l10, if_pos (by omega), if_pos (by omega), if_pos (by omega), rd_nat, if_pos c1, if_pos c2, if_pos c1, if_pos c2, if_pos (by decide), wrSucc a (by omega)]
    exact if_pos hs
end Go.Proofs.YtiiioobebeaafaaSx.DC
namespace Go.Proofs.YtiiioobebeaafaaSx.DC
variable {A s : Int} {N : List (List Int)} {M : List Int}
/-- The classes of what is next. -/
def nexts (N : List (List Int)) (cl : List Int) (q : Nat) : List Int := (N.getD q []).map fun t => cl.getD t.toNat 0
def sg (N : List (List Int)) (cl : List Int) (q f : Nat) : Bool := decide (cl.getD q 0 = cl.getD f 0) && decide (nexts N cl q = nexts N cl f)
def stepC (N : List (List Int)) (cl : List Int) (st : List Nat × List Int) (q : Nat) : List Nat × List Int :=
  (if st.1.findIdx (sg N cl q) < st.1.length then st.1 else st.1 ++ [q], st.2.set q (st.1.findIdx (sg N cl q) : Nat))
def roundC (N : List (List Int)) (cl : List Int) : Nat → Nat → List Nat × List Int → List Nat × List Int
  | _, 0, st => st
  | q, n + 1, st => roundC N cl (q + 1) n (stepC N cl st q)

abbrev KT' : Ty := .pair (.int .i64) (.pair .str .unit)
def key (N : List (List Int)) (cl : List Int) (f : Nat) : KT'.den := (cl.getD f 0, text (nexts N cl f), ())
structure ClOk (N : List (List Int)) (cl : List Int) : Prop where
  len : cl.length = N.length
  rng : ∀ q, q < N.length → 0 ≤ cl.getD q 0 ∧ cl.getD q 0 < 65536

theorem nexts_len (F : Fit A s N M) (cl : List Int) {q : Nat} (hq : q < N.length) : ((nexts N cl q).length : Int) = A := by rw [nexts, List.length_map]; exact F.row q hq
theorem nexts_rng (F : Fit A s N M) {cl : List Int} (C : ClOk N cl) {q : Nat} (hq : q < N.length) : ∀ x ∈ nexts N cl q, 0 ≤ x ∧ x < 65536 := by
  intro x hx
  obtain ⟨t, ht, rfl⟩ := List.mem_map.1 hx
  obtain ⟨j, hj, e⟩ := List.getElem_of_mem ht
  have := F.ent q hq j (by have := F.row q hq; omega)
  rw [List.getD_eq_getElem?_getD (l := N.getD q []), List.getElem?_eq_getElem hj, Option.getD_some, e] at this
  exact C.rng _ (by omega)
theorem key_beq (F : Fit A s N M) {cl : List Int} (C : ClOk N cl) {q f : Nat} (hq : q < N.length) (hf : f < N.length) : KT'.beq (key N cl q) (key N cl f) = sg N cl q f := by
  have e : KT'.beq (key N cl q) (key N cl f) = bif decide (cl.getD q 0 = cl.getD f 0) then (bif decide (text (nexts N cl q) = text (nexts N cl f)) then true else false) else false := rfl
  rw [e, sg]
  have hl : (nexts N cl q).length = (nexts N cl f).length := by have := nexts_len F cl hq; have := nexts_len F cl hf; omega
  have t := text_inj hl (nexts_rng F C hq) (nexts_rng F C hf)
  by_cases h1 : cl.getD q 0 = cl.getD f 0
  · rw [decide_eq_true h1, cond_true, Bool.true_and]
    by_cases h2 : nexts N cl q = nexts N cl f
    · rw [decide_eq_true h2, decide_eq_true (t.2 h2)]; rfl
    · rw [decide_eq_false h2, decide_eq_false (fun e => h2 (t.1 e))]; rfl
  · rw [decide_eq_false h1]; rfl
theorem findIdx_congr {α : Type} {p p' : α → Bool} : ∀ l : List α, (∀ a ∈ l, p a = p' a) → l.findIdx p = l.findIdx p' := by
  intro l
  induction l with
  | nil => intro _; rfl
  | cons a l ih => intro h; rw [List.findIdx_cons, List.findIdx_cons, h a List.mem_cons_self, ih fun b hb => h b (List.mem_cons_of_mem _ hb)]
theorem sg_self (cl : List Int) (q : Nat) : sg N cl q q = true := by simp [sg]
theorem findIdx_app {α : Type} (p : α → Bool) (b : α) (hb : p b = true) : ∀ l : List α, (l ++ [b]).findIdx p = l.findIdx p := by
  intro l
  induction l with
  | nil => rw [List.nil_append, List.findIdx_cons, hb]; rfl
  | cons a l ih => rw [List.cons_append, List.findIdx_cons, List.findIdx_cons, ih]

theorem prog6 (F : Fit A s N M) (cl : List Int) (C : ClOk N cl) (count : Int) (r : List Int) : ∀ n q Fs nx, N.length - q = n → q ≤ N.length → nx.length = N.length → (∀ f ∈ Fs, f < N.length) →
    Ev (fun k => if (((roundC N cl q n (Fs, nx)).1.length : Nat) : Int) = count then some (roundC N cl q n (Fs, nx)).2 else det_Classes.l3 k (((roundC N cl q n (Fs, nx)).1.length : Nat) : Int) A s N M (roundC N cl q n (Fs, nx)).2) r →
    Ev (fun k => det_Classes.l6 k count N (N.length : Int) (q : Int) A s N M cl (numb (K := KT') (key N cl) 0 Fs) nx) r := by
  have n3 := F.n3
  intro n
  induction n with
  | zero =>
    intro q Fs nx hn hq hx hF H
    refine Ev.step (fun k => ?_) H
    rw [det_Classes.l6, if_neg (by omega), numb_len]
    rfl
  | succ n ih =>
    intro q Fs nx hn hq hx hF H
    have hq' : q < N.length := by omega
    have hidx : Fs.findIdx (fun a => KT'.beq (key N cl q) (key N cl a)) = Fs.findIdx (sg N cl q) := findIdx_congr Fs fun f hf => key_beq F C hq' (hF f hf)
    -- what follows, with the map as it is then
    have fol : ∀ Fs', (∀ f ∈ Fs', f < N.length) → Fs'.findIdx (sg N cl q) < Fs'.length → Fs'.findIdx (sg N cl q) = Fs.findIdx (sg N cl q) → Fs' = (stepC N cl (Fs, nx) q).1 →
        Ev (fun k => det_Classes.j18 k count (q : Int) N (N.length : Int) (q : Int) A s N M cl (numb (K := KT') (key N cl) 0 Fs') nx (cl.getD q 0) (text (nexts N cl q))) r := by
      intro Fs' hF' hlt heq hst
      have hg : mget KT' (.int .i64) (numb (K := KT') (key N cl) 0 Fs') (cl.getD q 0, text (nexts N cl q), ()) = ((Fs.findIdx (sg N cl q) : Nat) : Int) := by
        have := numb_get (K := KT') (key N cl) (key N cl q) Fs' 0
        rw [findIdx_congr Fs' fun f hf => key_beq F C hq' (hF' f hf), if_pos hlt, Nat.zero_add, heq] at this
        exact this
      have h1 := ih (q + 1) Fs' (nx.set q ((Fs.findIdx (sg N cl q) : Nat) : Int)) (by omega) (by omega) (by rw [List.length_set]; exact hx) hF' (by
        have e : (Fs', nx.set q ((Fs.findIdx (sg N cl q) : Nat) : Int)) = stepC N cl (Fs, nx) q := Prod.ext hst rfl
        rw [e]; exact H)
      refine Ev.step (fun k => ?_) h1
      rw [det_Classes.j18, if_pos (by omega), if_pos (by omega), hg, wrSucc q (by omega), Int.toNat_natCast]
    refine Ev.step (h := fun k => det_Classes.l10 k count (q : Int) N (N.length : Int) (q : Int) (N.getD q []) ((N.getD q []).length : Int) 0 A s N M cl (numb (K := KT') (key N cl) 0 Fs) nx []) (fun k => ?_) ?_
    · rw [det_Classes.l6, if_pos (by omega), if_pos (by omega), if_pos (by omega), rd_nat]
    · refine bytes10 F cl C.len count q hq' (numb (K := KT') (key N cl) 0 Fs) nx r ?_ _ 0 rfl (by omega)
      have hh : mhas KT' (.int .i64) (numb (K := KT') (key N cl) 0 Fs) (cl.getD q 0, text (nexts N cl q), ()) = decide (Fs.findIdx (sg N cl q) < Fs.length) := by
        have := numb_has (K := KT') (key N cl) (key N cl q) Fs 0
        rw [hidx] at this; exact this
      show Ev (fun k => if mhas KT' (.int .i64) (numb (K := KT') (key N cl) 0 Fs) (cl.getD q 0, text (nexts N cl q), ()) = true then
        det_Classes.j18 k count (q : Int) N (N.length : Int) (q : Int) A s N M cl (numb (K := KT') (key N cl) 0 Fs) nx (cl.getD q 0) (text (nexts N cl q))
        else det_Classes.j18 k count (q : Int) N (N.length : Int) (q : Int) A s N M cl (mput KT' (.int .i64) (numb (K := KT') (key N cl) 0 Fs) (cl.getD q 0, text (nexts N cl q), ()) ((numb (K := KT') (key N cl) 0 Fs).length : Int)) nx (cl.getD q 0) (text (nexts N cl q))) r
      rw [hh]
      by_cases hk : Fs.findIdx (sg N cl q) < Fs.length
      · simp only [decide_eq_true hk, if_true]
        exact fol Fs hF hk rfl (by rw [stepC, if_pos hk])
      · simp only [decide_eq_false hk, Bool.false_eq_true, if_false]
        have hp : mput KT' (.int .i64) (numb (K := KT') (key N cl) 0 Fs) (cl.getD q 0, text (nexts N cl q), ()) (((numb (K := KT') (key N cl) 0 Fs).length : Nat) : Int) = numb (K := KT') (key N cl) 0 (Fs ++ [q]) := by
          have := numb_put (K := KT') (key N cl) q Fs 0 (by rw [hidx]; exact hk)
          rw [Nat.zero_add] at this
          rw [numb_len]; exact this
        rw [hp]
        have hle := List.findIdx_le_length (xs := Fs) (p := sg N cl q)
        exact fol (Fs ++ [q]) (fun f hf => by
          rcases List.mem_append.1 hf with h | h
          · exact hF f h
          · rw [List.mem_singleton] at h; omega) (by rw [findIdx_app _ _ (sg_self cl q), List.length_append]; simp; omega) (findIdx_app _ _ (sg_self cl q) _) (by rw [stepC, if_neg hk])
end Go.Proofs.YtiiioobebeaafaaSx.DC
namespace Go.Proofs.YtiiioobebeaafaaSx.DC
variable {A s : Int} {N : List (List Int)} {M : List Int}
def ints (Fs : List Nat) : List Int := List.map (fun f : Nat => (f : Int)) Fs
theorem stepC_1 (cl : List Int) (Fs : List Nat) (nx : List Int) (q : Nat) : (stepC N cl (Fs, nx) q).1 = if Fs.findIdx (sg N cl q) < Fs.length then Fs else Fs ++ [q] := rfl
theorem stepC_2 (cl : List Int) (Fs : List Nat) (nx : List Int) (q : Nat) : (stepC N cl (Fs, nx) q).2 = nx.set q ((Fs.findIdx (sg N cl q) : Nat) : Int) := rfl
theorem ints_getD (Fs : List Nat) (j : Nat) (h : j < Fs.length) : (ints Fs).getD j (Int.ofNat 0) = ((Fs.getD j 0 : Nat) : Int) := by
  rw [List.getD_eq_getElem?_getD, List.getD_eq_getElem?_getD, ints, List.getElem?_map, List.getElem?_eq_getElem h]; rfl
theorem ints_len (Fs : List Nat) : (ints Fs).length = Fs.length := List.length_map ..
theorem nexts_getD (cl : List Int) (q a : Nat) (h : a < (N.getD q []).length) : (nexts N cl q).getD a 0 = cl.getD ((N.getD q []).getD a 0).toNat 0 := by
  rw [List.getD_eq_getElem?_getD (l := nexts N cl q), nexts, List.getElem?_map, List.getD_eq_getElem?_getD (l := N.getD q []), List.getElem?_eq_getElem h]; rfl

theorem ref14F (F : Fit A s N M) (cl : List Int) (count : Int) (q j : Nat) (hj : j < 1000000) (p : Nat) (Fs : List Nat) (nx : List Int) (r : List Int)
    (H : Ev (fun k => evermoreref3_Classes.l10 k count (Fs.length : Int) (q : Int) ((j + 1 : Nat) : Int) A s N M cl nx (ints Fs)) r) (a : Nat) :
    Ev (fun k => evermoreref3_Classes.l14 k count (Fs.length : Int) (q : Int) (j : Int) (p : Int) false (a : Int) A s N M cl nx (ints Fs)) r := by
  refine Ev.step (fun k => ?_) H
  rw [evermoreref3_Classes.l14]
  by_cases h : (a : Int) < A
  · rw [if_pos h]; simp only [Bool.false_eq_true, if_false, wrSucc j (by omega)]
  · rw [if_neg h]; simp only [Bool.false_eq_true, if_false, wrSucc j (by omega)]

theorem ref14 (F : Fit A s N M) (cl : List Int) (hcl : cl.length = N.length) (count : Int) (q : Nat) (hq : q < N.length) (Fs : List Nat) (hFs : Fs.length ≤ 3000) (j : Nat) (hj : j < Fs.length) (p : Nat) (hp : p < N.length) (nx : List Int) (r : List Int) : ∀ n a, A.toNat - a = n → (a : Int) ≤ A →
    ((nexts N cl p).drop a = (nexts N cl q).drop a → Ev (fun k => evermoreref3_Classes.j22 k count (Fs.length : Int) (q : Int) (j : Int) A s N M cl nx (ints Fs)) r →
      Ev (fun k => evermoreref3_Classes.l14 k count (Fs.length : Int) (q : Int) (j : Int) (p : Int) true (a : Int) A s N M cl nx (ints Fs)) r) ∧
    (¬ (nexts N cl p).drop a = (nexts N cl q).drop a → Ev (fun k => evermoreref3_Classes.l10 k count (Fs.length : Int) (q : Int) ((j + 1 : Nat) : Int) A s N M cl nx (ints Fs)) r →
      Ev (fun k => evermoreref3_Classes.l14 k count (Fs.length : Int) (q : Int) (j : Int) (p : Int) true (a : Int) A s N M cl nx (ints Fs)) r) := by
  have hrp := F.row p hp
  have hrq := F.row q hq
  have hlp := nexts_len F cl hp
  have hlq := nexts_len F cl hq
  have a4 := F.a4
  intro n
  induction n with
  | zero =>
    intro a hn ha
    rw [List.drop_eq_nil_of_le (by omega), List.drop_eq_nil_of_le (by omega)]
    refine ⟨fun _ H => Ev.step (fun k => ?_) H, fun h => absurd rfl h⟩
    rw [evermoreref3_Classes.l14, if_neg (by omega), if_pos rfl, if_neg (by omega)]
  | succ n ih =>
    intro a hn ha
    obtain ⟨h1, h2⟩ := ih (a + 1) (by omega) (by omega)
    have hep := F.ent p hp a (by omega)
    have heq := F.ent q hq a (by omega)
    have c1 : (0 : Int) ≤ (N.getD p []).getD a (Int.ofNat 0) := hep.1
    have c2 : (N.getD p []).getD a (Int.ofNat 0) < (cl.length : Int) := by rw [hcl]; exact hep.2
    have c3 : (0 : Int) ≤ (N.getD q []).getD a (Int.ofNat 0) := heq.1
    have c4 : (N.getD q []).getD a (Int.ofNat 0) < (cl.length : Int) := by rw [hcl]; exact heq.2
    have st : ∀ k, evermoreref3_Classes.l14 (k + 1) count (Fs.length : Int) (q : Int) (j : Int) (p : Int) true (a : Int) A s N M cl nx (ints Fs) =
        evermoreref3_Classes.l14 k count (Fs.length : Int) (q : Int) (j : Int) (p : Int) (decide ((nexts N cl p).getD a 0 = (nexts N cl q).getD a 0)) ((a + 1 : Nat) : Int) A s N M cl nx (ints Fs) := by
      intro k
      rw [evermoreref3_Classes.l14, if_pos (by omega), if_pos rfl, if_pos (by omega), if_pos (by omega), if_pos (by omega), rd_nat, if_pos (by omega), rd_nat, if_pos c1, if_pos c2, if_pos (by omega), if_pos (by omega), if_pos (by omega), rd_nat, if_pos (by omega), rd_nat, if_pos c3, if_pos c4, wrSucc a (by omega), nexts_getD cl p a (by omega), nexts_getD cl q a (by omega)]
      rfl
    rw [drop_getD 0 (nexts N cl p) a (by omega), drop_getD 0 (nexts N cl q) a (by omega)]
    by_cases he : (nexts N cl p).getD a 0 = (nexts N cl q).getD a 0
    · rw [decide_eq_true he] at st
      refine ⟨fun h H => Ev.step st (h1 (List.cons.inj h).2 H), fun h H => Ev.step st (h2 (fun e => h (by rw [he, e])) H)⟩
    · rw [decide_eq_false he] at st
      exact ⟨fun h => absurd (List.cons.inj h).1 he, fun _ H => Ev.step st (ref14F F cl count q j (by omega) p Fs nx r H (a + 1))⟩

theorem ref10 (F : Fit A s N M) (cl : List Int) (hcl : cl.length = N.length) (count : Int) (q : Nat) (hq : q < N.length) (Fs : List Nat) (hFs : Fs.length ≤ 3000) (hF : ∀ f ∈ Fs, f < N.length) (nx : List Int) (r : List Int)
    (H : Ev (fun k => evermoreref3_Classes.j22 k count (((stepC N cl (Fs, nx) q).1.length : Nat) : Int) (q : Int) ((Fs.findIdx (sg N cl q) : Nat) : Int) A s N M cl nx (ints (stepC N cl (Fs, nx) q).1)) r) : ∀ n j, Fs.length - j = n → j ≤ Fs.length → Fs.findIdx (sg N cl q) = j + (Fs.drop j).findIdx (sg N cl q) →
    Ev (fun k => evermoreref3_Classes.l10 k count (Fs.length : Int) (q : Int) (j : Int) A s N M cl nx (ints Fs)) r := by
  intro n
  induction n with
  | zero =>
    intro j hn hj he
    rw [List.drop_eq_nil_of_le (by omega)] at he
    have hidx : Fs.findIdx (sg N cl q) = Fs.length := by rw [he]; simp; omega
    rw [stepC_1, if_neg (by rw [hidx]; omega), hidx] at H
    refine Ev.step (fun k => ?_) H
    have hj' : j = Fs.length := by omega
    subst hj'
    rw [evermoreref3_Classes.l10, if_neg (by omega), if_pos rfl, if_pos (short _ (by rw [List.length_append, ints_len]; simp; omega)), wrSucc _ (by omega)]
    rw [show ints Fs ++ [(q : Int)] = ints (Fs ++ [q]) by simp [ints], List.length_append]
    rfl
  | succ n ih =>
    intro j hn hj he
    have hp : Fs.getD j 0 < N.length := hF _ (by rw [List.getD_eq_getElem?_getD, List.getElem?_eq_getElem (by omega)]; exact List.getElem_mem (by omega))
    have hig := ints_getD Fs j (by omega)
    rw [drop_getD 0 Fs j (by omega), List.findIdx_cons] at he
    have st : ∀ k, evermoreref3_Classes.l10 (k + 1) count (Fs.length : Int) (q : Int) (j : Int) A s N M cl nx (ints Fs) =
        evermoreref3_Classes.l14 k count (Fs.length : Int) (q : Int) (j : Int) ((Fs.getD j 0 : Nat) : Int) (decide (cl.getD (Fs.getD j 0) 0 = cl.getD q 0)) 0 A s N M cl nx (ints Fs) := by
      intro k
      rw [evermoreref3_Classes.l10, if_pos (by omega), if_pos (by omega), if_pos (by rw [ints_len]; omega), Int.toNat_natCast, hig, if_pos (by omega), if_pos (by omega), if_pos (by omega), if_pos (by omega), Int.toNat_natCast, Int.toNat_natCast]
      rfl
    obtain ⟨h1, h2⟩ := ref14 F cl hcl count q hq Fs hFs j (by omega) (Fs.getD j 0) hp nx r _ 0 rfl (by have := F.a1; omega)
    rw [List.drop_zero, List.drop_zero] at h1 h2
    by_cases hc : cl.getD (Fs.getD j 0) 0 = cl.getD q 0
    · rw [decide_eq_true hc] at st
      by_cases hx : nexts N cl (Fs.getD j 0) = nexts N cl q
      · have hs : sg N cl q (Fs.getD j 0) = true := by rw [sg, decide_eq_true hc.symm, decide_eq_true hx.symm]; rfl
        rw [hs, cond_true, Nat.add_zero] at he
        rw [stepC_1, if_pos (by rw [he]; omega), he] at H
        exact Ev.step st (h1 hx H)
      · have hs : sg N cl q (Fs.getD j 0) = false := by rw [sg, decide_eq_false (show ¬ nexts N cl q = nexts N cl (Fs.getD j 0) from fun e => hx e.symm), Bool.and_false]
        rw [hs, cond_false] at he
        exact Ev.step st (h2 hx (ih (j + 1) (by omega) (by omega) (by omega)))
    · rw [decide_eq_false hc] at st
      have hs : sg N cl q (Fs.getD j 0) = false := by rw [sg, decide_eq_false (show ¬ cl.getD q 0 = cl.getD (Fs.getD j 0) 0 from fun e => hc e.symm), Bool.false_and]
      rw [hs, cond_false] at he
      exact Ev.step st (ref14F F cl count q j (by omega) _ Fs nx r (ih (j + 1) (by omega) (by omega) (by omega)) 0)

theorem ref7 (F : Fit A s N M) (cl : List Int) (hcl : cl.length = N.length) (count : Int) (r : List Int) : ∀ n q Fs nx, N.length - q = n → q ≤ N.length → nx.length = N.length → (∀ f ∈ Fs, f < N.length) → Fs.length ≤ q →
    Ev (fun k => if (((roundC N cl q n (Fs, nx)).1.length : Nat) : Int) = count then some (roundC N cl q n (Fs, nx)).2 else evermoreref3_Classes.l3 k (((roundC N cl q n (Fs, nx)).1.length : Nat) : Int) A s N M (roundC N cl q n (Fs, nx)).2) r →
    Ev (fun k => evermoreref3_Classes.l7 k count (Fs.length : Int) (q : Int) A s N M cl nx (ints Fs)) r := by
  have n3 := F.n3
  intro n
  induction n with
  | zero =>
    intro q Fs nx hn hq hx hF hl H
    refine Ev.step (fun k => ?_) H
    rw [evermoreref3_Classes.l7, if_neg (by omega)]
    rfl
  | succ n ih =>
    intro q Fs nx hn hq hx hF hl H
    have hq' : q < N.length := by omega
    have h1 := ih (q + 1) (stepC N cl (Fs, nx) q).1 (stepC N cl (Fs, nx) q).2 (by omega) (by omega) (by rw [stepC_2, List.length_set]; exact hx) (fun f hf => by
      rw [stepC_1] at hf
      by_cases hk : Fs.findIdx (sg N cl q) < Fs.length
      · rw [if_pos hk] at hf; exact hF f hf
      · rw [if_neg hk] at hf
        rcases List.mem_append.1 hf with h | h
        · exact hF f h
        · rw [List.mem_singleton] at h; omega) (by
      rw [stepC_1]
      by_cases hk : Fs.findIdx (sg N cl q) < Fs.length
      · rw [if_pos hk]; omega
      · rw [if_neg hk, List.length_append]; simp; omega) H
    refine Ev.step (h := fun k => evermoreref3_Classes.l10 k count (Fs.length : Int) (q : Int) 0 A s N M cl nx (ints Fs)) (fun k => ?_) (ref10 F cl hcl count q hq' Fs (by omega) hF nx r (Ev.step (fun k => ?_) h1) _ 0 rfl (by omega) (by rw [List.drop_zero, Nat.zero_add]))
    · rw [evermoreref3_Classes.l7, if_pos (by omega)]
    · rw [evermoreref3_Classes.j22, if_pos (by omega), if_pos (by omega), wrSucc q (by omega), Int.toNat_natCast]
      rfl
end Go.Proofs.YtiiioobebeaafaaSx.DC
namespace Go.Proofs.YtiiioobebeaafaaSx.DC
variable {A s : Int} {N : List (List Int)} {M : List Int}
theorem nodup_sub {α : Type} [DecidableEq α] : ∀ (L T : List α), L.Nodup → (∀ x ∈ L, x ∈ T) → L.length ≤ T.length := by
  intro L
  induction L with
  | nil => intro T _ _; simp
  | cons a L ih =>
    intro T hn h
    rw [List.nodup_cons] at hn
    have ha := h a List.mem_cons_self
    have := ih (T.erase a) hn.2 (fun x hx => (List.mem_erase_of_ne (show x ≠ a from fun e => hn.1 (e ▸ hx))).2 (h x (List.mem_cons_of_mem _ hx)))
    rw [List.length_erase_of_mem ha] at this
    have : 0 < T.length := List.length_pos_of_mem ha
    simp only [List.length_cons]; omega

/-- What a round has made when the states below q are done. -/
structure Done (N : List (List Int)) (cl : List Int) (q : Nat) (Fs : List Nat) (nx : List Int) : Prop where
  len : nx.length = N.length
  lt : ∀ i, i < Fs.length → Fs.getD i 0 < q ∧ nx.getD (Fs.getD i 0) 0 = (i : Int)
  num : ∀ p, p < q → ∃ i, i < Fs.length ∧ nx.getD p 0 = (i : Int) ∧ sg N cl p (Fs.getD i 0) = true
  cnt : Fs.length ≤ q

theorem getD_set_int (l : List Int) (x y : Nat) (v : Int) : (l.set x v).getD y 0 = if x = y ∧ y < l.length then v else l.getD y 0 := by
  rw [List.getD_eq_getElem?_getD, List.getD_eq_getElem?_getD, List.getElem?_set]
  by_cases h : x = y
  · subst h
    by_cases h2 : x < l.length
    · simp [h2]
    · simp [h2]
  · simp [h]
theorem getD_app_left (l : List Nat) (b i : Nat) (h : i < l.length) : (l ++ [b]).getD i 0 = l.getD i 0 := by
  rw [List.getD_eq_getElem?_getD, List.getElem?_append_left h, ← List.getD_eq_getElem?_getD]
theorem getD_app_last (l : List Nat) (b : Nat) : (l ++ [b]).getD l.length 0 = b := by
  rw [List.getD_eq_getElem?_getD, List.getElem?_append_right (Nat.le_refl _), Nat.sub_self]; rfl
theorem findIdx_hit (p : Nat → Bool) (l : List Nat) (h : l.findIdx p < l.length) : p (l.getD (l.findIdx p) 0) = true := by
  rw [List.getD_eq_getElem?_getD, List.getElem?_eq_getElem h]
  exact List.findIdx_getElem (w := h)

theorem Done.step {cl : List Int} {q : Nat} {Fs : List Nat} {nx : List Int} (D : Done N cl q Fs nx) (hq : q < N.length) : Done N cl (q + 1) (stepC N cl (Fs, nx) q).1 (stepC N cl (Fs, nx) q).2 := by
  have hl := D.len
  have hq2 : q < nx.length := by rw [hl]; exact hq
  rw [stepC_1, stepC_2]
  have hset : ∀ v y, y < q → (nx.set q v).getD y 0 = nx.getD y 0 := by
    intro v y hy; rw [getD_set_int, if_neg (by omega)]
  have hself : ∀ v, (nx.set q v).getD q 0 = v := by
    intro v; rw [getD_set_int, if_pos ⟨rfl, hq2⟩]
  by_cases hk : Fs.findIdx (sg N cl q) < Fs.length
  · rw [if_pos hk]
    refine ⟨by rw [List.length_set]; exact hl, fun i hi => ?_, fun p hp => ?_, by have := D.cnt; omega⟩
    · obtain ⟨a, b⟩ := D.lt i hi
      exact ⟨by omega, by rw [hset _ _ a]; exact b⟩
    · by_cases hpq : p = q
      · subst hpq; exact ⟨_, hk, hself _, findIdx_hit _ _ hk⟩
      · obtain ⟨i, a, b, c⟩ := D.num p (by omega)
        exact ⟨i, a, by rw [hset _ _ (by omega)]; exact b, c⟩
  · rw [if_neg hk]
    have hle : Fs.findIdx (sg N cl q) = Fs.length := by have := List.findIdx_le_length (xs := Fs) (p := sg N cl q); omega
    rw [hle]
    refine ⟨by rw [List.length_set]; exact hl, fun i hi => ?_, fun p hp => ?_, by rw [List.length_append]; have := D.cnt; simp; omega⟩
    · rw [List.length_append, List.length_singleton] at hi
      by_cases hi2 : i < Fs.length
      · obtain ⟨a, b⟩ := D.lt i hi2
        rw [getD_app_left _ _ _ hi2]
        exact ⟨by omega, by rw [hset _ _ a]; exact b⟩
      · have : i = Fs.length := by omega
        subst this
        rw [getD_app_last]; exact ⟨by omega, hself _⟩
    · by_cases hpq : p = q
      · subst hpq; exact ⟨Fs.length, by simp, hself _, by rw [getD_app_last]; exact sg_self cl p⟩
      · obtain ⟨i, a, b, c⟩ := D.num p (by omega)
        exact ⟨i, by rw [List.length_append]; omega, by rw [hset _ _ (by omega)]; exact b, by rw [getD_app_left _ _ _ a]; exact c⟩

theorem Done.round {cl : List Int} : ∀ n q Fs nx, N.length - q = n → q ≤ N.length → Done N cl q Fs nx → Done N cl N.length (roundC N cl q n (Fs, nx)).1 (roundC N cl q n (Fs, nx)).2 := by
  intro n
  induction n with
  | zero => intro q Fs nx hn hq D; have : q = N.length := by omega
            subst this; exact D
  | succ n ih =>
    intro q Fs nx hn hq D
    exact ih (q + 1) _ _ (by omega) (by omega) (D.step (by omega))
theorem Done.whole (N : List (List Int)) (cl : List Int) : Done N cl N.length (roundC N cl 0 N.length ([], List.replicate N.length 0)).1 (roundC N cl 0 N.length ([], List.replicate N.length 0)).2 :=
  Done.round _ 0 _ _ rfl (by omega) ⟨by simp, fun i hi => by simp at hi, fun p hp => by omega, by simp⟩
end Go.Proofs.YtiiioobebeaafaaSx.DC
namespace Go.Proofs.YtiiioobebeaafaaSx.DC
variable {A s : Int} {N : List (List Int)} {M : List Int}
/-! What words tell of states. -/
def aft (N : List (List Int)) : Nat → List Nat → Nat
  | q, [] => q
  | q, a :: w => aft N ((N.getD q []).getD a 0).toNat w
/-- No word tells a state of the one from a state of the other. -/
def Same (A : Int) (N : List (List Int)) (M : List Int) (p : Nat) (N' : List (List Int)) (M' : List Int) (p' : Nat) : Prop :=
  ∀ w : List Nat, (∀ a ∈ w, (a : Int) < A) → M.getD (aft N p w) 0 = M'.getD (aft N' p' w) 0
theorem Same.symm {N' : List (List Int)} {M' : List Int} {p p' : Nat} (h : Same A N M p N' M' p') : Same A N' M' p' N M p := fun w hw => (h w hw).symm
theorem Same.trans {N' N'' : List (List Int)} {M' M'' : List Int} {p p' p'' : Nat} (h : Same A N M p N' M' p') (h' : Same A N' M' p' N'' M'' p'') : Same A N M p N'' M'' p'' := fun w hw => (h w hw).trans (h' w hw)
theorem Same.mark {N' : List (List Int)} {M' : List Int} {p p' : Nat} (h : Same A N M p N' M' p') : M.getD p 0 = M'.getD p' 0 := h [] (fun a ha => by simp at ha)
theorem Same.next {N' : List (List Int)} {M' : List Int} {p p' : Nat} (h : Same A N M p N' M' p') (a : Nat) (ha : (a : Int) < A) : Same A N M ((N.getD p []).getD a 0).toNat N' M' ((N'.getD p' []).getD a 0).toNat := fun w hw => h (a :: w) (fun b hb => by
  rcases List.mem_cons.1 hb with h | h
  · rw [h]; exact ha
  · exact hw b h)
theorem Same.refl (p : Nat) : Same A N M p N M p := fun w hw => rfl
/-- A relation that the steps keep. -/
theorem Same.of {N' : List (List Int)} {M' : List Int} (R : Nat → Nat → Prop) (hm : ∀ p p', R p p' → M.getD p 0 = M'.getD p' 0) (hn : ∀ p p' (a : Nat), R p p' → (a : Int) < A → R ((N.getD p []).getD a 0).toNat ((N'.getD p' []).getD a 0).toNat) : ∀ (p p' : Nat), R p p' → Same A N M p N' M' p' := by
  intro p p' h w
  induction w generalizing p p' with
  | nil => intro _; exact hm _ _ h
  | cons a w ih => intro hw; exact ih _ _ (hn _ _ a h (hw a List.mem_cons_self)) (fun b hb => hw b (List.mem_cons_of_mem _ hb))
/-- States that no word tells apart have one class. -/
def Coarse (A : Int) (N : List (List Int)) (M cl : List Int) : Prop := ∀ p p', p < N.length → p' < N.length → Same A N M p N M p' → cl.getD p 0 = cl.getD p' 0

def Uni (N : List (List Int)) (cl : List Int) (Fs : List Nat) : Prop := ∀ i i', i < Fs.length → i' < Fs.length → sg N cl (Fs.getD i 0) (Fs.getD i' 0) = true → i = i'
theorem sg_iff {cl : List Int} {p q : Nat} : sg N cl p q = true ↔ cl.getD p 0 = cl.getD q 0 ∧ nexts N cl p = nexts N cl q := by
  rw [sg, Bool.and_eq_true, decide_eq_true_iff, decide_eq_true_iff]
theorem sg_symm {cl : List Int} {p q : Nat} (h : sg N cl p q = true) : sg N cl q p = true := by
  rw [sg_iff] at h ⊢; exact ⟨h.1.symm, h.2.symm⟩
theorem sg_trans {cl : List Int} {p q r : Nat} (h : sg N cl p q = true) (h' : sg N cl q r = true) : sg N cl p r = true := by
  rw [sg_iff] at h h' ⊢; exact ⟨h.1.trans h'.1, h.2.trans h'.2⟩
theorem Uni.step {cl : List Int} {Fs : List Nat} {nx : List Int} (U : Uni N cl Fs) (q : Nat) : Uni N cl (stepC N cl (Fs, nx) q).1 := by
  rw [stepC_1]
  by_cases hk : Fs.findIdx (sg N cl q) < Fs.length
  · rw [if_pos hk]; exact U
  · rw [if_neg hk]
    have hno : ∀ i, i < Fs.length → sg N cl q (Fs.getD i 0) = true → False := by
      intro i hi h
      apply hk
      rw [List.findIdx_lt_length]
      exact ⟨Fs.getD i 0, by rw [List.getD_eq_getElem?_getD, List.getElem?_eq_getElem hi]; exact List.getElem_mem hi, h⟩
    intro i i' hi hi' h
    rw [List.length_append, List.length_singleton] at hi hi'
    by_cases h1 : i < Fs.length
    · rw [getD_app_left _ _ _ h1] at h
      by_cases h2 : i' < Fs.length
      · rw [getD_app_left _ _ _ h2] at h; exact U i i' h1 h2 h
      · have : i' = Fs.length := by omega
        subst this
        rw [getD_app_last] at h; exact (hno i h1 (sg_symm h)).elim
    · have : i = Fs.length := by omega
      subst this
      rw [getD_app_last] at h
      by_cases h2 : i' < Fs.length
      · rw [getD_app_left _ _ _ h2] at h; exact (hno i' h2 h).elim
      · omega
theorem Uni.round {cl : List Int} : ∀ n q Fs nx, Uni N cl Fs → Uni N cl (roundC N cl q n (Fs, nx)).1 := by
  intro n
  induction n with
  | zero => intro q Fs nx U; exact U
  | succ n ih => intro q Fs nx U; exact ih (q + 1) _ _ (U.step q)
theorem Coarse.round (F : Fit A s N M) {cl : List Int} (H : Coarse A N M cl) : Coarse A N M (roundC N cl 0 N.length ([], List.replicate N.length 0)).2 := by
  have D := Done.whole N cl
  have U : Uni N cl (roundC N cl 0 N.length ([], List.replicate N.length 0)).1 := Uni.round _ 0 _ _ (fun i i' hi => by simp at hi)
  intro p p' hp hp' h
  obtain ⟨i, hi, e, g⟩ := D.num p hp
  obtain ⟨i', hi', e', g'⟩ := D.num p' hp'
  have hs : sg N cl p p' = true := by
    rw [sg_iff]
    refine ⟨H p p' hp hp' h, ?_⟩
    have l1 := F.row p hp
    have l2 := F.row p' hp'
    apply List.ext_getElem (by rw [nexts, nexts, List.length_map, List.length_map]; omega)
    intro j h1 h2
    rw [nexts, List.length_map] at h1 h2
    have e1 := nexts_getD (N := N) cl p j h1
    have e2 := nexts_getD (N := N) cl p' j h2
    rw [List.getD_eq_getElem?_getD (l := nexts N cl p), List.getElem?_eq_getElem (by rw [nexts, List.length_map]; exact h1), Option.getD_some] at e1
    rw [List.getD_eq_getElem?_getD (l := nexts N cl p'), List.getElem?_eq_getElem (by rw [nexts, List.length_map]; exact h2), Option.getD_some] at e2
    rw [e1, e2]
    have q1 := F.ent p hp j (by omega)
    have q2 := F.ent p' hp' j (by omega)
    exact H _ _ (by omega) (by omega) (h.next j (by omega))
  have : i = i' := U i i' hi hi' (sg_trans (sg_symm g) (sg_trans hs g'))
  rw [e, e', this]
end Go.Proofs.YtiiioobebeaafaaSx.DC
namespace Go.Proofs.YtiiioobebeaafaaSx.DC
variable {A s : Int} {N : List (List Int)} {M : List Int}
structure Att (N : List (List Int)) (c : Nat) (cl : List Int) : Prop where
  hit : ∀ i, i < c → ∃ q, q < N.length ∧ cl.getD q 0 = (i : Int)
  lt : c = 0 ∨ ∀ q, q < N.length → ∃ i, i < c ∧ cl.getD q 0 = (i : Int)
structure Stable (N : List (List Int)) (M : List Int) (cl : List Int) : Prop where
  len : cl.length = N.length
  num : ∀ q, q < N.length → 0 ≤ cl.getD q 0 ∧ cl.getD q 0 < (N.length : Int)
  mark : ∀ p p', p < N.length → p' < N.length → cl.getD p 0 = cl.getD p' 0 → M.getD p 0 = M.getD p' 0
  next : ∀ p p', p < N.length → p' < N.length → cl.getD p 0 = cl.getD p' 0 → nexts N cl p = nexts N cl p'

theorem sg_eq {cl : List Int} {p q : Nat} (h : sg N cl p q = true) : cl.getD p 0 = cl.getD q 0 ∧ nexts N cl p = nexts N cl q := by
  rw [sg, Bool.and_eq_true, decide_eq_true_iff, decide_eq_true_iff] at h; exact h
theorem mem_of {Fs : List Nat} {i : Nat} (h : i < Fs.length) : Fs.getD i 0 ∈ Fs := by
  rw [List.getD_eq_getElem?_getD, List.getElem?_eq_getElem h]; exact List.getElem_mem h
theorem nodup_range (c : Nat) : ((List.range c).map fun i : Nat => (i : Int)).Nodup := by
  rw [List.nodup_iff_pairwise_ne, List.pairwise_map]
  exact List.Pairwise.imp (fun {a b} h => by omega) List.pairwise_lt_range
theorem covers {c : Nat} {cl : List Int} {Fs : List Nat} {nx : List Int} (T : Att N c cl) (D : Done N cl N.length Fs nx) : ∀ x ∈ (List.range c).map (fun i : Nat => (i : Int)), ∃ i, i < Fs.length ∧ cl.getD (Fs.getD i 0) 0 = x := by
  intro x hx
  obtain ⟨i, hi, rfl⟩ := List.mem_map.1 hx
  rw [List.mem_range] at hi
  obtain ⟨q, hq, e⟩ := T.hit i hi
  obtain ⟨j, hj, _, h⟩ := D.num q hq
  exact ⟨j, hj, by rw [← (sg_eq h).1, e]⟩
theorem grows {c : Nat} {cl : List Int} {Fs : List Nat} {nx : List Int} (T : Att N c cl) (D : Done N cl N.length Fs nx) : c ≤ Fs.length := by
  have := nodup_sub _ (Fs.map fun f => cl.getD f 0) (nodup_range c) (fun x hx => by
    obtain ⟨i, hi, e⟩ := covers T D x hx
    exact List.mem_map.2 ⟨_, mem_of hi, e⟩)
  simpa using this
theorem same_nx {c : Nat} {cl : List Int} {Fs : List Nat} {nx : List Int} (T : Att N c cl) (D : Done N cl N.length Fs nx) (hc : Fs.length = c) {p p' : Nat} (hp : p < N.length) (hp' : p' < N.length) (e : cl.getD p 0 = cl.getD p' 0) : nx.getD p 0 = nx.getD p' 0 := by
  obtain ⟨i, hi, e1, s1⟩ := D.num p hp
  obtain ⟨i', hi', e2, s2⟩ := D.num p' hp'
  by_cases hii : i = i'
  · rw [e1, e2, hii]
  · exfalso
    have ee : cl.getD (Fs.getD i 0) 0 = cl.getD (Fs.getD i' 0) 0 := by rw [← (sg_eq s1).1, ← (sg_eq s2).1, e]
    have := nodup_sub _ ((Fs.map fun f => cl.getD f 0).eraseIdx i') (nodup_range c) (fun x hx => by
      obtain ⟨j, hj, ej⟩ := covers T D x hx
      rw [List.mem_eraseIdx_iff_getElem]
      have hg : ∀ j (h : j < Fs.length), (Fs.map fun f => cl.getD f 0)[j]'(by simpa using h) = cl.getD (Fs.getD j 0) 0 := by
        intro j h
        rw [List.getElem_map, List.getD_eq_getElem?_getD (l := Fs), List.getElem?_eq_getElem h]; rfl
      by_cases hji : j = i'
      · exact ⟨i, by simpa using hi, hii, by rw [hg i hi, ee, ← hji]; exact ej⟩
      · exact ⟨j, by simpa using hj, hji, by rw [hg j hj]; exact ej⟩)
    rw [List.length_eraseIdx_of_lt (by simpa using hi')] at this
    simp at this; omega

theorem rounds (F : Fit A s N M) : ∀ n c cl, N.length - c = n → c ≤ N.length → ClOk N cl → Coarse A N M cl → Att N c cl → (∀ p p', p < N.length → p' < N.length → cl.getD p 0 = cl.getD p' 0 → M.getD p 0 = M.getD p' 0) →
    ∃ C, Stable N M C ∧ Coarse A N M C ∧ Ev (fun k => det_Classes.l3 k (c : Int) A s N M cl) C ∧ Ev (fun k => evermoreref3_Classes.l3 k (c : Int) A s N M cl) C := by
  have n3 := F.n3; have n1 := F.n1
  intro n
  induction n using Nat.strongRecOn with
  | _ n ih =>
    intro c cl hn hc C HC T hM
    have HC2 := HC.round F
    have D := Done.whole N cl
    have P := fun r => prog6 F cl C (c : Int) r _ 0 [] (List.replicate N.length 0) rfl (by omega) (by simp) (by simp)
    have R := fun r => ref7 F cl C.len (c : Int) r _ 0 [] (List.replicate N.length 0) rfl (by omega) (by simp) (by simp) (by simp)
    rw [Nat.sub_zero] at P R
    generalize (roundC N cl 0 N.length ([], List.replicate N.length 0)).1 = Fs at D P R
    generalize (roundC N cl 0 N.length ([], List.replicate N.length 0)).2 = nx at D P R HC2
    have hg := grows T D
    have hcnt := D.cnt
    have hstep : ∀ C', (Ev (fun k => if ((Fs.length : Nat) : Int) = (c : Int) then some nx else det_Classes.l3 k ((Fs.length : Nat) : Int) A s N M nx) C') → (Ev (fun k => if ((Fs.length : Nat) : Int) = (c : Int) then some nx else evermoreref3_Classes.l3 k ((Fs.length : Nat) : Int) A s N M nx) C') →
        Ev (fun k => det_Classes.l3 k (c : Int) A s N M cl) C' ∧ Ev (fun k => evermoreref3_Classes.l3 k (c : Int) A s N M cl) C' := by
      intro C' h1 h2
      have hl := C.len
      refine ⟨Ev.step (fun k => ?_) (P C' h1), Ev.step (fun k => ?_) (R C' h2)⟩
      · rw [det_Classes.l3, if_pos (by omega), if_pos (by omega), if_pos (by omega), Int.toNat_natCast, hl]; rfl
      · rw [evermoreref3_Classes.l3, if_pos (by omega), if_pos (by omega), if_pos (by omega), Int.toNat_natCast, hl]; rfl
    have hnum : ∀ q, q < N.length → 0 ≤ nx.getD q 0 ∧ nx.getD q 0 < (Fs.length : Int) := by
      intro q hq
      obtain ⟨i, a, b, _⟩ := D.num q hq
      omega
    have hfine : ∀ p p', p < N.length → p' < N.length → nx.getD p 0 = nx.getD p' 0 → cl.getD p 0 = cl.getD p' 0 ∧ nexts N cl p = nexts N cl p' := by
      intro p p' hp hp' e
      obtain ⟨i, a, b, h⟩ := D.num p hp
      obtain ⟨i', a', b', h'⟩ := D.num p' hp'
      have : i = i' := by omega
      subst this
      exact ⟨(sg_eq h).1.trans (sg_eq h').1.symm, (sg_eq h).2.trans (sg_eq h').2.symm⟩
    by_cases hend : Fs.length = c
    · refine ⟨nx, ⟨D.len, fun q hq => by have := hnum q hq; omega, fun p p' hp hp' e => hM p p' hp hp' (hfine p p' hp hp' e).1, fun p p' hp hp' e => ?_⟩, HC2, hstep nx ?_ ?_⟩
      · have hx := (hfine p p' hp hp' e).2
        have l1 := F.row p hp
        have l2 := F.row p' hp'
        apply List.ext_getElem (by rw [nexts, nexts, List.length_map, List.length_map]; omega)
        intro j h1 h2
        rw [nexts, List.length_map] at h1 h2
        have e1 := nexts_getD (N := N) nx p j h1
        have e2 := nexts_getD (N := N) nx p' j h2
        rw [List.getD_eq_getElem?_getD (l := nexts N nx p), List.getElem?_eq_getElem (by rw [nexts, List.length_map]; exact h1), Option.getD_some] at e1
        rw [List.getD_eq_getElem?_getD (l := nexts N nx p'), List.getElem?_eq_getElem (by rw [nexts, List.length_map]; exact h2), Option.getD_some] at e2
        rw [e1, e2]
        have q1 := F.ent p hp j (by omega)
        have q2 := F.ent p' hp' j (by omega)
        refine same_nx T D hend (by omega) (by omega) ?_
        rw [← nexts_getD cl p j h1, ← nexts_getD cl p' j h2, hx]
      · simp only [if_pos (show ((Fs.length : Nat) : Int) = (c : Int) by omega)]; exact Ev.now _
      · simp only [if_pos (show ((Fs.length : Nat) : Int) = (c : Int) by omega)]; exact Ev.now _
    · obtain ⟨C', q1, qc, q2, q3⟩ := ih (N.length - Fs.length) (by omega) Fs.length nx rfl hcnt ⟨D.len, fun q hq => by have := hnum q hq; omega⟩ HC2
        ⟨fun i hi => ⟨_, (D.lt i hi).1, (D.lt i hi).2⟩, .inr fun q hq => by obtain ⟨i, a, b, _⟩ := D.num q hq; exact ⟨i, a, b⟩⟩ (fun p p' hp hp' e => hM p p' hp hp' (hfine p p' hp hp' e).1)
      refine ⟨C', q1, qc, hstep C' ?_ ?_⟩
      · simp only [if_neg (show ¬ ((Fs.length : Nat) : Int) = (c : Int) by omega)]; exact q2
      · simp only [if_neg (show ¬ ((Fs.length : Nat) : Int) = (c : Int) by omega)]; exact q3

/-- Both find the same classes. -/
theorem classes_ev (F : Fit A s N M) : ∃ C, Stable N M C ∧ Coarse A N M C ∧ Ev (fun k => det_Classes.f k (A, s, N, M, ())) C ∧ Ev (fun k => evermoreref3_Classes.f k (A, s, N, M, ())) C := by
  have n3 := F.n3; have hm := F.m
  obtain ⟨C, q1, qc, q2, q3⟩ := rounds F _ 0 M rfl (by omega) ⟨F.m, fun q hq => by rcases F.mark q hq with h | h <;> rw [h] <;> omega⟩ (fun p p' _ _ h => h.mark) ⟨fun i hi => by omega, .inl rfl⟩ (fun p p' _ _ e => e)
  refine ⟨C, q1, qc, Ev.bind (x := M) (.all fun k => ?_) q2, ?_⟩
  · rw [slices_Clone___int_int_.f, if_pos (show Short M.length from short _ (by omega))]
  · simp only [evermoreref3_Classes.f, List.nil_append, if_pos (short M.length (by omega))]
    exact q3
end Go.Proofs.YtiiioobebeaafaaSx.DC
namespace Go.Proofs.YtiiioobebeaafaaSx.DC
variable {A s : Int} {N : List (List Int)} {M : List Int} {C : List Int}
/-- Of each class that a state has, some state. -/
structure OfOk (N : List (List Int)) (C ofs : List Int) (q : Nat) : Prop where
  len : ofs.length = C.length
  ok : ∀ p, p < q → ∃ p' : Nat, p' < N.length ∧ ofs.getD (C.getD p 0).toNat 0 = (p' : Int) ∧ C.getD p' 0 = C.getD p 0

theorem ofs4 (F : Fit A s N M) (S : Stable N M C) (c5 : List (List Int)) (c6 : List Int) : ∀ n i ofs, N.length - i = n → i ≤ N.length → OfOk N C ofs i →
    ∃ ofs', OfOk N C ofs' N.length ∧ ∀ r, Ev (fun k => det_Smallest.l4 k (C.length : Int) (N.length : Int) A s N M 0 0 C c5 c6 ofs') r → Ev (fun k => det_Smallest.l4 k (C.length : Int) (i : Int) A s N M 0 0 C c5 c6 ofs) r := by
  have n3 := F.n3; have hl := S.len
  intro n
  induction n with
  | zero =>
    intro i ofs hn hi H
    have : i = N.length := by omega
    subst this
    exact ⟨ofs, H, fun r E => E⟩
  | succ n ih =>
    intro i ofs hn hi H
    have hc := S.num i (by omega)
    have ho := H.len
    have H' : OfOk N C (ofs.set (C.getD i 0).toNat (i : Int)) (i + 1) := by
      refine ⟨by rw [List.length_set]; exact ho, fun p hp => ?_⟩
      rw [getD_set_int]
      have hcp := S.num p (by omega)
      by_cases e : (C.getD i 0).toNat = (C.getD p 0).toNat
      · rw [if_pos ⟨e, by omega⟩]; exact ⟨i, by omega, rfl, by omega⟩
      · rw [if_neg (fun h => e h.1)]
        have : p ≠ i := fun h => e (by rw [h])
        exact H.ok p (by omega)
    obtain ⟨ofs', q1, q2⟩ := ih (i + 1) _ (by omega) (by omega) H'
    refine ⟨ofs', q1, fun r E => Ev.step (fun k => ?_) (q2 r E)⟩
    have c1 : (0 : Int) ≤ C.getD i (Int.ofNat 0) := hc.1
    have c2 : C.getD i (Int.ofNat 0) < (ofs.length : Int) := by rw [ho, hl]; exact hc.2
    rw [det_Smallest.l4, if_pos (by omega), if_pos (by omega), if_pos (by omega), Int.toNat_natCast, if_pos c1, if_pos c2, wrSucc i (by omega)]
    rfl

/-- Classes as they are come to, the states by which, and their numbers. -/
structure LK (N : List (List Int)) (C : List Int) (L : List Int) (rows : List Nat) (num : List Int) : Prop where
  same : rows.length = L.length
  row : ∀ i, i < L.length → rows.getD i 0 < N.length ∧ C.getD (rows.getD i 0) 0 = L.getD i 0
  nd : L.Nodup
  len : num.length = C.length
  num : ∀ c : Nat, c < C.length → (∃ i, i < L.length ∧ L.getD i 0 = (c : Int) ∧ num.getD c 0 = (i : Int)) ∨ ((c : Int) ∉ L ∧ num.getD c 0 = -1)
theorem nodup_ints (n : Nat) : ∀ l : List Int, l.Nodup → (∀ x ∈ l, 0 ≤ x ∧ x < (n : Int)) → l.length ≤ n := by
  intro l h1 h2
  have := nodup_sub l ((List.range n).map fun i : Nat => (i : Int)) h1 (fun x hx => List.mem_map.2 ⟨x.toNat, by rw [List.mem_range]; have := h2 x hx; omega, by have := h2 x hx; omega⟩)
  simpa using this
theorem mem_int {w : List Int} {x : Int} (h : x ∈ w) : ∃ j, j < w.length ∧ w.getD j 0 = x := by
  obtain ⟨j, hj, e⟩ := List.getElem_of_mem h
  exact ⟨j, hj, by rw [List.getD_eq_getElem?_getD, List.getElem?_eq_getElem hj]; exact e⟩
theorem LK.bound (S : Stable N M C) {L : List Int} {rows : List Nat} {num : List Int} (K : LK N C L rows num) : L.length ≤ N.length :=
  nodup_ints _ L K.nd fun x hx => by
    obtain ⟨j, hj, e⟩ := mem_int hx
    obtain ⟨a, b⟩ := K.row j hj
    rw [← e, ← b]; exact S.num _ a
theorem findIdx_int (L : List Int) (hn : L.Nodup) (i : Nat) (hi : i < L.length) : L.findIdx (fun a => decide (L.getD i 0 = a)) = i := by
  have hx : L.findIdx (fun a => decide (L.getD i 0 = a)) < L.length := by
    rw [List.findIdx_lt_length]
    exact ⟨L.getD i 0, by rw [List.getD_eq_getElem?_getD, List.getElem?_eq_getElem hi]; exact List.getElem_mem hi, by simp⟩
  have := List.findIdx_getElem (w := hx)
  rw [decide_eq_true_iff] at this
  have e : L.getD i 0 = L[i] := by rw [List.getD_eq_getElem?_getD, List.getElem?_eq_getElem hi]; rfl
  have t := e.symm.trans this
  have pw := List.pairwise_iff_getElem.1 hn
  obtain ⟨j, hj⟩ : ∃ j, L.findIdx (fun a => decide (L.getD i 0 = a)) = j := ⟨_, rfl⟩
  have hx' : j < L.length := by rw [← hj]; exact hx
  have t : L[i] = L[j] := by subst hj; exact t
  rw [hj]
  rcases Nat.lt_trichotomy j i with h | h | h
  · exact absurd t.symm (pw j i hx' hi h)
  · exact h
  · exact absurd t (pw i j hi hx' h)
theorem findIdx_none (L : List Int) (x : Int) (h : x ∉ L) : ¬ L.findIdx (fun a => decide (x = a)) < L.length := by
  rw [List.findIdx_lt_length]
  rintro ⟨a, ha, e⟩
  rw [decide_eq_true_iff] at e
  exact h (e ▸ ha)
theorem LK.push (S : Stable N M C) {L : List Int} {rows : List Nat} {num : List Int} (K : LK N C L rows num) (q : Nat) (hq : q < N.length) (hn : C.getD q 0 ∉ L) :
    LK N C (L ++ [C.getD q 0]) (rows ++ [q]) (num.set (C.getD q 0).toNat (L.length : Int)) := by
  have hc := S.num q hq
  have hl := S.len
  have happ : ∀ i, i < L.length → (L ++ [C.getD q 0]).getD i 0 = L.getD i 0 := by
    intro i hi; rw [List.getD_eq_getElem?_getD, List.getElem?_append_left hi, ← List.getD_eq_getElem?_getD]
  have hlast : (L ++ [C.getD q 0]).getD L.length 0 = C.getD q 0 := by
    rw [List.getD_eq_getElem?_getD, List.getElem?_append_right (Nat.le_refl _), Nat.sub_self]; rfl
  refine ⟨by simp [K.same], fun i hi => ?_, ?_, by rw [List.length_set]; exact K.len, fun c hcc => ?_⟩
  · rw [List.length_append, List.length_singleton] at hi
    by_cases h : i < L.length
    · rw [happ i h, getD_app_left _ _ _ (by rw [K.same]; exact h)]; exact K.row i h
    · have : i = L.length := by omega
      subst this
      rw [hlast, ← K.same, getD_app_last]; exact ⟨hq, rfl⟩
  · rw [List.nodup_append]
    refine ⟨K.nd, by simp, fun a ha b hb => ?_⟩
    rw [List.mem_singleton] at hb
    intro e; exact hn (hb ▸ e ▸ ha)
  · rw [getD_set_int]
    by_cases e : (C.getD q 0).toNat = c
    · rw [if_pos ⟨e, by rw [K.len]; exact hcc⟩]
      exact .inl ⟨L.length, by simp, by rw [hlast]; omega, rfl⟩
    · rw [if_neg (fun h => e h.1)]
      rcases K.num c hcc with ⟨i, a, b, d⟩ | ⟨a, b⟩
      · exact .inl ⟨i, by rw [List.length_append]; omega, by rw [happ i a]; exact b, d⟩
      · refine .inr ⟨fun h => ?_, b⟩
        rcases List.mem_append.1 h with h | h
        · exact a h
        · rw [List.mem_singleton] at h; omega
end Go.Proofs.YtiiioobebeaafaaSx.DC
namespace Go.Proofs.YtiiioobebeaafaaSx.DC
variable {A s : Int} {N : List (List Int)} {M : List Int} {C : List Int}
theorem sm1 (F : Fit A s N M) (S : Stable N M C) {ofs : List Int} (O : OfOk N C ofs N.length) (p : Nat) (hp : p < N.length) (a : Nat) (ha : (a : Int) < A) (k : Nat) :
    det_Smallest_1.f k (C.getD p 0) (a : Int) A s N M C ofs = some ((nexts N C p).getD a 0, A, s, N, M, C, ofs) := by
  obtain ⟨p', h1, h2, h3⟩ := O.ok p hp
  have hc := S.num p hp
  have hl := S.len; have ho := O.len
  have hr := F.row p' h1
  have he := F.ent p' h1 a ha
  have hx : (nexts N C p).getD a 0 = C.getD ((N.getD p' []).getD a 0).toNat 0 := by rw [← S.next p' p h1 hp h3, nexts_getD C p' a (by omega)]
  have h2' : ofs.getD (C.getD p 0).toNat (Int.ofNat 0) = (p' : Int) := h2
  have c1 : (0 : Int) ≤ (N.getD p' []).getD a (Int.ofNat 0) := he.1
  have c2 : (N.getD p' []).getD a (Int.ofNat 0) < (C.length : Int) := by rw [hl]; exact he.2
  rw [hx, det_Smallest_1.f, if_pos hc.1, if_pos (by omega), h2', if_pos (by omega), if_pos (by omega), if_pos (by omega), rd_nat, if_pos (by omega), rd_nat, if_pos c1, if_pos c2]
  rfl
theorem sm2 (F : Fit A s N M) (S : Stable N M C) {ofs : List Int} (O : OfOk N C ofs N.length) (p : Nat) (hp : p < N.length) (k : Nat) :
    det_Smallest_2.f k (C.getD p 0) A s N M ofs = some (M.getD p 0, A, s, N, M, ofs) := by
  obtain ⟨p', h1, h2, h3⟩ := O.ok p hp
  have hc := S.num p hp
  have hl := S.len; have ho := O.len; have hm := F.m
  have h2' : ofs.getD (C.getD p 0).toNat (Int.ofNat 0) = (p' : Int) := h2
  rw [det_Smallest_2.f, if_pos hc.1, if_pos (by omega), h2', if_pos (by omega), if_pos (by omega), rd_nat, ← S.mark p' p h1 hp h3]
  rfl
abbrev nm (L : List Int) : List (Int × Int) := numb (K := .int .i64) (fun x : Int => x) 0 L

theorem tand (F : Fit A s N M) (S : Stable N M C) {ofs : List Int} (O : OfOk N C ofs N.length) (i p : Nat) (hp : p < N.length) (c10 c11 : List (List Int)) (c12 : List (List Int)) (c13 : List Int) (d10 : List Int) (d7 : List (List Int)) (d8 : List Int) (d9 : List (List Int)) (e10 : List Int) : ∀ n a L rows num nxt, A.toNat - a = n → (a : Int) ≤ A → LK N C L rows num → i < L.length → rows.getD i 0 = p → nxt.length = A.toNat → (∀ j, j < a → 0 ≤ nxt.getD j 0 ∧ nxt.getD j 0 < (L.length : Int)) →
    ∃ L' rows' num' nxt', LK N C L' rows' num' ∧ L.length ≤ L'.length ∧ rows'.getD i 0 = p ∧ nxt'.length = A.toNat ∧ (∀ j, j < A.toNat → 0 ≤ nxt'.getD j 0 ∧ nxt'.getD j 0 < (L'.length : Int)) ∧
      (∀ r, Ev (fun k => det_Explore_int__2.l8 k A ((C.length : Int) + 1) (C.getD p 0) A A A s N M C ofs 0 0 A 0 (nm L') L' nxt' c10 d10 c12 c13) r → Ev (fun k => det_Explore_int__2.l8 k A ((C.length : Int) + 1) (C.getD p 0) A (a : Int) A s N M C ofs 0 0 A 0 (nm L) L nxt c10 d10 c12 c13) r) ∧
      (∀ r, Ev (fun k => evermoreref3_Least.l15 k (i : Int) A A s N M 0 0 C num' (ints rows') A 0 nxt' d7 d8 d9 e10) r → Ev (fun k => evermoreref3_Least.l15 k (i : Int) (a : Int) A s N M 0 0 C num (ints rows) A 0 nxt d7 d8 d9 e10) r) := by
  have a1 := F.a1; have a4 := F.a4; have n3 := F.n3
  have hl := S.len
  have hrow := F.row p hp
  intro n
  induction n with
  | zero =>
    intro a L rows num nxt hn ha K hi hr hx hv
    have haa : a = A.toNat := by omega
    have : (a : Int) = A := by omega
    rw [this]
    exact ⟨L, rows, num, nxt, K, Nat.le_refl _, hr, hx, fun j hj => hv j (by omega), fun r E => E, fun r E => E⟩
  | succ n ih =>
    intro a L rows num nxt hn ha K hi hr hx hv
    have hvs : ∀ (m : Nat) (v : Int), L.length ≤ m → 0 ≤ v → v < (m : Int) → ∀ j, j < a + 1 → 0 ≤ (nxt.set a v).getD j 0 ∧ (nxt.set a v).getD j 0 < (m : Int) := by
      intro m v h1 h2 h3 j hj
      rw [getD_set_int]
      by_cases e : a = j ∧ j < nxt.length
      · rw [if_pos e]; omega
      · rw [if_neg e]; have := hv j (by omega); omega
    have haA : (a : Int) < A := by omega
    have he := F.ent p hp a haA
    have hb := K.bound S
    have hsame := K.same
    have hklen := K.len
    obtain ⟨q, hq, hqe⟩ : ∃ q : Nat, q < N.length ∧ (N.getD p []).getD a 0 = (q : Int) := ⟨((N.getD p []).getD a 0).toNat, by omega, by omega⟩
    have ht : (nexts N C p).getD a 0 = C.getD q 0 := by rw [nexts_getD C p a (by omega), hqe, Int.toNat_natCast]
    have hc := S.num q hq
    have hsm := sm1 F S O p hp a haA
    rw [ht] at hsm
    have hhas := numb_has (K := .int .i64) (fun x : Int => x) (C.getD q 0) L 0
    have hget := numb_get (K := .int .i64) (fun x : Int => x) (C.getD q 0) L 0
    have hrp : (ints rows).getD i (Int.ofNat 0) = (p : Int) := by rw [ints_getD rows i (by omega), hr]
    have hqe' : (N.getD p []).getD a (Int.ofNat 0) = (q : Int) := hqe
    -- the reference's step up to the test
    have refq : ∀ k, evermoreref3_Least.l15 (k + 1) (i : Int) (a : Int) A s N M 0 0 C num (ints rows) A 0 nxt d7 d8 d9 e10 =
        if num.getD (C.getD q 0).toNat 0 < 0 then
          (if (ints rows ++ [(q : Int)]).length.blt 1000000000 = true then evermoreref3_Least.j21 k (i : Int) (a : Int) (q : Int) A s N M 0 0 C (num.set (C.getD q 0).toNat ((ints rows).length : Int)) (ints rows ++ [(q : Int)]) A 0 nxt d7 d8 d9 e10 else none)
        else evermoreref3_Least.j21 k (i : Int) (a : Int) (q : Int) A s N M 0 0 C num (ints rows) A 0 nxt d7 d8 d9 e10 := by
      intro k
      have c1 : (0 : Int) ≤ C.getD q (Int.ofNat 0) := hc.1
      have c2 : C.getD q (Int.ofNat 0) < (num.length : Int) := by rw [hklen, hl]; exact hc.2
      rw [evermoreref3_Least.l15, if_pos haA, if_pos (by omega), if_pos (by rw [ints_len]; omega), Int.toNat_natCast, hrp, if_pos (by omega), if_pos (by omega), if_pos (by omega), rd_nat, if_pos (by omega), rd_nat, hqe', if_pos (by omega), if_pos (by omega), Int.toNat_natCast, if_pos c1, if_pos c2]
      rw [if_pos (show (0 : Int) ≤ (q : Int) by omega), if_pos (show (q : Int) < (C.length : Int) by omega), if_pos c1, if_pos c2]
      rfl
    have j21 : ∀ num2 rows2 (v : Int) k, num2.length = C.length → num2.getD (C.getD q 0).toNat 0 = v → evermoreref3_Least.j21 (k + 1) (i : Int) (a : Int) (q : Int) A s N M 0 0 C num2 (ints rows2) A 0 nxt d7 d8 d9 e10 =
        evermoreref3_Least.l15 k (i : Int) ((a + 1 : Nat) : Int) A s N M 0 0 C num2 (ints rows2) A 0 (nxt.set a v) d7 d8 d9 e10 := by
      intro num2 rows2 v k h2 hv
      subst hv
      have c1 : (0 : Int) ≤ C.getD q (Int.ofNat 0) := hc.1
      have c2 : C.getD q (Int.ofNat 0) < (num2.length : Int) := by rw [h2, hl]; exact hc.2
      rw [evermoreref3_Least.j21, if_pos (by omega), if_pos (by omega), Int.toNat_natCast, if_pos c1, if_pos c2, if_pos (by omega), if_pos (by omega), wrSucc a (by omega), Int.toNat_natCast]
      rfl
    have j18 : ∀ L2 (v : Int) k, det_Explore_int__2.j18 (k + 1) A ((C.length : Int) + 1) (C.getD p 0) (a : Int) v A (a : Int) A s N M C ofs 0 0 A 0 (nm L2) L2 nxt c10 d10 c12 c13 =
        det_Explore_int__2.l8 k A ((C.length : Int) + 1) (C.getD p 0) A ((a + 1 : Nat) : Int) A s N M C ofs 0 0 A 0 (nm L2) L2 (nxt.set a v) c10 d10 c12 c13 := by
      intro L2 v k
      rw [det_Explore_int__2.j18, if_pos (by omega), if_pos (by omega), wrSucc a (by omega), Int.toNat_natCast]
    rcases K.num (C.getD q 0).toNat (by omega) with ⟨i2, h1, h2, h3⟩ | ⟨h1, h2⟩
    · -- known
      have ei : L.getD i2 0 = C.getD q 0 := by omega
      have hidx : L.findIdx (fun x => (Ty.int .i64).beq (C.getD q 0) x) = i2 := by
        have := findIdx_int L K.nd i2 h1
        rw [ei] at this; exact this
      rw [hidx, decide_eq_true h1] at hhas
      rw [hidx, if_pos h1, Nat.zero_add] at hget
      obtain ⟨L', rows', num', nxt', q1, q2, q3, q4, qv, q5, q6⟩ := ih (a + 1) L rows num (nxt.set a (i2 : Int)) (by omega) (by omega) K hi hr (by rw [List.length_set]; exact hx) (hvs L.length (i2 : Int) (Nat.le_refl _) (by omega) (by omega))
      refine ⟨L', rows', num', nxt', q1, q2, q3, q4, qv, fun r E => Ev.step (fun k => ?_) (Ev.step (g := fun k => det_Explore_int__2.j18 k A ((C.length : Int) + 1) (C.getD p 0) (a : Int) (i2 : Int) A (a : Int) A s N M C ofs 0 0 A 0 (nm L) L nxt c10 d10 c12 c13) (fun k => j18 L (i2 : Int) k) (q5 r E)), fun r E => Ev.step (fun k => ?_) (Ev.step (g := fun k => evermoreref3_Least.j21 k (i : Int) (a : Int) (q : Int) A s N M 0 0 C num (ints rows) A 0 nxt d7 d8 d9 e10) (fun k => j21 num rows (i2 : Int) k hklen h3) (q6 r E))⟩
      · rw [det_Explore_int__2.l8, if_pos haA, hsm, Option.bind_some]
        have hh : mhas (.int .i64) (.int .i64) (nm L) (C.getD q 0) = true := hhas
        have hg : mget (.int .i64) (.int .i64) (nm L) (C.getD q 0) = (i2 : Int) := hget
        simp only [hh, if_true, hg]
      · rw [refq, if_neg (by rw [h3]; omega)]
    · -- new
      have hnot : C.getD q 0 ∉ L := by
        have : (((C.getD q 0).toNat : Nat) : Int) = C.getD q 0 := by omega
        rw [this] at h1; exact h1
      have hidx : ¬ L.findIdx (fun x => (Ty.int .i64).beq (C.getD q 0) x) < L.length := findIdx_none L (C.getD q 0) hnot
      have hh : mhas (.int .i64) (.int .i64) (nm L) (C.getD q 0) = false := by
        rw [decide_eq_false hidx] at hhas; exact hhas
      have hput : mput (.int .i64) (.int .i64) (nm L) (C.getD q 0) ((L.length : Nat) : Int) = nm (L ++ [C.getD q 0]) := by
        have := numb_put (K := .int .i64) (fun x : Int => x) (C.getD q 0) L 0 hidx
        rw [Nat.zero_add] at this; exact this
      have K2 := K.push S q hq hnot
      have hb2 := K2.bound S
      rw [List.length_append, List.length_singleton] at hb2
      obtain ⟨L', rows', num', nxt', q1, q2, q3, q4, qv, q5, q6⟩ := ih (a + 1) (L ++ [C.getD q 0]) (rows ++ [q]) (num.set (C.getD q 0).toNat (L.length : Int)) (nxt.set a (L.length : Int)) (by omega) (by omega) K2 (by rw [List.length_append]; omega) (by rw [getD_app_left _ _ _ (by omega)]; exact hr) (by rw [List.length_set]; exact hx) (by rw [List.length_append, List.length_singleton]; exact hvs (L.length + 1) (L.length : Int) (by omega) (by omega) (by omega))
      have hn2 : (num.set (C.getD q 0).toNat (L.length : Int)).getD (C.getD q 0).toNat 0 = (L.length : Int) := by rw [getD_set_int, if_pos ⟨rfl, by omega⟩]
      refine ⟨L', rows', num', nxt', q1, by rw [List.length_append] at q2; omega, q3, q4, qv, fun r E => Ev.step (fun k => ?_) (Ev.step (g := fun k => det_Explore_int__2.j18 k A ((C.length : Int) + 1) (C.getD p 0) (a : Int) (L.length : Int) A (a : Int) A s N M C ofs 0 0 A 0 (nm (L ++ [C.getD q 0])) (L ++ [C.getD q 0]) nxt c10 d10 c12 c13) (fun k => j18 (L ++ [C.getD q 0]) (L.length : Int) k) (q5 r E)), fun r E => Ev.step (fun k => ?_) (Ev.step (g := fun k => evermoreref3_Least.j21 k (i : Int) (a : Int) (q : Int) A s N M 0 0 C (num.set (C.getD q 0).toNat (L.length : Int)) (ints (rows ++ [q])) A 0 nxt d7 d8 d9 e10) (fun k => j21 _ (rows ++ [q]) (L.length : Int) k (by rw [List.length_set]; exact hklen) hn2) (q6 r E))⟩
      · rw [det_Explore_int__2.l8, if_pos haA, hsm, Option.bind_some]
        simp only [hh, Bool.false_eq_true, if_false, hput]
        rw [if_neg (by omega), if_pos (short _ (by rw [List.length_append, List.length_singleton]; omega))]
      · rw [refq, if_pos (by rw [h2]; omega), if_pos (short _ (by rw [List.length_append, ints_len, List.length_singleton]; omega)), ints_len, hsame]
        rw [show ints rows ++ [(q : Int)] = ints (rows ++ [q]) by simp [ints]]
end Go.Proofs.YtiiioobebeaafaaSx.DC
namespace Go.Proofs.YtiiioobebeaafaaSx.DC
variable {A s : Int} {N : List (List Int)} {M : List Int} {C : List Int}
/-- What a least automaton is made of. -/
structure Made (A : Int) (m : Nat) (X : List (List Int)) (Y : List Int) : Prop where
  row : ∀ x ∈ X, x.length = A.toNat ∧ ∀ j, j < A.toNat → 0 ≤ x.getD j 0 ∧ x.getD j 0 < (m : Int)
  mark : ∀ y ∈ Y, y = 0 ∨ y = 1
theorem Made.more {A : Int} {m m' : Nat} {X : List (List Int)} {Y : List Int} (H : Made A m X Y) (h : m ≤ m') : Made A m' X Y :=
  ⟨fun x hx => ⟨(H.row x hx).1, fun j hj => by have := (H.row x hx).2 j hj; omega⟩, H.mark⟩
theorem outer (F : Fit A s N M) (S : Stable N M C) {ofs : List Int} (O : OfOk N C ofs N.length) : ∀ n i L rows num X Y, N.length - i = n → LK N C L rows num → i ≤ L.length → X.length = i → Y.length = i → Made A L.length X Y →
    ∃ X' Y', Made A X'.length X' Y' ∧ Y'.length = X'.length ∧ X'.length ≤ N.length ∧ L.length ≤ X'.length ∧ Ev (fun k => det_Explore_int__2.l4 k A ((C.length : Int) + 1) A s N M C ofs 0 0 A 0 (nm L) L [] [] X Y) (A, 0, true, A, s, N, M, C, ofs, X', Y') ∧
      Ev (fun k => evermoreref3_Least.l11 k (i : Int) A s N M 0 0 C num (ints rows) A 0 [] [] X Y) (A, 0, X', Y') := by
  have a1 := F.a1; have a4 := F.a4; have n3 := F.n3
  have hl := S.len
  intro n
  have fin : ∀ i L rows num X Y, LK N C L rows num → i = L.length → X.length = i → Y.length = i → Made A L.length X Y →
    ∃ X' Y', Made A X'.length X' Y' ∧ Y'.length = X'.length ∧ X'.length ≤ N.length ∧ L.length ≤ X'.length ∧ Ev (fun k => det_Explore_int__2.l4 k A ((C.length : Int) + 1) A s N M C ofs 0 0 A 0 (nm L) L [] [] X Y) (A, 0, true, A, s, N, M, C, ofs, X', Y') ∧
      Ev (fun k => evermoreref3_Least.l11 k (i : Int) A s N M 0 0 C num (ints rows) A 0 [] [] X Y) (A, 0, X', Y') := by
    intro i L rows num X Y K hi hX hY hM
    have hs := K.same
    have hbb := K.bound S
    refine ⟨X, Y, by rw [hX, hi]; exact hM, by omega, by omega, by omega, Ev.step (h := fun _ => some (A, 0, true, A, s, N, M, C, ofs, X, Y)) (fun k => ?_) (Ev.now _), Ev.step (h := fun _ => some (A, 0, X, Y)) (fun k => ?_) (Ev.now _)⟩
    · rw [det_Explore_int__2.l4, if_neg (by omega)]
    · rw [evermoreref3_Least.l11, if_neg (by rw [ints_len]; omega)]
  induction n with
  | zero =>
    intro i L rows num X Y hn K hi hX hY hM
    have := K.bound S
    exact fin i L rows num X Y K (by omega) hX hY hM
  | succ n ih =>
    intro i L rows num X Y hn K hi hX hY hM
    by_cases hiL : i < L.length
    · obtain ⟨hp, hpe⟩ := K.row i hiL
      have hs := K.same
      have hb := K.bound S
      obtain ⟨L', rows', num', nxt', q1, q2, q3, q4, qv, q5, q6⟩ := tand F S O i (rows.getD i 0) hp [] [] X Y [] [] [] X Y _ 0 L rows num (List.replicate A.toNat 0) rfl (by omega) K hiL rfl (by simp) (fun j hj => by omega)
      have hM2 : Made A L'.length (X ++ [nxt']) (Y ++ [M.getD (rows.getD i 0) 0]) := by
        have := hM.more q2
        refine ⟨fun x hx => ?_, fun y hy => ?_⟩
        · rcases List.mem_append.1 hx with h | h
          · exact this.row x h
          · rw [List.mem_singleton] at h; rw [h]; exact ⟨q4, qv⟩
        · rcases List.mem_append.1 hy with h | h
          · exact this.mark y h
          · rw [List.mem_singleton] at h; rw [h]; exact F.mark _ hp
      obtain ⟨X', Y', m1, m2, m3, m4, e1, e2⟩ := ih (i + 1) L' rows' num' (X ++ [nxt']) (Y ++ [M.getD (rows.getD i 0) 0]) (by omega) q1 (by omega) (by simp [hX]) (by simp [hY]) hM2
      have hs' := q1.same
      have hb' := q1.bound S
      have hk : L.getD X.length (Int.ofNat 0) = C.getD (rows.getD i 0) 0 := by rw [hX]; exact hpe.symm
      have hm := F.m
      refine ⟨X', Y', m1, m2, m3, by omega, Ev.step (fun k => ?_) (q5 _ (Ev.step (fun k => ?_) e1)), Ev.step (fun k => ?_) (q6 _ (Ev.step (fun k => ?_) e2))⟩
      · rw [det_Explore_int__2.l4, if_pos (by omega), if_pos (by omega), if_pos (by omega), if_pos (by omega), if_pos (by omega), if_pos (by omega), Int.toNat_natCast, hk]
        rfl
      · rw [det_Explore_int__2.l8, if_neg (by omega), if_pos (short _ (by simp; omega)), sm2 F S O _ hp, Option.bind_some]
        exact if_pos (short _ (by simp; omega))
      · rw [evermoreref3_Least.l11, if_pos (by rw [ints_len]; omega), if_pos (by omega), if_pos (by omega), if_pos (by omega)]
        rfl
      · have hrp : (ints rows').getD i (Int.ofNat 0) = ((rows.getD i 0 : Nat) : Int) := by rw [ints_getD rows' i (by omega), q3]
        rw [evermoreref3_Least.l15, if_neg (by omega), if_pos (short _ (by simp; omega)), if_pos (by omega), if_pos (by rw [ints_len]; omega), Int.toNat_natCast, hrp, if_pos (by omega), if_pos (by omega), rd_nat]
        rw [wrSucc i (by omega)]
        exact if_pos (short _ (by simp; omega))
    · exact fin i L rows num X Y K (by omega) hX hY hM
end Go.Proofs.YtiiioobebeaafaaSx.DC
namespace Go.Proofs.YtiiioobebeaafaaSx.DC
variable {A s : Int} {N : List (List Int)} {M : List Int} {C : List Int}
theorem Ev_eq {α : Type} {g h : Nat → Option α} {r : α} (e : ∀ k, g k = h k) (H : Ev h r) : Ev g r := by
  obtain ⟨k0, H⟩ := H
  exact ⟨k0, fun k hk => by rw [e]; exact H k hk⟩
theorem minus (S : Stable N M C) (F : Fit A s N M) (r : Int × Int × List (List Int) × List Int)
    (H : Ev (fun k => evermoreref3_Least.l11 k 0 A s N M 0 0 C ((List.replicate C.length (-1 : Int)).set (C.getD s.toNat 0).toNat 0) [s] A 0 [] [] [] []) r) : ∀ n i, C.length - i = n → i ≤ C.length →
    Ev (fun k => evermoreref3_Least.l4 k (i : Int) A s N M 0 0 C (List.replicate i (-1 : Int) ++ List.replicate n 0) [] []) r := by
  have n3 := F.n3
  have hl := S.len
  have hs := F.s
  have hc := S.num s.toNat (by omega)
  intro n
  induction n with
  | zero =>
    intro i hn hi
    have : i = C.length := by omega
    subst this
    refine Ev.step (fun k => ?_) H
    have c1 : (0 : Int) ≤ C.getD s.toNat (Int.ofNat 0) := hc.1
    have c2 : C.getD s.toNat (Int.ofNat 0) < (((List.replicate C.length (-1 : Int) ++ List.replicate 0 0).length : Nat) : Int) := by simp only [List.length_append, List.length_replicate]; have := hc.2; have h' : C.getD s.toNat (Int.ofNat 0) < (N.length : Int) := hc.2; omega
    rw [evermoreref3_Least.l4, if_neg (by simp), if_pos hs.1, if_pos (by omega), if_pos c1, if_pos c2, List.replicate_zero, List.append_nil]
    rfl
  | succ n ih =>
    intro i hn hi
    refine Ev.step (fun k => ?_) (ih (i + 1) (by omega) (by omega))
    have e : (List.replicate i (-1 : Int) ++ List.replicate (n + 1) 0).set i (-1) = List.replicate (i + 1) (-1 : Int) ++ List.replicate n 0 := by
      rw [List.set_append_right _ _ (by simp), List.length_replicate, Nat.sub_self, List.replicate_succ (n := n), List.set_cons_zero, List.replicate_succ' (n := i), List.append_assoc]; rfl
    rw [evermoreref3_Least.l4, if_pos (by simp only [List.length_append, List.length_replicate]; omega), if_pos (by omega), if_pos (by simp only [List.length_append, List.length_replicate]; omega), wrSucc i (by omega), Int.toNat_natCast]
    rw [← e]

/-- Both make the same least automaton. -/
theorem least_ev (F : Fit A s N M) : ∃ X Y, Made A X.length X Y ∧ Y.length = X.length ∧ X.length ≤ N.length ∧ 1 ≤ X.length ∧ Ev (fun k => det_Smallest.f k (A, s, N, M, ())) (A, 0, X, Y) ∧ Ev (fun k => evermoreref3_Least.f k (A, s, N, M, ())) (A, 0, X, Y) := by
  obtain ⟨C, S, _, c1, c2⟩ := classes_ev F
  have n3 := F.n3
  have hl := S.len
  have hs := F.s
  have hc := S.num s.toNat (by omega)
  obtain ⟨ofs, O, o1⟩ := ofs4 F S [] [] _ 0 (List.replicate C.length 0) rfl (by omega) ⟨by simp, fun p hp => by omega⟩
  have K : LK N C [C.getD s.toNat 0] [s.toNat] ((List.replicate C.length (-1 : Int)).set (C.getD s.toNat 0).toNat 0) := by
    refine ⟨rfl, fun i hi => ?_, by simp, by simp, fun c hcc => ?_⟩
    · have : i = 0 := by simp at hi; omega
      subst this; exact ⟨by show s.toNat < _; omega, rfl⟩
    · rw [getD_set_int]
      by_cases e : (C.getD s.toNat 0).toNat = c
      · rw [if_pos ⟨e, by simpa using hcc⟩]; exact .inl ⟨0, by simp, by show C.getD s.toNat 0 = _; omega, rfl⟩
      · rw [if_neg (fun h => e h.1)]
        refine .inr ⟨fun h => ?_, ?_⟩
        · rw [List.mem_singleton] at h; omega
        · rw [List.getD_eq_getElem?_getD, List.getElem?_replicate, if_pos hcc]; rfl
  obtain ⟨X, Y, m1, m2, m3, m4, e1, e2⟩ := outer F S O _ 0 _ _ _ [] [] rfl K (by simp) rfl rfl ⟨fun x hx => by simp at hx, fun y hy => by simp at hy⟩
  refine ⟨X, Y, m1, m2, m3, m4, ?_, ?_⟩
  · simp only [det_Smallest.f]
    refine Ev.bind c1 ?_
    have E : Ev (fun k => det_Smallest.l4 k (C.length : Int) (N.length : Int) A s N M 0 0 C [] [] ofs) (A, 0, X, Y) := by
      refine Ev.step (h := fun k => (det_Explore_int__2.f k A (C.getD s.toNat 0) ((C.length : Int) + 1) A s N M C ofs).bind fun r5 => some (r5.fst, r5.snd.fst, r5.snd.snd.snd.snd.snd.snd.snd.snd.snd.fst, r5.snd.snd.snd.snd.snd.snd.snd.snd.snd.snd)) (fun k => ?_) (Ev.bind (x := (A, 0, true, A, s, N, M, C, ofs, X, Y)) e1 (Ev.now _))
      rw [det_Smallest.l4, if_neg (by omega), if_pos hs.1, if_pos (by omega), wr64 _ (by omega) (by omega)]
      rfl
    refine Ev_eq (fun k => ?_) (o1 _ E)
    rw [if_pos (by omega), if_pos (by omega), if_pos (by omega), Int.toNat_natCast]
    rfl
  · simp only [evermoreref3_Least.f]
    refine Ev.bind c2 ?_
    have e2' : Ev (fun k => evermoreref3_Least.l11 k 0 A s N M 0 0 C ((List.replicate C.length (-1 : Int)).set (C.getD s.toNat 0).toNat 0) [s] A 0 [] [] [] []) (A, 0, X, Y) := by
      have : ints [s.toNat] = [s] := by show [((s.toNat : Nat) : Int)] = [s]; rw [show ((s.toNat : Nat) : Int) = s by omega]
      rw [this] at e2; exact e2
    refine Ev_eq (fun k => ?_) (minus S F _ e2' _ 0 rfl (by omega))
    rw [if_pos (by omega), if_pos (by omega), if_pos (by omega), Int.toNat_natCast]
    rfl
end Go.Proofs.YtiiioobebeaafaaSx.DC
namespace Go.Proofs.YtiiioobebeaafaaSx.DC
variable {A s : Int} {N : List (List Int)} {M : List Int}
theorem getD_memW (w : List (List Int)) (j : Nat) (h : j < w.length) : w.getD j [] ∈ w := by
  rw [List.getD_eq_getElem?_getD, List.getElem?_eq_getElem h]; exact List.getElem_mem h
theorem getD_memI (w : List Int) (j : Nat) (h : j < w.length) : w.getD j 0 ∈ w := by
  rw [List.getD_eq_getElem?_getD, List.getElem?_eq_getElem h]; exact List.getElem_mem h
theorem fit_of (F : Fit A s N M) {X : List (List Int)} {Y : List Int} (H : Made A X.length X Y) (h1 : Y.length = X.length) (h2 : X.length ≤ N.length) (h3 : 1 ≤ X.length) : Fit A 0 X Y := by
  have a1 := F.a1; have a4 := F.a4; have n3 := F.n3
  refine ⟨a1, a4, h3, by omega, h1, fun q hq => ?_, by omega, fun q hq a ha => ?_, fun q hq => H.mark _ (getD_memI _ _ (by omega))⟩
  · have := (H.row _ (getD_memW X q hq)).1; omega
  · exact (H.row _ (getD_memW X q hq)).2 a (by omega)
end Go.Proofs.YtiiioobebeaafaaSx.DC
namespace Go.Proofs.YtiiioobebeaafaaSx.DC
variable {A s : Int} {N : List (List Int)} {M : List Int} {C : List Int}
theorem Stable.same (F : Fit A s N M) (S : Stable N M C) {p p' : Nat} (hp : p < N.length) (hp' : p' < N.length) (h : C.getD p 0 = C.getD p' 0) : Same A N M p N M p' := by
  refine Same.of (fun p p' => p < N.length ∧ p' < N.length ∧ C.getD p 0 = C.getD p' 0) (fun p p' h => S.mark p p' h.1 h.2.1 h.2.2) (fun p p' a h ha => ?_) p p' ⟨hp, hp', h⟩
  obtain ⟨h1, h2, h3⟩ := h
  have e1 := F.ent p h1 a ha
  have e2 := F.ent p' h2 a ha
  have r1 := F.row p h1
  have r2 := F.row p' h2
  have hn := S.next p p' h1 h2 h3
  refine ⟨by omega, by omega, ?_⟩
  rw [← nexts_getD (N := N) C p a (by omega), ← nexts_getD (N := N) C p' a (by omega), hn]
/-- The state that a letter leads to. -/
abbrev nx (N : List (List Int)) (p a : Nat) : Nat := ((N.getD p []).getD a 0).toNat

section
variable (d7 : List (List Int)) (d8 : List Int) (d9 : List (List Int)) (e10 : List Int)
/-- The reference's step. -/
theorem ls_known (F : Fit A s N M) (S : Stable N M C) {L : List Int} {rows : List Nat} {num : List Int} (K : LK N C L rows num) (i p a : Nat) (hp : p < N.length) (ha : (a : Int) < A) (hi : i < L.length) (hr : rows.getD i 0 = p) (nxt : List Int) (hx : nxt.length = A.toNat)
    (v : Int) (hv : num.getD (C.getD (nx N p a) 0).toNat 0 = v) (h0 : 0 ≤ v) (r : Int × Int × List (List Int) × List Int)
    (E : Ev (fun k => evermoreref3_Least.l15 k (i : Int) ((a + 1 : Nat) : Int) A s N M 0 0 C num (ints rows) A 0 (nxt.set a v) d7 d8 d9 e10) r) :
    Ev (fun k => evermoreref3_Least.l15 k (i : Int) (a : Int) A s N M 0 0 C num (ints rows) A 0 nxt d7 d8 d9 e10) r := by
  have a1 := F.a1; have a4 := F.a4; have n3 := F.n3
  have hl := S.len
  have hrow := F.row p hp
  have he := F.ent p hp a ha
  have hb := K.bound S
  have hsame := K.same
  have hklen := K.len
  obtain ⟨q, hq, hqe⟩ : ∃ q : Nat, q < N.length ∧ (N.getD p []).getD a 0 = (q : Int) := ⟨((N.getD p []).getD a 0).toNat, by omega, by omega⟩
  rw [nx, hqe, Int.toNat_natCast] at hv
  have hc := S.num q hq
  have hrp : (ints rows).getD i (Int.ofNat 0) = (p : Int) := by rw [ints_getD rows i (by omega), hr]
  have hqe' : (N.getD p []).getD a (Int.ofNat 0) = (q : Int) := hqe
  have c1 : (0 : Int) ≤ C.getD q (Int.ofNat 0) := hc.1
  have c2 : C.getD q (Int.ofNat 0) < (num.length : Int) := by rw [hklen, hl]; exact hc.2
  have hv' : num.getD (C.getD q (Int.ofNat 0)).toNat 0 = v := hv
  have hv'' : num.getD (C.getD q (Int.ofNat 0)).toNat (Int.ofNat 0) = v := hv
  refine Ev.step (h := fun k => evermoreref3_Least.j21 k (i : Int) (a : Int) (q : Int) A s N M 0 0 C num (ints rows) A 0 nxt d7 d8 d9 e10) (fun k => ?_) (Ev.step (fun k => ?_) E)
  · rw [evermoreref3_Least.l15, if_pos ha, if_pos (by omega), if_pos (by rw [ints_len]; omega), Int.toNat_natCast, hrp, if_pos (by omega), if_pos (by omega), if_pos (by omega), rd_nat, if_pos (by omega), rd_nat, hqe', if_pos (by omega), if_pos (by omega), Int.toNat_natCast, if_pos c1, if_pos c2, hv'', if_neg (by omega)]
  · rw [evermoreref3_Least.j21, if_pos (by omega), if_pos (by omega), Int.toNat_natCast, if_pos c1, if_pos c2, if_pos (by omega), if_pos (by omega), wrSucc a (by omega), Int.toNat_natCast, hv'']
theorem ls_new (F : Fit A s N M) (S : Stable N M C) {L : List Int} {rows : List Nat} {num : List Int} (K : LK N C L rows num) (i p a : Nat) (hp : p < N.length) (ha : (a : Int) < A) (hi : i < L.length) (hr : rows.getD i 0 = p) (nxt : List Int) (hx : nxt.length = A.toNat)
    (hv : num.getD (C.getD (nx N p a) 0).toNat 0 < 0) (r : Int × Int × List (List Int) × List Int)
    (E : Ev (fun k => evermoreref3_Least.l15 k (i : Int) ((a + 1 : Nat) : Int) A s N M 0 0 C (num.set (C.getD (nx N p a) 0).toNat (L.length : Int)) (ints (rows ++ [nx N p a])) A 0 (nxt.set a (L.length : Int)) d7 d8 d9 e10) r) :
    Ev (fun k => evermoreref3_Least.l15 k (i : Int) (a : Int) A s N M 0 0 C num (ints rows) A 0 nxt d7 d8 d9 e10) r := by
  have a1 := F.a1; have a4 := F.a4; have n3 := F.n3
  have hl := S.len
  have hrow := F.row p hp
  have he := F.ent p hp a ha
  have hb := K.bound S
  have hsame := K.same
  have hklen := K.len
  obtain ⟨q, hq, hqe⟩ : ∃ q : Nat, q < N.length ∧ (N.getD p []).getD a 0 = (q : Int) := ⟨((N.getD p []).getD a 0).toNat, by omega, by omega⟩
  rw [nx, hqe, Int.toNat_natCast] at hv E
  have hc := S.num q hq
  have hrp : (ints rows).getD i (Int.ofNat 0) = (p : Int) := by rw [ints_getD rows i (by omega), hr]
  have hqe' : (N.getD p []).getD a (Int.ofNat 0) = (q : Int) := hqe
  have c1 : (0 : Int) ≤ C.getD q (Int.ofNat 0) := hc.1
  have c2 : C.getD q (Int.ofNat 0) < (num.length : Int) := by rw [hklen, hl]; exact hc.2
  have hv'' : num.getD (C.getD q (Int.ofNat 0)).toNat (Int.ofNat 0) < 0 := hv
  have hn2 : (num.set (C.getD q 0).toNat (L.length : Int)).getD (C.getD q 0).toNat 0 = (L.length : Int) := by rw [getD_set_int, if_pos ⟨rfl, by omega⟩]
  have hn3 : (num.set (C.getD q 0).toNat (L.length : Int)).getD (C.getD q (Int.ofNat 0)).toNat (Int.ofNat 0) = (L.length : Int) := hn2
  have c3 : C.getD q (Int.ofNat 0) < ((num.set (C.getD q 0).toNat (L.length : Int)).length : Int) := by rw [List.length_set]; exact c2
  have hie : ints rows ++ [(q : Int)] = ints (rows ++ [q]) := by simp [ints]
  refine Ev.step (h := fun k => evermoreref3_Least.j21 k (i : Int) (a : Int) (q : Int) A s N M 0 0 C (num.set (C.getD q 0).toNat (L.length : Int)) (ints (rows ++ [q])) A 0 nxt d7 d8 d9 e10) (fun k => ?_) (Ev.step (fun k => ?_) E)
  · rw [evermoreref3_Least.l15, if_pos ha, if_pos (by omega), if_pos (by rw [ints_len]; omega), Int.toNat_natCast, hrp, if_pos (by omega), if_pos (by omega), if_pos (by omega), rd_nat, if_pos (by omega), rd_nat, hqe', if_pos (by omega), if_pos (by omega), Int.toNat_natCast, if_pos c1, if_pos c2, if_pos hv'']
    rw [if_pos (show (0 : Int) ≤ (q : Int) by omega), if_pos (show (q : Int) < (C.length : Int) by omega), if_pos c1, if_pos c2, if_pos (short _ (by rw [List.length_append, ints_len, List.length_singleton]; omega)), ints_len, hsame, hie]
    rfl
  · rw [evermoreref3_Least.j21, if_pos (by omega), if_pos (by omega), Int.toNat_natCast, if_pos c1, if_pos c3, if_pos (by omega), if_pos (by omega), wrSucc a (by omega), Int.toNat_natCast, hn3]
end
/-- Two automata side by side, of which one sees the same words. -/
structure Twin (A : Int) (N : List (List Int)) (M C : List Int) (L : List Int) (rows : List Nat) (num : List Int) (N' : List (List Int)) (M' C' : List Int) (L' : List Int) (rows' : List Nat) (num' : List Int) : Prop where
  k : LK N C L rows num
  k' : LK N' C' L' rows' num'
  len : L.length = L'.length
  same : ∀ j, j < L.length → Same A N M (rows.getD j 0) N' M' (rows'.getD j 0)
theorem getD_memN {l : List Int} {i : Nat} (h : i < l.length) : l.getD i 0 ∈ l := by
  rw [List.getD_eq_getElem?_getD, List.getElem?_eq_getElem h]; exact List.getElem_mem h
theorem LK.cases (S : Stable N M C) {L : List Int} {rows : List Nat} {num : List Int} (K : LK N C L rows num) (q : Nat) (hq : q < N.length) :
    (∃ i, i < L.length ∧ L.getD i 0 = C.getD q 0 ∧ num.getD (C.getD q 0).toNat 0 = (i : Int)) ∨ (C.getD q 0 ∉ L ∧ num.getD (C.getD q 0).toNat 0 = -1) := by
  have hc := S.num q hq
  have hl := S.len
  have e : (((C.getD q 0).toNat : Nat) : Int) = C.getD q 0 := by omega
  have := K.num (C.getD q 0).toNat (by omega)
  rw [e] at this; exact this
theorem tan2 {s' : Int} {N' : List (List Int)} {M' C' : List Int} (F : Fit A s N M) (S : Stable N M C) (H : Coarse A N M C) (F' : Fit A s' N' M') (S' : Stable N' M' C') (H' : Coarse A N' M' C') (i p p' : Nat) (hp : p < N.length) (hp' : p' < N'.length) (hs : Same A N M p N' M' p') (Rch : Nat → Prop) (hRp : ∀ a : Nat, (a : Int) < A → Rch (nx N p a)) (d7 : List (List Int)) (d8 : List Int) (d9 : List (List Int)) (e10 : List Int) :
    ∀ n a L rows num L' rows' num' nxt, A.toNat - a = n → (a : Int) ≤ A → Twin A N M C L rows num N' M' C' L' rows' num' → i < L.length → rows.getD i 0 = p → rows'.getD i 0 = p' → nxt.length = A.toNat → (∀ j, j < L.length → Rch (rows.getD j 0)) →
    (∀ j, j < a → ∃ t : Nat, t < L.length ∧ nxt.getD j 0 = (t : Int) ∧ Same A N M (rows.getD t 0) N M (nx N p j)) →
    ∃ L1 rows1 num1 L1' rows1' num1' nxt', Twin A N M C L1 rows1 num1 N' M' C' L1' rows1' num1' ∧ L.length ≤ L1.length ∧ (∀ j, j < L.length → rows1.getD j 0 = rows.getD j 0) ∧ rows1.getD i 0 = p ∧ rows1'.getD i 0 = p' ∧ nxt'.length = A.toNat ∧ (∀ j, j < L1.length → Rch (rows1.getD j 0)) ∧
      (∀ j, j < A.toNat → ∃ t : Nat, t < L1.length ∧ nxt'.getD j 0 = (t : Int) ∧ Same A N M (rows1.getD t 0) N M (nx N p j)) ∧
      (∀ r, Ev (fun k => evermoreref3_Least.l15 k (i : Int) A A s N M 0 0 C num1 (ints rows1) A 0 nxt' d7 d8 d9 e10) r → Ev (fun k => evermoreref3_Least.l15 k (i : Int) (a : Int) A s N M 0 0 C num (ints rows) A 0 nxt d7 d8 d9 e10) r) ∧
      (∀ r, Ev (fun k => evermoreref3_Least.l15 k (i : Int) A A s' N' M' 0 0 C' num1' (ints rows1') A 0 nxt' d7 d8 d9 e10) r → Ev (fun k => evermoreref3_Least.l15 k (i : Int) (a : Int) A s' N' M' 0 0 C' num' (ints rows') A 0 nxt d7 d8 d9 e10) r) := by
  have a1 := F.a1; have a4 := F.a4; have n3 := F.n3
  intro n
  induction n with
  | zero =>
    intro a L rows num L' rows' num' nxt hn ha T hi hr hr' hx hR hv
    have haa : a = A.toNat := by omega
    have : (a : Int) = A := by omega
    rw [this]
    exact ⟨L, rows, num, L', rows', num', nxt, T, Nat.le_refl _, fun j hj => rfl, hr, hr', hx, hR, fun j hj => hv j (by omega), fun r E => E, fun r E => E⟩
  | succ n ih =>
    intro a L rows num L' rows' num' nxt hn ha T hi hr hr' hx hR hv
    have haA : (a : Int) < A := by omega
    have he := F.ent p hp a haA
    have he' := F'.ent p' hp' a haA
    have hq : nx N p a < N.length := by rw [nx]; omega
    have hq' : nx N' p' a < N'.length := by rw [nx]; omega
    have hsn : Same A N M (nx N p a) N' M' (nx N' p' a) := hs.next a haA
    have hlen := T.len
    have hi' : i < L'.length := by omega
    have hset : ∀ (v : Int) j, j < a + 1 → (nxt.set a v).getD j 0 = if j = a then v else nxt.getD j 0 := by
      intro v j hj
      rw [getD_set_int]
      by_cases e : j = a
      · rw [if_pos ⟨e.symm, by omega⟩, if_pos e]
      · rw [if_neg (fun h => e h.1.symm), if_neg e]
    rcases T.k.cases S _ hq with ⟨j, h1, h2, h3⟩ | ⟨h1, h2⟩
    · -- known
      have hj := T.k.row j h1
      have hsj : Same A N M (rows.getD j 0) N M (nx N p a) := S.same F hj.1 hq (hj.2.trans h2)
      have hj' := T.k'.row j (by omega)
      have hc' : C'.getD (rows'.getD j 0) 0 = C'.getD (nx N' p' a) 0 := H' _ _ hj'.1 hq' (((T.same j h1).symm.trans hsj).trans hsn)
      have hnum' : num'.getD (C'.getD (nx N' p' a) 0).toNat 0 = (j : Int) := by
        rcases T.k'.cases S' _ hq' with ⟨j2, g1, g2, g3⟩ | ⟨g1, g2⟩
        · have : j2 = j := by
            have pw := List.pairwise_iff_getElem.1 T.k'.nd
            have e1 : L'.getD j2 0 = L'[j2] := by rw [List.getD_eq_getElem?_getD, List.getElem?_eq_getElem g1]; rfl
            have e2 : L'.getD j 0 = L'[j]'(by omega) := by rw [List.getD_eq_getElem?_getD, List.getElem?_eq_getElem (by omega)]; rfl
            have e3 : L'.getD j2 0 = L'.getD j 0 := by rw [g2, ← hc', hj'.2]
            rw [e1, e2] at e3
            rcases Nat.lt_trichotomy j2 j with h | h | h
            · exact absurd e3 (pw j2 j g1 (by omega) h)
            · exact h
            · exact absurd e3.symm (pw j j2 (by omega) g1 h)
          rw [g3, this]
        · exfalso; apply g1; rw [← hc', hj'.2]; exact getD_memN (by omega)
      obtain ⟨L1, rows1, num1, L1', rows1', num1', nxt', q1, q2, q3, q4, q5, q6, qR, q7, q8, q9⟩ := ih (a + 1) L rows num L' rows' num' (nxt.set a (j : Int)) (by omega) (by omega) T hi hr hr' (by rw [List.length_set]; exact hx) hR (fun b hb => by
        rw [hset _ _ hb]
        by_cases e : b = a
        · rw [if_pos e]; exact ⟨j, h1, rfl, by rw [e]; exact hsj⟩
        · rw [if_neg e]; exact hv b (by omega))
      exact ⟨L1, rows1, num1, L1', rows1', num1', nxt', q1, q2, q3, q4, q5, q6, qR, q7,
        fun r E => ls_known d7 d8 d9 e10 F S T.k i p a hp haA hi hr nxt hx (j : Int) h3 (by omega) r (q8 r E),
        fun r E => ls_known d7 d8 d9 e10 F' S' T.k' i p' a hp' haA hi' hr' nxt hx (j : Int) hnum' (by omega) r (q9 r E)⟩
    · -- new
      have hnum' : C'.getD (nx N' p' a) 0 ∉ L' ∧ num'.getD (C'.getD (nx N' p' a) 0).toNat 0 = -1 := by
        rcases T.k'.cases S' _ hq' with ⟨j, g1, g2, g3⟩ | h
        · exfalso
          have hj' := T.k'.row j g1
          have hj := T.k.row j (by omega)
          have hsj : Same A N' M' (rows'.getD j 0) N' M' (nx N' p' a) := S'.same F' hj'.1 hq' (hj'.2.trans g2)
          have := H _ _ hj.1 hq (((T.same j (by omega)).trans hsj).trans hsn.symm)
          apply h1; rw [← this, hj.2]; exact getD_memN (by omega)
        · exact h
      have K2 := T.k.push S _ hq h1
      have K2' := T.k'.push S' _ hq' hnum'.1
      have hrl := T.k.same
      have hrl' := T.k'.same
      have T2 : Twin A N M C (L ++ [C.getD (nx N p a) 0]) (rows ++ [nx N p a]) (num.set (C.getD (nx N p a) 0).toNat (L.length : Int)) N' M' C' (L' ++ [C'.getD (nx N' p' a) 0]) (rows' ++ [nx N' p' a]) (num'.set (C'.getD (nx N' p' a) 0).toNat (L'.length : Int)) := by
        refine ⟨K2, K2', by simp [hlen], fun j hj => ?_⟩
        rw [List.length_append, List.length_singleton] at hj
        by_cases h : j < L.length
        · rw [getD_app_left _ _ _ (by omega), getD_app_left _ _ _ (by omega)]; exact T.same j h
        · have e : j = rows.length := by omega
          have e' : j = rows'.length := by omega
          rw [show (rows ++ [nx N p a]).getD j 0 = nx N p a by rw [e, getD_app_last], show (rows' ++ [nx N' p' a]).getD j 0 = nx N' p' a by rw [e', getD_app_last]]
          exact hsn
      obtain ⟨L1, rows1, num1, L1', rows1', num1', nxt', q1, q2, q3, q4, q5, q6, qR, q7, q8, q9⟩ := ih (a + 1) _ _ _ _ _ _ (nxt.set a (L.length : Int)) (by omega) (by omega) T2 (by rw [List.length_append]; omega) (by rw [getD_app_left _ _ _ (by omega)]; exact hr) (by rw [getD_app_left _ _ _ (by omega)]; exact hr') (by rw [List.length_set]; exact hx) (fun j hj => by
        rw [List.length_append, List.length_singleton] at hj
        by_cases h : j < L.length
        · rw [getD_app_left _ _ _ (by omega)]; exact hR j h
        · have e : j = rows.length := by omega
          rw [show (rows ++ [nx N p a]).getD j 0 = nx N p a by rw [e, getD_app_last]]; exact hRp a haA) (fun b hb => by
        rw [hset _ _ hb, List.length_append, List.length_singleton]
        by_cases e : b = a
        · rw [if_pos e]; exact ⟨L.length, by omega, rfl, by rw [e, ← hrl, getD_app_last]; exact Same.refl _⟩
        · rw [if_neg e]
          obtain ⟨t, t1, t2, t3⟩ := hv b (by omega)
          exact ⟨t, by omega, t2, by rw [getD_app_left _ _ _ (by omega)]; exact t3⟩)
      rw [List.length_append, List.length_singleton] at q2 q3
      refine ⟨L1, rows1, num1, L1', rows1', num1', nxt', q1, by omega, fun j hj => by rw [q3 j (by omega), getD_app_left _ _ _ (by omega)], q4, q5, q6, qR, q7,
        fun r E => ls_new d7 d8 d9 e10 F S T.k i p a hp haA hi hr nxt hx (by omega) r (q8 r E),
        fun r E => ls_new d7 d8 d9 e10 F' S' T.k' i p' a hp' haA hi' hr' nxt hx (by omega) r ?_⟩
      rw [← hlen]
      have := q9 r E
      rw [← hlen] at this
      exact this
end Go.Proofs.YtiiioobebeaafaaSx.DC
namespace Go.Proofs.YtiiioobebeaafaaSx.DC
variable {A s : Int} {N : List (List Int)} {M : List Int} {C : List Int}
theorem ev_det {α : Type} {g : Nat → Option α} {r r' : α} (h : Ev g r) (h' : Ev g r') : r = r' := by
  obtain ⟨a, h⟩ := h
  obtain ⟨b, h'⟩ := h'
  have e1 := h (max a b) (by omega)
  have e2 := h' (max a b) (by omega)
  rw [e1] at e2; exact Option.some.inj e2
/-- What is known of the rows that are made: each row's state, and where its letters lead. -/
structure Led (A : Int) (N : List (List Int)) (M : List Int) (rows : List Nat) (m : Nat) (X : List (List Int)) (Y : List Int) : Prop where
  mark : ∀ j, j < X.length → Y.getD j 0 = M.getD (rows.getD j 0) 0
  row : ∀ j, j < X.length → ∀ a : Nat, (a : Int) < A → ∃ t : Nat, t < m ∧ (X.getD j []).getD a 0 = (t : Int) ∧ Same A N M (rows.getD t 0) N M (nx N (rows.getD j 0) a)
theorem getD_appW (l : List (List Int)) (b : List Int) (i : Nat) (h : i < l.length) : (l ++ [b]).getD i [] = l.getD i [] := by
  rw [List.getD_eq_getElem?_getD, List.getElem?_append_left h, ← List.getD_eq_getElem?_getD]
theorem getD_lastW (l : List (List Int)) (b : List Int) : (l ++ [b]).getD l.length [] = b := by
  rw [List.getD_eq_getElem?_getD, List.getElem?_append_right (Nat.le_refl _), Nat.sub_self]; rfl
theorem getD_appI (l : List Int) (b : Int) (i : Nat) (h : i < l.length) : (l ++ [b]).getD i 0 = l.getD i 0 := by
  rw [List.getD_eq_getElem?_getD, List.getElem?_append_left h, ← List.getD_eq_getElem?_getD]
theorem getD_lastI (l : List Int) (b : Int) : (l ++ [b]).getD l.length 0 = b := by
  rw [List.getD_eq_getElem?_getD, List.getElem?_append_right (Nat.le_refl _), Nat.sub_self]; rfl
theorem out2 {s' : Int} {N' : List (List Int)} {M' C' : List Int} (F : Fit A s N M) (S : Stable N M C) (H : Coarse A N M C) (F' : Fit A s' N' M') (S' : Stable N' M' C') (H' : Coarse A N' M' C') (Rch : Nat → Prop) (hRp : ∀ p a : Nat, p < N.length → (a : Int) < A → Rch p → Rch (nx N p a)) :
    ∀ n i L rows num L' rows' num' X Y, N.length - i = n → Twin A N M C L rows num N' M' C' L' rows' num' → i ≤ L.length → X.length = i → Y.length = i → Led A N M rows L.length X Y → (∀ j, j < L.length → Rch (rows.getD j 0)) →
    ∃ rf X1 Y1, ((∀ j, j < X1.length → Rch (rf.getD j 0)) ∧ ∀ j j', j < X1.length → j' < X1.length → C.getD (rf.getD j 0) 0 = C.getD (rf.getD j' 0) 0 → j = j') ∧ Led A N M rf X1.length X1 Y1 ∧ Y1.length = X1.length ∧ (∀ j, j < X1.length → rf.getD j 0 < N.length) ∧ L.length ≤ X1.length ∧ (∀ j, j < L.length → rf.getD j 0 = rows.getD j 0) ∧
      Ev (fun k => evermoreref3_Least.l11 k (i : Int) A s N M 0 0 C num (ints rows) A 0 [] [] X Y) (A, 0, X1, Y1) ∧
      Ev (fun k => evermoreref3_Least.l11 k (i : Int) A s' N' M' 0 0 C' num' (ints rows') A 0 [] [] X Y) (A, 0, X1, Y1) := by
  have a1 := F.a1; have a4 := F.a4; have n3 := F.n3; have n3' := F'.n3
  intro n
  have fin : ∀ i L rows num L' rows' num' X Y, Twin A N M C L rows num N' M' C' L' rows' num' → i = L.length → X.length = i → Y.length = i → Led A N M rows L.length X Y → (∀ j, j < L.length → Rch (rows.getD j 0)) →
    ∃ rf X1 Y1, ((∀ j, j < X1.length → Rch (rf.getD j 0)) ∧ ∀ j j', j < X1.length → j' < X1.length → C.getD (rf.getD j 0) 0 = C.getD (rf.getD j' 0) 0 → j = j') ∧ Led A N M rf X1.length X1 Y1 ∧ Y1.length = X1.length ∧ (∀ j, j < X1.length → rf.getD j 0 < N.length) ∧ L.length ≤ X1.length ∧ (∀ j, j < L.length → rf.getD j 0 = rows.getD j 0) ∧
      Ev (fun k => evermoreref3_Least.l11 k (i : Int) A s N M 0 0 C num (ints rows) A 0 [] [] X Y) (A, 0, X1, Y1) ∧
      Ev (fun k => evermoreref3_Least.l11 k (i : Int) A s' N' M' 0 0 C' num' (ints rows') A 0 [] [] X Y) (A, 0, X1, Y1) := by
    intro i L rows num L' rows' num' X Y T hi hX hY hL hR
    have h1 := T.k.same; have h2 := T.k'.same; have h3 := T.len
    refine ⟨rows, X, Y, ⟨fun j hj => hR j (by omega), fun j j' hj hj' e => ?_⟩, by rw [hX, hi]; exact hL, by omega, fun j hj => (T.k.row j (by omega)).1, by omega, fun j hj => rfl, Ev.step (h := fun _ => some (A, 0, X, Y)) (fun k => ?_) (Ev.now _), Ev.step (h := fun _ => some (A, 0, X, Y)) (fun k => ?_) (Ev.now _)⟩
    · rw [(T.k.row j (by omega)).2, (T.k.row j' (by omega)).2] at e
      have pw := List.pairwise_iff_getElem.1 T.k.nd
      have e1 : L.getD j 0 = L[j]'(by omega) := by rw [List.getD_eq_getElem?_getD, List.getElem?_eq_getElem (by omega)]; rfl
      have e2 : L.getD j' 0 = L[j']'(by omega) := by rw [List.getD_eq_getElem?_getD, List.getElem?_eq_getElem (by omega)]; rfl
      rw [e1, e2] at e
      rcases Nat.lt_trichotomy j j' with h | h | h
      · exact absurd e (pw j j' (by omega) (by omega) h)
      · exact h
      · exact absurd e.symm (pw j' j (by omega) (by omega) h)
    · rw [evermoreref3_Least.l11, if_neg (by rw [ints_len]; omega)]
    · rw [evermoreref3_Least.l11, if_neg (by rw [ints_len]; omega)]
  induction n with
  | zero =>
    intro i L rows num L' rows' num' X Y hn T hi hX hY hL hR
    have := T.k.bound S
    exact fin i L rows num L' rows' num' X Y T (by omega) hX hY hL hR
  | succ n ih =>
    intro i L rows num L' rows' num' X Y hn T hi hX hY hL hR
    by_cases hiL : i < L.length
    · have h3 := T.len
      obtain ⟨hp, hpe⟩ := T.k.row i hiL
      obtain ⟨hp', hpe'⟩ := T.k'.row i (by omega)
      have hs := T.k.same
      have hs' := T.k'.same
      have hb := T.k.bound S
      obtain ⟨L1, rows1, num1, L1', rows1', num1', nxt', q1, q2, q3, q4, q5, q6, qR, q7, q8, q9⟩ := tan2 F S H F' S' H' i (rows.getD i 0) (rows'.getD i 0) hp hp' (T.same i hiL) Rch (fun a ha => hRp _ a hp ha (hR i hiL)) [] [] X Y _ 0 L rows num L' rows' num' (List.replicate A.toNat 0) rfl (by omega) T hiL rfl rfl (by simp) hR (fun j hj => by omega)
      have hs1 := q1.k.same
      have hs1' := q1.k'.same
      have hb1 := q1.k.bound S
      have h31 := q1.len
      have hm := F.m
      have hm' := F'.m
      have hmm := (T.same i hiL).mark
      have hL2 : Led A N M rows1 L1.length (X ++ [nxt']) (Y ++ [M.getD (rows.getD i 0) 0]) := by
        refine ⟨fun j hj => ?_, fun j hj a ha => ?_⟩
        · rw [List.length_append, List.length_singleton] at hj
          by_cases h : j < X.length
          · rw [getD_appI _ _ _ (by omega), q3 j (by omega)]; exact hL.mark j h
          · have e : j = Y.length := by omega
            have e2 : j = i := by omega
            rw [show (Y ++ [M.getD (rows.getD i 0) 0]).getD j 0 = M.getD (rows.getD i 0) 0 by rw [e, getD_lastI], q3 j (by omega), e2]
        · rw [List.length_append, List.length_singleton] at hj
          by_cases h : j < X.length
          · rw [getD_appW _ _ _ h]
            obtain ⟨t, t1, t2, t3⟩ := hL.row j h a ha
            exact ⟨t, by omega, t2, by rw [q3 t t1, q3 j (by omega)]; exact t3⟩
          · have e : j = X.length := by omega
            have e2 : j = i := by omega
            rw [show (X ++ [nxt']).getD j [] = nxt' by rw [e, getD_lastW]]
            obtain ⟨t, t1, t2, t3⟩ := q7 a (by omega)
            exact ⟨t, t1, t2, by rw [e2, q4]; exact t3⟩
      obtain ⟨rf, X1, Y1, m0, m1, m2, m3, m4, m5, e1, e2⟩ := ih (i + 1) L1 rows1 num1 L1' rows1' num1' (X ++ [nxt']) (Y ++ [M.getD (rows.getD i 0) 0]) (by omega) q1 (by omega) (by simp [hX]) (by simp [hY]) hL2 qR
      have hb1' := q1.k'.bound S'
      refine ⟨rf, X1, Y1, m0, m1, m2, m3, by omega, fun j hj => by rw [m5 j (by omega), q3 j hj], Ev.step (fun k => ?_) (q8 _ (Ev.step (fun k => ?_) e1)), Ev.step (fun k => ?_) (q9 _ (Ev.step (fun k => ?_) e2))⟩
      · rw [evermoreref3_Least.l11, if_pos (by rw [ints_len]; omega), if_pos (by omega), if_pos (by omega), if_pos (by omega)]
        rfl
      · have hrp : (ints rows1).getD i (Int.ofNat 0) = ((rows.getD i 0 : Nat) : Int) := by rw [ints_getD rows1 i (by omega), q4]
        rw [evermoreref3_Least.l15, if_neg (by omega), if_pos (short _ (by simp; omega)), if_pos (by omega), if_pos (by rw [ints_len]; omega), Int.toNat_natCast, hrp, if_pos (by omega), if_pos (by omega), rd_nat]
        rw [wrSucc i (by omega)]
        exact if_pos (short _ (by simp; omega))
      · rw [evermoreref3_Least.l11, if_pos (by rw [ints_len]; omega), if_pos (by omega), if_pos (by omega), if_pos (by omega)]
        rfl
      · have hrp : (ints rows1').getD i (Int.ofNat 0) = ((rows'.getD i 0 : Nat) : Int) := by rw [ints_getD rows1' i (by omega), q5]
        rw [evermoreref3_Least.l15, if_neg (by omega), if_pos (short _ (by simp; omega)), if_pos (by omega), if_pos (by rw [ints_len]; omega), Int.toNat_natCast, hrp, if_pos (by omega), if_pos (by omega), rd_nat]
        rw [wrSucc i (by omega), hmm]
        exact if_pos (short _ (by simp; omega))
    · exact fin i L rows num L' rows' num' X Y T (by omega) hX hY hL hR
theorem LK.init (F : Fit A s N M) (S : Stable N M C) : LK N C [C.getD s.toNat 0] [s.toNat] ((List.replicate C.length (-1 : Int)).set (C.getD s.toNat 0).toNat 0) := by
  have hl := S.len
  have hs := F.s
  have hc := S.num s.toNat (by omega)
  refine ⟨rfl, fun i hi => ?_, by simp, by simp, fun c hcc => ?_⟩
  · have : i = 0 := by simp at hi; omega
    subst this; exact ⟨by show s.toNat < _; omega, rfl⟩
  · rw [getD_set_int]
    by_cases e : (C.getD s.toNat 0).toNat = c
    · rw [if_pos ⟨e, by simpa using hcc⟩]; exact .inl ⟨0, by simp, by show C.getD s.toNat 0 = _; omega, rfl⟩
    · rw [if_neg (fun h => e h.1)]
      refine .inr ⟨fun h => ?_, ?_⟩
      · rw [List.mem_singleton] at h; omega
      · rw [List.getD_eq_getElem?_getD, List.getElem?_replicate, if_pos hcc]; rfl
theorem least_start (F : Fit A s N M) (S : Stable N M C) (c2 : Ev (fun k => evermoreref3_Classes.f k (A, s, N, M, ())) C) {X : List (List Int)} {Y : List Int}
    (e2 : Ev (fun k => evermoreref3_Least.l11 k ((0 : Nat) : Int) A s N M 0 0 C ((List.replicate C.length (-1 : Int)).set (C.getD s.toNat 0).toNat 0) (ints [s.toNat]) A 0 [] [] [] []) (A, 0, X, Y)) : Ev (fun k => evermoreref3_Least.f k (A, s, N, M, ())) (A, 0, X, Y) := by
  have n3 := F.n3
  have hl := S.len
  have hs := F.s
  simp only [evermoreref3_Least.f]
  refine Ev.bind c2 ?_
  have e2' : Ev (fun k => evermoreref3_Least.l11 k 0 A s N M 0 0 C ((List.replicate C.length (-1 : Int)).set (C.getD s.toNat 0).toNat 0) [s] A 0 [] [] [] []) (A, 0, X, Y) := by
    have : ints [s.toNat] = [s] := by show [((s.toNat : Nat) : Int)] = [s]; rw [show ((s.toNat : Nat) : Int) = s by omega]
    rw [this] at e2; exact e2
  refine Ev_eq (fun k => ?_) (minus S F _ e2' _ 0 rfl (by omega))
  rw [if_pos (by omega), if_pos (by omega), if_pos (by omega), Int.toNat_natCast]
  rfl
/-- Least: words tell all states apart, and come to each. -/
structure Lst (A : Int) (X : List (List Int)) (Y : List Int) : Prop where
  min : ∀ j j', j < X.length → j' < X.length → Same A X Y j X Y j' → j = j'
  reach : ∀ j, j < X.length → ∃ w : List Nat, (∀ a ∈ w, (a : Int) < A) ∧ aft X 0 w = j
theorem aft_app (N : List (List Int)) : ∀ (w w' : List Nat) (q : Nat), aft N q (w ++ w') = aft N (aft N q w) w' := by
  intro w
  induction w with
  | nil => intro w' q; rfl
  | cons a w ih => intro w' q; exact ih w' _
/-- Two automata that no word tells apart have one least automaton, and it is as they are. -/
theorem least_same {s' : Int} {N' : List (List Int)} {M' : List Int} (F : Fit A s N M) (F' : Fit A s' N' M') (h : Same A N M s.toNat N' M' s'.toNat) :
    ∃ X Y, Ev (fun k => evermoreref3_Least.f k (A, s, N, M, ())) (A, 0, X, Y) ∧ Ev (fun k => evermoreref3_Least.f k (A, s', N', M', ())) (A, 0, X, Y) ∧ Same A X Y 0 N M s.toNat ∧ Lst A X Y := by
  obtain ⟨C, S, H, _, c2⟩ := classes_ev F
  obtain ⟨C', S', H', _, c2'⟩ := classes_ev F'
  obtain ⟨rf, X, Y, m0, m1, m2, m3, m4, m5, e1, e2⟩ := out2 F S H F' S' H' (fun p => ∃ w : List Nat, (∀ a ∈ w, (a : Int) < A) ∧ aft N s.toNat w = p) (fun p a hp ha h => by
    obtain ⟨w, hw, e⟩ := h
    refine ⟨w ++ [a], fun b hb => ?_, ?_⟩
    · rcases List.mem_append.1 hb with h | h
      · exact hw b h
      · rw [List.mem_singleton] at h; rw [h]; exact ha
    · rw [aft_app, e]; rfl) _ 0 _ _ _ _ _ _ [] [] rfl ⟨LK.init F S, LK.init F' S', rfl, fun j hj => by
    have : j = 0 := by simp at hj; omega
    subst this; exact h⟩ (by simp) rfl rfl ⟨fun j hj => by simp at hj, fun j hj => by simp at hj⟩ (fun j hj => by
    have : j = 0 := by simp at hj; omega
    subst this; exact ⟨[], fun a ha => by simp at ha, rfl⟩)
  have hs := F.s
  have sim : ∀ j q, j < X.length → Same A N M (rf.getD j 0) N M q → Same A X Y j N M q := by
    intro j q h1 h2
    refine Same.of (fun j q => j < X.length ∧ Same A N M (rf.getD j 0) N M q) (fun j q hjq => ?_) (fun j q a hjq ha => ?_) j q ⟨h1, h2⟩
    · rw [m1.mark j hjq.1]; exact hjq.2.mark
    · obtain ⟨t, t1, t2, t3⟩ := m1.row j hjq.1 a ha
      rw [t2, Int.toNat_natCast]
      exact ⟨t1, t3.trans (hjq.2.next a ha)⟩
  have h0 : 0 < X.length := by simp at m4; omega
  have hrf0 : rf.getD 0 0 = s.toNat := m5 0 (by simp)
  have walk : ∀ w : List Nat, (∀ a ∈ w, (a : Int) < A) → ∀ j q, j < X.length → Same A N M (rf.getD j 0) N M q → aft X j w < X.length ∧ Same A N M (rf.getD (aft X j w) 0) N M (aft N q w) := by
    intro w
    induction w with
    | nil => intro _ j q h1 h2; exact ⟨h1, h2⟩
    | cons a w ih =>
      intro hw j q h1 h2
      obtain ⟨t, t1, t2, t3⟩ := m1.row j h1 a (hw a List.mem_cons_self)
      have := ih (fun b hb => hw b (List.mem_cons_of_mem _ hb)) t (nx N q a) t1 (t3.trans (h2.next a (hw a List.mem_cons_self)))
      rw [aft, t2, Int.toNat_natCast]; exact this
  refine ⟨X, Y, least_start F S c2 e1, least_start F' S' c2' e2, sim 0 _ h0 (by rw [hrf0]; exact Same.refl _), ⟨fun j j' hj hj' h => ?_, fun j hj => ?_⟩⟩
  · refine m0.2 j j' hj hj' (H _ _ (m3 j hj) (m3 j' hj') ?_)
    exact ((sim j _ hj (Same.refl _)).symm.trans h).trans (sim j' _ hj' (Same.refl _))
  · obtain ⟨w, hw, e⟩ := m0.1 j hj
    obtain ⟨w1, w2⟩ := walk w hw 0 s.toNat h0 (by rw [hrf0]; exact Same.refl _)
    refine ⟨w, hw, m0.2 _ _ w1 hj (H _ _ (m3 _ w1) (m3 j hj) ?_)⟩
    rw [e] at w2; exact w2
/-- det.Smallest of one automaton is the reference's least of another one that no word tells from it. -/
theorem small_same {s' : Int} {N' : List (List Int)} {M' : List Int} (F : Fit A s N M) (F' : Fit A s' N' M') (h : Same A N M s.toNat N' M' s'.toNat) :
    ∃ X Y, Fit A 0 X Y ∧ Ev (fun k => det_Smallest.f k (A, s, N, M, ())) (A, 0, X, Y) ∧ Ev (fun k => evermoreref3_Least.f k (A, s', N', M', ())) (A, 0, X, Y) ∧ Same A X Y 0 N M s.toNat ∧ Lst A X Y := by
  obtain ⟨X, Y, m1, m2, m3, m4, e1, e2⟩ := least_ev F
  obtain ⟨X2, Y2, f1, f2, f3⟩ := least_same F F' h
  have := ev_det e2 f1
  have ex : X = X2 := congrArg (fun r : Int × Int × List (List Int) × List Int => r.2.2.1) this
  have ey : Y = Y2 := congrArg (fun r : Int × Int × List (List Int) × List Int => r.2.2.2) this
  subst ex; subst ey
  exact ⟨X, Y, fit_of F m1 m2 m3 m4, e1, f2, f3⟩
end Go.Proofs.YtiiioobebeaafaaSx.DC
namespace Go.Proofs.YtiiioobebeaafaaSx.DC
/-! States that are told by keys, numbered as they are come to. -/
section
variable {κ R : Type} (A : Nat) (nf : κ → Nat → κ) (mf : κ → Int) (V : κ → Prop) (B : Nat)
/-- What holds of the keys that were come to. -/
structure KOk (V : κ → Prop) (B : Nat) (L : List κ) : Prop where
  nd : L.Nodup
  v : ∀ k ∈ L, V k
  le : L.length ≤ B
/-- A search by keys: g8 is the loop over letters (keys, the key, what the letters so far lead to, rows, marks), g4 the loop over keys. -/
structure Sys (R : Type) where
  g8 : Nat → List κ → κ → List Int → List (List Int) → List Int → Nat → Option R
  g4 : List κ → List (List Int) → List Int → Nat → Option R
  fin : List (List Int) → List Int → Nat → Option R
  known : ∀ a L k row X Y r i, a < A → KOk V B L → k ∈ L → row.length = a → X.length < L.length → L[X.length]? = some k → (h : i < L.length) → L[i] = nf k a → Ev (g8 (a + 1) L k (row ++ [(i : Int)]) X Y) r → Ev (g8 a L k row X Y) r
  new : ∀ a L k row X Y r, a < A → KOk V B L → k ∈ L → row.length = a → X.length < L.length → L[X.length]? = some k → nf k a ∉ L → KOk V B (L ++ [nf k a]) → Ev (g8 (a + 1) (L ++ [nf k a]) k (row ++ [(L.length : Int)]) X Y) r → Ev (g8 a L k row X Y) r
  done : ∀ L k row X Y r, KOk V B L → k ∈ L → row.length = A → X.length < L.length → L[X.length]? = some k → Y.length = X.length → Ev (g4 L (X ++ [row]) (Y ++ [mf k])) r → Ev (g8 A L k row X Y) r
  start : ∀ L X Y r (h : X.length < L.length), KOk V B L → Y.length = X.length → Ev (g8 0 L L[X.length] [] X Y) r → Ev (g4 L X Y) r
  stop : ∀ L X Y r, KOk V B L → X.length = L.length → Y.length = X.length → Ev (fin X Y) r → Ev (g4 L X Y) r
variable {A nf mf V B}
/-- What a search has made: of each key a row, and where its letters lead. -/
structure Rows (A : Nat) (nf : κ → Nat → κ) (mf : κ → Int) (L : List κ) (X : List (List Int)) (Y : List Int) : Prop where
  len : Y.length = X.length
  le : X.length ≤ L.length
  row : ∀ i (h : i < X.length), (X.getD i []).length = A ∧ Y.getD i 0 = mf (L[i]'(by omega)) ∧ ∀ a, a < A → ∃ j, ∃ hj : j < L.length, (X.getD i []).getD a 0 = (j : Int) ∧ L[j] = nf (L[i]'(by omega)) a
variable {R' : Type} (hV : ∀ k a, V k → a < A → V (nf k a)) (hB : ∀ L : List κ, L.Nodup → (∀ k ∈ L, V k) → L.length ≤ B)
include hV hB
theorem KOk.push {L : List κ} (K : KOk V B L) {k : κ} (hk : k ∈ L) {a : Nat} (ha : a < A) (hn : nf k a ∉ L) : KOk V B (L ++ [nf k a]) := by
  have h1 : (L ++ [nf k a]).Nodup := by
    rw [List.nodup_append]
    refine ⟨K.nd, by simp, fun x hx b hb => ?_⟩
    rw [List.mem_singleton] at hb
    intro e; exact hn (hb ▸ e ▸ hx)
  have h2 : ∀ x ∈ L ++ [nf k a], V x := by
    intro x hx
    rcases List.mem_append.1 hx with h | h
    · exact K.v x h
    · rw [List.mem_singleton] at h; rw [h]; exact hV k a (K.v k hk) ha
  exact ⟨h1, h2, hB _ h1 h2⟩
theorem sys_inner (S : Sys A nf mf V B R) (S' : Sys A nf mf V B R') (k : κ) (X : List (List Int)) (Y : List Int) : ∀ n a L row, A - a = n → a ≤ A → KOk V B L → k ∈ L → row.length = a → X.length < L.length → L[X.length]? = some k →
    (∀ b, b < a → ∃ j, ∃ hj : j < L.length, row.getD b 0 = (j : Int) ∧ L[j] = nf k b) →
    ∃ L' row', KOk V B (L ++ L') ∧ row'.length = A ∧ (∀ b, b < A → ∃ j, ∃ hj : j < (L ++ L').length, row'.getD b 0 = (j : Int) ∧ (L ++ L')[j] = nf k b) ∧
      (∀ r, Ev (S.g8 A (L ++ L') k row' X Y) r → Ev (S.g8 a L k row X Y) r) ∧ (∀ r, Ev (S'.g8 A (L ++ L') k row' X Y) r → Ev (S'.g8 a L k row X Y) r) := by
  intro n
  induction n with
  | zero =>
    intro a L row hn ha K hk hr hx hkx hv
    have : a = A := by omega
    subst this
    refine ⟨[], row, by rw [List.append_nil]; exact K, hr, fun b hb => ?_, fun r E => ?_, fun r E => ?_⟩
    · obtain ⟨j, hj, e1, e2⟩ := hv b hb
      exact ⟨j, by rw [List.append_nil]; exact hj, e1, by simpa using e2⟩
    · rw [List.append_nil] at E; exact E
    · rw [List.append_nil] at E; exact E
  | succ n ih =>
    intro a L row hn ha K hk hr hx hkx hv
    have haA : a < A := by omega
    by_cases hm : nf k a ∈ L
    · obtain ⟨i, hi, e⟩ := List.getElem_of_mem hm
      obtain ⟨L', row', q1, q2, q3, q4, q5⟩ := ih (a + 1) L (row ++ [(i : Int)]) (by omega) (by omega) K hk (by simp [hr]) hx hkx (fun b hb => by
        by_cases h : b < a
        · obtain ⟨j, hj, e1, e2⟩ := hv b h
          exact ⟨j, hj, by rw [getD_appI _ _ _ (by omega)]; exact e1, e2⟩
        · have : b = a := by omega
          subst this
          exact ⟨i, hi, by rw [← hr, getD_lastI], e⟩)
      exact ⟨L', row', q1, q2, q3, fun r E => S.known a L k row X Y r i haA K hk hr hx hkx hi e (q4 r E), fun r E => S'.known a L k row X Y r i haA K hk hr hx hkx hi e (q5 r E)⟩
    · have K2 := K.push hV hB hk haA hm
      obtain ⟨L', row', q1, q2, q3, q4, q5⟩ := ih (a + 1) (L ++ [nf k a]) (row ++ [(L.length : Int)]) (by omega) (by omega) K2 (List.mem_append_left _ hk) (by simp [hr]) (by simp; omega) (by rw [List.getElem?_append_left hx]; exact hkx) (fun b hb => by
        by_cases h : b < a
        · obtain ⟨j, hj, e1, e2⟩ := hv b h
          exact ⟨j, by simp; omega, by rw [getD_appI _ _ _ (by omega)]; exact e1, by rw [List.getElem_append_left hj]; exact e2⟩
        · have : b = a := by omega
          subst this
          exact ⟨L.length, by simp, by rw [← hr, getD_lastI], by simp⟩)
      have e : L ++ (nf k a :: L') = L ++ [nf k a] ++ L' := by simp
      refine ⟨nf k a :: L', row', by rw [e]; exact q1, q2, fun b hb => ?_, fun r E => ?_, fun r E => ?_⟩
      · obtain ⟨j, hj, e1, e2⟩ := q3 b hb
        exact ⟨j, by rw [e]; exact hj, e1, by simpa only [e] using e2⟩
      · rw [e] at E; exact S.new a L k row X Y r haA K hk hr hx hkx hm K2 (q4 r E)
      · rw [e] at E; exact S'.new a L k row X Y r haA K hk hr hx hkx hm K2 (q5 r E)
theorem sys_outer (S : Sys A nf mf V B R) (S' : Sys A nf mf V B R') : ∀ n L X Y, B - X.length = n → KOk V B L → Rows A nf mf L X Y →
    ∃ L' X' Y', KOk V B (L ++ L') ∧ X'.length = (L ++ L').length ∧ Rows A nf mf (L ++ L') X' Y' ∧ (∀ r, Ev (S.fin X' Y') r → Ev (S.g4 L X Y) r) ∧ (∀ r, Ev (S'.fin X' Y') r → Ev (S'.g4 L X Y) r) := by
  intro n
  have stop : ∀ L X Y, KOk V B L → Rows A nf mf L X Y → X.length = L.length → ∃ L' X' Y', KOk V B (L ++ L') ∧ X'.length = (L ++ L').length ∧ Rows A nf mf (L ++ L') X' Y' ∧ (∀ r, Ev (S.fin X' Y') r → Ev (S.g4 L X Y) r) ∧ (∀ r, Ev (S'.fin X' Y') r → Ev (S'.g4 L X Y) r) := by
    intro L X Y K H h
    exact ⟨[], X, Y, by rw [List.append_nil]; exact K, by rw [List.append_nil]; exact h, by rw [List.append_nil]; exact H, fun r E => S.stop L X Y r K h H.len E, fun r E => S'.stop L X Y r K h H.len E⟩
  induction n with
  | zero => intro L X Y hn K H; have := K.le; have := H.le; exact stop L X Y K H (by omega)
  | succ n ih =>
    intro L X Y hn K H
    by_cases h : X.length < L.length
    · have hk : L[X.length] ∈ L := List.getElem_mem h
      obtain ⟨L1, row, q1, q2, q3, q4, q5⟩ := sys_inner hV hB S S' L[X.length] X Y _ 0 L [] rfl (by omega) K hk rfl h (List.getElem?_eq_getElem h) (fun b hb => by omega)
      have hll := H.len
      have H2 : Rows A nf mf (L ++ L1) (X ++ [row]) (Y ++ [mf L[X.length]]) := by
        refine ⟨by simp [hll], by simp; omega, fun i hi => ?_⟩
        rw [List.length_append, List.length_singleton] at hi
        have hL : (L ++ L1)[i]'(by rw [List.length_append]; omega) = L[i]'(by omega) := List.getElem_append_left (by omega)
        by_cases hi2 : i < X.length
        · obtain ⟨r1, r2, r3⟩ := H.row i hi2
          rw [getD_appW _ _ _ hi2, getD_appI _ _ _ (by omega), hL]
          refine ⟨r1, r2, fun a ha => ?_⟩
          obtain ⟨j, hj, e1, e2⟩ := r3 a ha
          exact ⟨j, by rw [List.length_append]; omega, e1, (List.getElem_append_left hj).trans (e2.trans (by rw [hL]))⟩
        · have e : i = X.length := by omega
          subst e
          have ey := getD_lastI Y (mf L[X.length])
          rw [hll] at ey
          rw [getD_lastW, ey, hL]
          refine ⟨q2, rfl, fun b hb => ?_⟩
          obtain ⟨j, hj, e1, e2⟩ := q3 b hb
          exact ⟨j, hj, e1, e2.trans (by rw [hL])⟩
      obtain ⟨L2, X', Y', p1, p2, p3, p4, p5⟩ := ih (L ++ L1) (X ++ [row]) (Y ++ [mf L[X.length]]) (by simp; omega) q1 H2
      have hm : L[X.length] ∈ L ++ L1 := List.mem_append_left _ hk
      have hkx : (L ++ L1)[X.length]? = some L[X.length] := by rw [List.getElem?_append_left h]; exact List.getElem?_eq_getElem h
      refine ⟨L1 ++ L2, X', Y', by rw [← List.append_assoc]; exact p1, by rw [← List.append_assoc]; exact p2, by rw [← List.append_assoc]; exact p3, ?_, ?_⟩
      · exact fun r E => S.start L X Y _ h K hll (q4 _ (S.done (L ++ L1) _ row X Y _ q1 hm q2 (by rw [List.length_append]; omega) hkx hll (p4 r E)))
      · exact fun r E => S'.start L X Y _ h K hll (q5 _ (S'.done (L ++ L1) _ row X Y _ q1 hm q2 (by rw [List.length_append]; omega) hkx hll (p5 r E)))
    · have := H.le; exact stop L X Y K H (by omega)
/-- Both searches make the same. -/
theorem sys_run (S : Sys A nf mf V B R) (S' : Sys A nf mf V B R') (first : κ) (hf : V first) :
    ∃ L X Y, KOk V B (first :: L) ∧ X.length = L.length + 1 ∧ Rows A nf mf (first :: L) X Y ∧ (∀ r, Ev (S.fin X Y) r → Ev (S.g4 [first] [] []) r) ∧ (∀ r, Ev (S'.fin X Y) r → Ev (S'.g4 [first] [] []) r) := by
  have h1 : ∀ k ∈ [first], V k := fun k hk => by rw [List.mem_singleton] at hk; rw [hk]; exact hf
  have K : KOk V B [first] := ⟨by simp, h1, hB _ (by simp) h1⟩
  obtain ⟨L, X, Y, p1, p2, p3, p4, p5⟩ := sys_outer hV hB S S' _ [first] [] [] rfl K ⟨rfl, by simp, fun i hi => by simp at hi⟩
  exact ⟨L, X, Y, p1, by simpa [Nat.add_comm] using p2, p3, p4, p5⟩
end
end Go.Proofs.YtiiioobebeaafaaSx.DC
namespace Go.Proofs.YtiiioobebeaafaaSx.DC
section
variable {K : Ty} (hb : ∀ x y : K.den, K.beq x y = true ↔ x = y)
/-- The map from keys to their numbers. -/
abbrev nmk (K : Ty) (L : List K.den) : List (K.den × Int) := numb (K := K) (fun x => x) 0 L
include hb
theorem nmk_idx (L : List K.den) (k : K.den) : L.findIdx (fun x => K.beq k x) < L.length ↔ k ∈ L := by
  rw [List.findIdx_lt_length]
  constructor
  · rintro ⟨x, hx, e⟩; rw [(hb k x).1 e]; exact hx
  · intro h; exact ⟨k, h, (hb k k).2 rfl⟩
theorem nmk_hit {L : List K.den} {k : K.den} (h : k ∈ L) : mhas K (.int .i64) (nmk K L) k = true := by
  rw [numb_has, decide_eq_true_iff]; exact (nmk_idx hb L k).2 h
theorem nmk_miss {L : List K.den} {k : K.den} (h : k ∉ L) : mhas K (.int .i64) (nmk K L) k = false := by
  rw [numb_has]; exact decide_eq_false fun h' => h ((nmk_idx hb L k).1 h')
theorem nmk_get {L : List K.den} (hn : L.Nodup) {k : K.den} {i : Nat} (hi : i < L.length) (e : L[i] = k) : mget K (.int .i64) (nmk K L) k = (i : Int) := by
  have hm : k ∈ L := e ▸ List.getElem_mem hi
  have hx := (nmk_idx hb L k).2 hm
  have := numb_get (K := K) (fun x => x) k L 0
  rw [if_pos hx, Nat.zero_add] at this
  have hk := (hb _ _).1 (List.findIdx_getElem (w := hx))
  have pw := List.pairwise_iff_getElem.1 hn
  refine this.trans ?_
  obtain ⟨j, hj⟩ : ∃ j, L.findIdx (fun x => K.beq k x) = j := ⟨_, rfl⟩
  have hj2 : j < L.length := hj ▸ hx
  have hk2 : k = L[j] := by subst hj; exact hk
  rw [hj]
  rcases Nat.lt_trichotomy j i with h | h | h
  · exact absurd (hk2.symm.trans e.symm) (pw j i hj2 hi h)
  · rw [h]
  · exact absurd (e.trans hk2) (pw i j hi hj2 h)
theorem nmk_put {L : List K.den} {k : K.den} (h : k ∉ L) : mput K (.int .i64) (nmk K L) k (L.length : Int) = nmk K (L ++ [k]) := by
  have := numb_put (K := K) (fun x => x) k L 0 (fun h' => h ((nmk_idx hb L k).1 h'))
  rw [Nat.zero_add] at this; exact this
end
/-! Rows that are filled letter by letter. -/
def padI (A : Nat) (row : List Int) : List Int := row ++ List.replicate (A - row.length) 0
theorem pad_len {A : Nat} {row : List Int} (h : row.length ≤ A) : (padI A row).length = A := by rw [padI, List.length_append, List.length_replicate]; omega
theorem pad_set {A : Nat} {row : List Int} (v : Int) (h : row.length < A) : (padI A row).set row.length v = padI A (row ++ [v]) := by
  rw [padI, padI, List.set_append_right _ _ (Nat.le_refl _), Nat.sub_self, List.length_append, List.length_singleton, show A - row.length = (A - (row.length + 1)) + 1 by omega, List.replicate_succ, List.set_cons_zero, List.append_assoc]; rfl
theorem pad_full {A : Nat} {row : List Int} (h : row.length = A) : padI A row = row := by rw [padI, h, Nat.sub_self, List.replicate_zero, List.append_nil]
theorem pad_nil (A : Nat) : padI A [] = List.replicate A 0 := rfl

/-! Couples. -/
abbrev K2 : Ty := .pair (.int .i64) (.pair (.int .i64) .unit)
abbrev Co := Int × Int × Unit
instance : DecidableEq K2.den := inferInstanceAs (DecidableEq (Int × Int × Unit))
theorem k2_beq (x y : K2.den) : K2.beq x y = true ↔ x = y := by
  obtain ⟨a, b, ⟨⟩⟩ := x
  obtain ⟨c, d, ⟨⟩⟩ := y
  have e : K2.beq (a, b, ()) (c, d, ()) = bif decide (a = c) then (bif decide (b = d) then true else false) else false := rfl
  rw [e]
  by_cases h1 : a = c
  · by_cases h2 : b = d
    · subst h1; subst h2; simp
    · simp [h1, h2]
  · simp [h1]
def allCo (n m : Nat) : List Co := (List.range n).flatMap fun p : Nat => (List.range m).map fun q : Nat => ((p : Int), (q : Int), ())
theorem sum_c (b : Nat) (l : List Nat) : (l.map fun _ => b).sum = l.length * b := by
  induction l with
  | nil => simp
  | cons a l ih => rw [List.map_cons, List.sum_cons, ih, List.length_cons, Nat.succ_mul]; omega
theorem allCo_len (n m : Nat) : (allCo n m).length = n * m := by
  rw [allCo, List.length_flatMap]; simp only [List.length_map, List.length_range]; rw [sum_c, List.length_range]
def VCo (n m : Nat) (k : Co) : Prop := (0 ≤ k.1 ∧ k.1 < (n : Int)) ∧ (0 ≤ k.2.1 ∧ k.2.1 < (m : Int))
theorem co_bound (n m : Nat) (L : List Co) (h1 : L.Nodup) (h2 : ∀ k ∈ L, VCo n m k) : L.length ≤ n * m := by
  rw [← allCo_len]
  refine nodup_sub L _ h1 fun k hk => ?_
  obtain ⟨h3, h4⟩ := h2 k hk
  obtain ⟨p, q, ⟨⟩⟩ := k
  rw [allCo, List.mem_flatMap]
  exact ⟨p.toNat, List.mem_range.2 (by simp at h3 h4; omega), List.mem_map.2 ⟨q.toNat, List.mem_range.2 (by simp at h3 h4; omega), by
    simp at h3 h4
    rw [show ((p.toNat : Nat) : Int) = p by omega, show ((q.toNat : Nat) : Int) = q by omega]⟩⟩
def nfCo (N P : List (List Int)) (k : Co) (a : Nat) : Co := ((N.getD k.1.toNat []).getD a 0, (P.getD k.2.1.toNat []).getD a 0, ())
variable {A s t : Int} {N P : List (List Int)} {M Q : List Int}
theorem vco_step (F : Fit A s N M) (G : Fit A t P Q) {k : Co} {a : Nat} (hk : VCo N.length P.length k) (ha : (a : Int) < A) : VCo N.length P.length (nfCo N P k a) := by
  obtain ⟨h1, h2⟩ := hk
  exact ⟨F.ent k.1.toNat (by omega) a ha, G.ent k.2.1.toNat (by omega) a ha⟩
end Go.Proofs.YtiiioobebeaafaaSx.DC
namespace Go.Proofs.YtiiioobebeaafaaSx.DC
variable {A : Int} {κ : Type} {nf : κ → Nat → κ} {mf : κ → Int} {V : κ → Prop} {B : Nat} {L : List κ} {X : List (List Int)} {Y : List Int}
/-- What a search makes may be. -/
theorem fit_rows (H : Rows A.toNat nf mf L X Y) (a1 : 1 ≤ A) (a4 : A ≤ 4) (hl : X.length = L.length) (h1 : 1 ≤ L.length) (h3 : L.length ≤ 3000) (hv : ∀ k ∈ L, V k) (hm : ∀ k, V k → mf k = 0 ∨ mf k = 1) : Fit A 0 X Y := by
  refine ⟨a1, a4, by omega, by omega, H.len, fun q hq => ?_, by omega, fun q hq a ha => ?_, fun q hq => ?_⟩
  · have := (H.row q hq).1; omega
  · obtain ⟨j, hj, e, _⟩ := (H.row q hq).2.2 a (by omega)
    rw [e]; omega
  · rw [(H.row q hq).2.1]; exact hm _ (hv _ (List.getElem_mem _))
/-- What a search makes is as an automaton to whose states the keys belong. -/
theorem same_rows {N' : List (List Int)} {M' : List Int} (H : Rows A.toNat nf mf L X Y) (a1 : 1 ≤ A) (hl : X.length = L.length) (h1 : 0 < L.length) (hv : ∀ k ∈ L, V k) (f : κ → Nat) (hm : ∀ k, V k → mf k = M'.getD (f k) 0) (hn : ∀ k a, V k → a < A.toNat → f (nf k a) = nx N' (f k) a) : Same A X Y 0 N' M' (f L[0]) := by
  refine Same.of (fun i c => ∃ h : i < L.length, c = f L[i]) (fun i c h => ?_) (fun i c a h ha => ?_) 0 _ ⟨h1, rfl⟩
  · obtain ⟨h, rfl⟩ := h
    rw [(H.row i (by omega)).2.1]; exact hm _ (hv _ (List.getElem_mem _))
  · obtain ⟨h, rfl⟩ := h
    obtain ⟨j, hj, e1, e2⟩ := (H.row i (by omega)).2.2 a (by omega)
    rw [e1, Int.toNat_natCast]
    refine ⟨hj, ?_⟩
    rw [e2, hn _ _ (hv _ (List.getElem_mem _)) (by omega)]
end Go.Proofs.YtiiioobebeaafaaSx.DC
namespace Go.Proofs.YtiiioobebeaafaaSx.DC
/-! What the laws ask of what is made: the same, the same words, none. -/
theorem same14 (A s : Int) (N : List (List Int)) (M : List Int) (i : Nat) (hi : i < N.length) (hN : N.length ≤ 100000) (hr : (N.getD i []).length ≤ 100000) (r : Bool)
    (E : Ev (fun n => evermoreref3_Same.l9 n ((i + 1 : Nat) : Int) A s N M A s N M) r) : ∀ n a, (N.getD i []).length - a = n → a ≤ (N.getD i []).length → Ev (fun n => evermoreref3_Same.l14 n (i : Int) (a : Int) A s N M A s N M) r := by
  have e1 : rd [] N (i : Int) = N.getD i [] := rd_nat _ _ _
  intro n
  induction n with
  | zero =>
    intro a hn ha
    refine Ev.step (fun n => ?_) E
    rw [evermoreref3_Same.l14, if_pos (by omega), if_pos (by omega), e1, if_neg (by omega), wrSucc i (by omega)]
  | succ n ih =>
    intro a hn ha
    refine Ev.step (fun n => ?_) (ih (a + 1) (by omega) (by omega))
    rw [evermoreref3_Same.l14, if_pos (by omega), if_pos (by omega), e1, if_pos (by omega), if_pos (by omega), if_pos (by omega), if_pos (by omega), if_pos (by omega), if_pos (by omega), if_pos (by omega), if_pos (by omega), if_pos (by omega), if_pos rfl, wrSucc a (by omega)]
theorem same9 (A s : Int) (N : List (List Int)) (M : List Int) (hN : N.length ≤ 100000) (hr : ∀ i, i < N.length → (N.getD i []).length ≤ 100000) : ∀ n i, N.length - i = n → i ≤ N.length → Ev (fun n => evermoreref3_Same.l9 n (i : Int) A s N M A s N M) true := by
  intro n
  induction n with
  | zero =>
    intro i hn hi
    refine Ev.step (h := fun _ => some true) (fun n => ?_) (Ev.now _)
    rw [evermoreref3_Same.l9, if_neg (by omega)]
  | succ n ih =>
    intro i hn hi
    refine Ev.step (fun n => ?_) (same14 A s N M i (by omega) hN (hr i (by omega)) true (ih (i + 1) (by omega) (by omega)) _ 0 rfl (by omega))
    rw [evermoreref3_Same.l9, if_pos (by omega), if_pos (by omega), if_pos (by omega), if_pos (by omega), if_pos (by omega), if_pos rfl]
    rfl
theorem same4 (A s : Int) (N : List (List Int)) (M : List Int) (hM : M.length ≤ 100000) (E : Ev (fun n => evermoreref3_Same.l9 n ((0 : Nat) : Int) A s N M A s N M) true) : ∀ n i, M.length - i = n → i ≤ M.length → Ev (fun n => evermoreref3_Same.l4 n (i : Int) A s N M A s N M) true := by
  intro n
  induction n with
  | zero =>
    intro i hn hi
    refine Ev.step (fun n => ?_) E
    rw [evermoreref3_Same.l4, if_neg (by omega)]
    rfl
  | succ n ih =>
    intro i hn hi
    refine Ev.step (fun n => ?_) (ih (i + 1) (by omega) (by omega))
    rw [evermoreref3_Same.l4, if_pos (by omega), if_pos (by omega), if_pos (by omega), if_pos (by omega), if_pos (by omega), if_pos rfl, wrSucc i (by omega)]
theorem same_ev (A s : Int) (N : List (List Int)) (M : List Int) (hM : M.length ≤ 100000) (hN : N.length ≤ 100000) (hr : ∀ i, i < N.length → (N.getD i []).length ≤ 100000) : Ev (fun n => evermoreref3_Same.f n (A, s, N, M, ()) (A, s, N, M, ())) true := by
  simp only [evermoreref3_Same.f, if_true]
  exact same4 A s N M hM (same9 A s N M hN hr _ 0 rfl (by omega)) _ 0 rfl (by omega)
theorem same_fit {A s : Int} {N : List (List Int)} {M : List Int} (F : Fit A s N M) : Ev (fun n => evermoreref3_Same.f n (A, s, N, M, ()) (A, s, N, M, ())) true := by
  have n3 := F.n3; have m := F.m; have a4 := F.a4
  exact same_ev A s N M (by omega) (by omega) fun i hi => by have := F.row i hi; omega
theorem none_ev (A s : Int) (N : List (List Int)) (M : List Int) : ∃ b, ∀ n, evermorelaw_noDet.f n (A, s, N, M, ()) = some b := by
  by_cases h1 : A = 0
  · by_cases h2 : s = 0
    · exact ⟨_, fun n => by simp only [evermorelaw_noDet.f, if_pos h1, if_pos h2]; rfl⟩
    · exact ⟨false, fun n => by simp only [evermorelaw_noDet.f, if_pos h1, if_neg h2]⟩
  · exact ⟨false, fun n => by simp only [evermorelaw_noDet.f, if_neg h1]⟩
theorem none_0 (n : Nat) : evermorelaw_noDet.f n (0, 0, [], [], ()) = some true := by
  simp only [evermorelaw_noDet.f, if_true]; rfl
end Go.Proofs.YtiiioobebeaafaaSx.DC
namespace Go.Proofs.YtiiioobebeaafaaSx.DC
/-! Sets of at most five states, as bits. -/
def gbit (s : Int) (q : Nat) : Int := Go.IntKind.i64.wrap (((BitVec.ofInt Go.IntKind.i64.bits (s.fdiv (2 ^ min q Go.IntKind.i64.bits)) &&& BitVec.ofInt Go.IntKind.i64.bits 1).toNat : Nat) : Int)
def gor (a b : Int) : Int := Go.IntKind.i64.wrap (((BitVec.ofInt Go.IntKind.i64.bits a ||| BitVec.ofInt Go.IntKind.i64.bits b).toNat : Nat) : Int)
def gand (a b : Int) : Int := Go.IntKind.i64.wrap (((BitVec.ofInt Go.IntKind.i64.bits a &&& BitVec.ofInt Go.IntKind.i64.bits b).toNat : Nat) : Int)
def gshl (m : Int) (q : Nat) : Int := Go.IntKind.i64.wrap (m * 2 ^ min q Go.IntKind.i64.bits)
theorem gbit_all : ∀ s : Fin 32, ∀ q : Fin 5, decide (gbit (s.1 : Int) q.1 = 1) = s.1.testBit q.1 := by decide +kernel
theorem gor_all : ∀ a b : Fin 32, gor (a.1 : Int) (b.1 : Int) = ((a.1 ||| b.1 : Nat) : Int) := by decide +kernel
theorem gand_all : ∀ a b : Fin 32, gand (a.1 : Int) (b.1 : Int) = ((a.1 &&& b.1 : Nat) : Int) := by decide +kernel
theorem gshl_all : ∀ q : Fin 5, gshl 1 q.1 = ((2 ^ q.1 : Nat) : Int) ∧ gshl 0 q.1 = 0 := by decide +kernel
theorem gbit_iff {s q : Nat} (hs : s < 32) (hq : q < 5) : gbit (s : Int) q = 1 ↔ s.testBit q = true := by
  have := gbit_all ⟨s, hs⟩ ⟨q, hq⟩
  rw [← this, decide_eq_true_iff]
theorem gor_eq {a b : Nat} (ha : a < 32) (hb : b < 32) : gor (a : Int) (b : Int) = ((a ||| b : Nat) : Int) := gor_all ⟨a, ha⟩ ⟨b, hb⟩
theorem gand_eq {a b : Nat} (ha : a < 32) (hb : b < 32) : gand (a : Int) (b : Int) = ((a &&& b : Nat) : Int) := gand_all ⟨a, ha⟩ ⟨b, hb⟩
theorem gshl_one {q : Nat} (hq : q < 5) : gshl 1 q = ((2 ^ q : Nat) : Int) := (gshl_all ⟨q, hq⟩).1
theorem gshl_zero {q : Nat} (hq : q < 5) : gshl 0 q = 0 := (gshl_all ⟨q, hq⟩).2
theorem or_lt {a b : Nat} (ha : a < 32) (hb : b < 32) : a ||| b < 32 := Nat.or_lt_two_pow (n := 5) ha hb
theorem pow_lt5 {q : Nat} (hq : q < 5) : 2 ^ q < 32 := Nat.pow_lt_pow_right (by omega) (n := 5) hq
theorem bit_pow {q p : Nat} : (2 ^ q).testBit p = true ↔ q = p := by rw [Nat.testBit_two_pow]; simp
theorem bit_or {a b p : Nat} : (a ||| b).testBit p = true ↔ a.testBit p = true ∨ b.testBit p = true := by rw [Nat.testBit_or, Bool.or_eq_true]
theorem bit_lt {a p : Nat} (ha : a < 32) (h : a.testBit p = true) : p < 5 := by
  by_cases hp : p < 5
  · exact hp
  · rw [Nat.testBit_lt_two_pow (Nat.lt_of_lt_of_le ha (Nat.pow_le_pow_right (n := 2) (by omega) (show 5 ≤ p by omega)))] at h; cases h
theorem bits_eq {a b : Nat} (h : ∀ p, a.testBit p = true ↔ b.testBit p = true) : a = b := by
  apply Nat.eq_of_testBit_eq
  intro p
  have := h p
  cases ha : a.testBit p <;> cases hb : b.testBit p <;> simp_all
/-- All that the states of a set give. -/
def fo (s : Nat) (f : Nat → Nat) : Nat → Nat → Nat → Nat
  | 0, _, acc => acc
  | m + 1, i, acc => fo s f m (i + 1) (if s.testBit i = true then acc ||| f i else acc)
theorem fo_lt {s : Nat} {f : Nat → Nat} : ∀ m i acc, acc < 32 → (∀ q, i ≤ q → q < i + m → f q < 32) → fo s f m i acc < 32 := by
  intro m
  induction m with
  | zero => intro i acc h _; exact h
  | succ m ih =>
    intro i acc h hf
    rw [fo]
    refine ih _ _ ?_ (fun q h1 h2 => hf q (by omega) (by omega))
    by_cases hb : s.testBit i = true
    · rw [if_pos hb]; exact or_lt h (hf i (by omega) (by omega))
    · rw [if_neg hb]; exact h
theorem fo_bit {s : Nat} {f : Nat → Nat} {p : Nat} : ∀ m i acc, (fo s f m i acc).testBit p = true ↔ acc.testBit p = true ∨ ∃ q, i ≤ q ∧ q < i + m ∧ s.testBit q = true ∧ (f q).testBit p = true := by
  intro m
  induction m with
  | zero => intro i acc; rw [fo]; constructor
            · intro h; exact .inl h
            · rintro (h | ⟨q, h1, h2, _⟩)
              · exact h
              · omega
  | succ m ih =>
    intro i acc
    rw [fo, ih]
    constructor
    · rintro (h | ⟨q, h1, h2, h3, h4⟩)
      · by_cases hb : s.testBit i = true
        · rw [if_pos hb, bit_or] at h
          rcases h with h | h
          · exact .inl h
          · exact .inr ⟨i, by omega, by omega, hb, h⟩
        · rw [if_neg hb] at h; exact .inl h
      · exact .inr ⟨q, by omega, by omega, h3, h4⟩
    · rintro (h | ⟨q, h1, h2, h3, h4⟩)
      · left
        by_cases hb : s.testBit i = true
        · rw [if_pos hb, bit_or]; exact .inl h
        · rw [if_neg hb]; exact h
      · by_cases e : q = i
        · subst e; left; rw [if_pos h3, bit_or]; exact .inr h4
        · exact .inr ⟨q, by omega, by omega, h3, h4⟩
/-- The states that a word leads to. -/
def Rc (A : Int) (N : List (List Int)) (p r : Nat) : Prop := ∃ w : List Nat, (∀ a ∈ w, (a : Int) < A) ∧ aft N p w = r
theorem Rc.refl {A : Int} {N : List (List Int)} (p : Nat) : Rc A N p p := ⟨[], fun a h => by simp at h, rfl⟩
theorem Rc.step {A : Int} {N : List (List Int)} {p r : Nat} (h : Rc A N p r) (a : Nat) (ha : (a : Int) < A) : Rc A N p (nx N r a) := by
  obtain ⟨w, hw, e⟩ := h
  refine ⟨w ++ [a], fun b hb => ?_, ?_⟩
  · rcases List.mem_append.1 hb with h | h
    · exact hw b h
    · rw [List.mem_singleton] at h; rw [h]; exact ha
  · rw [aft_app, e]; rfl
/-- What is closed holds all that it leads to. -/
theorem Rc.closed {A : Int} {N : List (List Int)} (P : Nat → Prop) (hP : ∀ q (a : Nat), P q → (a : Int) < A → P (nx N q a)) {p r : Nat} (h : Rc A N p r) (hp : P p) : P r := by
  obtain ⟨w, hw, e⟩ := h
  have : ∀ (w : List Nat) p, (∀ a ∈ w, (a : Int) < A) → P p → P (aft N p w) := by
    intro w
    induction w with
    | nil => intro p _ h; exact h
    | cons a w ih => intro p hw h; exact ih _ (fun b hb => hw b (List.mem_cons_of_mem _ hb)) (hP p a h (hw a List.mem_cons_self))
  rw [← e]; exact this w p hw hp
end Go.Proofs.YtiiioobebeaafaaSx.DC
namespace Go.Proofs.YtiiioobebeaafaaSx.DC
variable {A s : Int} {N : List (List Int)} {M : List Int}
/-- Where a letter leads, as the text reads it. -/
theorem rd_nx (F : Fit A s N M) {q a : Nat} (hq : q < N.length) (ha : (a : Int) < A) : rd (Int.ofNat 0) (N.getD q []) (a : Int) = ((nx N q a : Nat) : Int) ∧ nx N q a < N.length := by
  have := F.ent q hq a ha
  rw [rd_nat, nx]
  constructor
  · show (N.getD q []).getD a 0 = _; omega
  · omega
def step1 (N : List (List Int)) (S a : Nat) : Nat := fo S (fun q => 2 ^ nx N q a) N.length 0 0
theorem step1_lt (F : Fit A s N M) (h5 : N.length ≤ 5) {S a : Nat} (ha : (a : Int) < A) : step1 N S a < 32 :=
  fo_lt _ _ _ (by omega) fun q _ hq => pow_lt5 (by have := (rd_nx F (by omega) ha (q := q)).2; omega)
theorem step1_bit {S a p : Nat} : (step1 N S a).testBit p = true ↔ ∃ q, q < N.length ∧ S.testBit q = true ∧ nx N q a = p := by
  rw [step1, fo_bit]
  simp only [Nat.zero_testBit, Bool.false_eq_true, false_or, Nat.zero_add, Nat.zero_le, true_and, bit_pow]
/-- Up: the loop over the states. -/
theorem up_l3 (F : Fit A s N M) (h5 : N.length ≤ 5) (S a : Nat) (hS : S < 32) (ha : (a : Int) < A) : ∀ (n q acc : Nat), N.length - q = n → q ≤ N.length → acc < 32 →
    Ev (fun k => higman_sets_1.l3 k (S : Int) (a : Int) (acc : Int) N (N.length : Int) (q : Int) A s N M) (((S ||| fo S (fun q => 2 ^ nx N q a) n q acc : Nat) : Int), A, s, N, M) := by
  intro n
  induction n with
  | zero =>
    intro q acc hn hq hacc
    refine Ev.step (h := fun _ => some (((S ||| acc : Nat) : Int), A, s, N, M)) (fun k => ?_) (Ev.now _)
    rw [higman_sets_1.l3, if_neg (by omega)]
    show (some (gor (S : Int) (acc : Int))).bind _ = _
    rw [gor_eq hS hacc]; rfl
  | succ n ih =>
    intro q acc hn hq hacc
    have hr := F.row q (by omega)
    obtain ⟨e2, hlt⟩ := rd_nx F (show q < N.length by omega) ha
    have e1 : rd [] N (q : Int) = N.getD q [] := rd_nat _ _ _
    rw [fo]
    have j7 : ∀ x : Int, ∀ k, higman_sets_1.j7 (k + 1) (S : Int) (a : Int) x N (N.length : Int) (q : Int) A s N M = higman_sets_1.l3 k (S : Int) (a : Int) x N (N.length : Int) ((q + 1 : Nat) : Int) A s N M := by
      intro x k; rw [higman_sets_1.j7, wrSucc q (by omega)]
    by_cases hb : S.testBit q = true
    · rw [if_pos hb]
      refine Ev.step (h := fun k => higman_sets_1.j7 k (S : Int) (a : Int) ((acc ||| 2 ^ nx N q a : Nat) : Int) N (N.length : Int) (q : Int) A s N M) (fun k => ?_) (Ev.step (j7 _) (ih (q + 1) _ (by omega) (by omega) (or_lt hacc (pow_lt5 (by omega)))))
      rw [higman_sets_1.l3, if_pos (by omega), if_pos (by omega), if_pos (by omega), if_pos (by omega), Int.toNat_natCast]
      refine Eq.trans (if_pos ((gbit_iff hS (by omega)).2 hb)) ?_
      rw [if_pos (by omega), e1, if_pos (by omega), e2, if_pos (by omega), Int.toNat_natCast]
      show higman_sets_1.j7 k (S : Int) (a : Int) (gor (acc : Int) (gshl 1 (nx N q a))) N (N.length : Int) (q : Int) A s N M = _
      rw [gshl_one (by omega), gor_eq hacc (pow_lt5 (by omega))]
    · rw [if_neg hb]
      refine Ev.step (h := fun k => higman_sets_1.j7 k (S : Int) (a : Int) (acc : Int) N (N.length : Int) (q : Int) A s N M) (fun k => ?_) (Ev.step (j7 _) (ih (q + 1) _ (by omega) (by omega) hacc))
      rw [higman_sets_1.l3, if_pos (by omega), if_pos (by omega), if_pos (by omega), if_pos (by omega), Int.toNat_natCast]
      exact if_neg fun h => hb ((gbit_iff hS (by omega)).1 h)
def nfU (N : List (List Int)) (k : Int) (a : Nat) : Int := ((k.toNat ||| step1 N k.toNat a : Nat) : Int)
theorem up_f (F : Fit A s N M) (h5 : N.length ≤ 5) {k : Int} (hk : 0 ≤ k ∧ k < 32) (a : Nat) (ha : (a : Int) < A) : Ev (fun n => higman_sets_1.f n k (a : Int) A s N M) (nfU N k a, A, s, N, M) := by
  have := up_l3 F h5 k.toNat a (by omega) ha _ 0 0 rfl (by omega) (by omega)
  rw [show ((k.toNat : Nat) : Int) = k by omega] at this
  exact this
/-! All that a set leads to. -/
theorem ah_l6 (F : Fit A s N M) (h5 : N.length ≤ 5) (S : Nat) (hS : S < 32) (q : Nat) (hq : q < N.length) (R : Int) : ∀ (n a acc : Nat), A.toNat - a = n → (a : Int) ≤ A → acc < 32 →
    ∃ acc' : Nat, acc' < 32 ∧ (∀ p, acc'.testBit p = true ↔ acc.testBit p = true ∨ (S.testBit q = true ∧ ∃ b : Nat, a ≤ b ∧ (b : Int) < A ∧ nx N q b = p)) ∧
      (Ev (fun k => higman_ahead.l3 k (S : Int) (acc' : Int) N (N.length : Int) ((q + 1 : Nat) : Int) A s N M) R → Ev (fun k => higman_ahead.l6 k (S : Int) (acc : Int) (q : Int) N (N.length : Int) (q : Int) (N.getD q []) ((N.getD q []).length : Int) (a : Int) A s N M) R) := by
  have hr := F.row q hq
  intro n
  induction n with
  | zero =>
    intro a acc hn ha hacc
    refine ⟨acc, hacc, fun p => ⟨.inl, ?_⟩, fun E => Ev.step (fun k => ?_) E⟩
    · rintro (h | ⟨_, b, h1, h2, _⟩)
      · exact h
      · omega
    · rw [higman_ahead.l6, if_neg (by omega), wrSucc q (by omega)]
  | succ n ih =>
    intro a acc hn ha hacc
    have haA : (a : Int) < A := by omega
    obtain ⟨e2, hlt⟩ := rd_nx F hq haA
    have j10 : ∀ x : Int, ∀ k, higman_ahead.j10 (k + 1) (S : Int) x (q : Int) N (N.length : Int) (q : Int) (N.getD q []) ((N.getD q []).length : Int) (a : Int) A s N M = higman_ahead.l6 k (S : Int) x (q : Int) N (N.length : Int) (q : Int) (N.getD q []) ((N.getD q []).length : Int) ((a + 1 : Nat) : Int) A s N M := by
      intro x k; rw [higman_ahead.j10, wrSucc a (by have := F.a4; omega)]
    by_cases hb : S.testBit q = true
    · obtain ⟨acc', c1, c2, c3⟩ := ih (a + 1) (acc ||| 2 ^ nx N q a) (by omega) (by omega) (or_lt hacc (pow_lt5 (by omega)))
      refine ⟨acc', c1, fun p => ?_, fun E => Ev.step (h := fun k => higman_ahead.j10 k (S : Int) ((acc ||| 2 ^ nx N q a : Nat) : Int) (q : Int) N (N.length : Int) (q : Int) (N.getD q []) ((N.getD q []).length : Int) (a : Int) A s N M) (fun k => ?_) (Ev.step (j10 _) (c3 E))⟩
      · rw [c2, bit_or, bit_pow]
        constructor
        · rintro ((h | h) | ⟨h, b, h1, h2, h3⟩)
          · exact .inl h
          · exact .inr ⟨hb, a, by omega, haA, h⟩
          · exact .inr ⟨h, b, by omega, h2, h3⟩
        · rintro (h | ⟨h, b, h1, h2, h3⟩)
          · exact .inl (.inl h)
          · by_cases e : b = a
            · subst e; exact .inl (.inr h3)
            · exact .inr ⟨h, b, by omega, h2, h3⟩
      · rw [higman_ahead.l6, if_pos (by omega), if_pos (by omega), if_pos (by omega), if_pos (by omega), Int.toNat_natCast]
        refine Eq.trans (if_pos ((gbit_iff hS (by omega)).2 hb)) ?_
        rw [e2, if_pos (by omega), Int.toNat_natCast]
        show higman_ahead.j10 k (S : Int) (gor (acc : Int) (gshl 1 (nx N q a))) (q : Int) N (N.length : Int) (q : Int) (N.getD q []) ((N.getD q []).length : Int) (a : Int) A s N M = _
        rw [gshl_one (by omega), gor_eq hacc (pow_lt5 (by omega))]
    · obtain ⟨acc', c1, c2, c3⟩ := ih (a + 1) acc (by omega) (by omega) hacc
      refine ⟨acc', c1, fun p => ?_, fun E => Ev.step (h := fun k => higman_ahead.j10 k (S : Int) (acc : Int) (q : Int) N (N.length : Int) (q : Int) (N.getD q []) ((N.getD q []).length : Int) (a : Int) A s N M) (fun k => ?_) (Ev.step (j10 _) (c3 E))⟩
      · rw [c2]
        constructor
        · rintro (h | ⟨h, _⟩)
          · exact .inl h
          · exact absurd h hb
        · rintro (h | ⟨h, _⟩)
          · exact .inl h
          · exact absurd h hb
      · rw [higman_ahead.l6, if_pos (by omega), if_pos (by omega), if_pos (by omega), if_pos (by omega), Int.toNat_natCast]
        exact if_neg fun h => hb ((gbit_iff hS (by omega)).1 h)
theorem ah_l3 (F : Fit A s N M) (h5 : N.length ≤ 5) (S : Nat) (hS : S < 32) (R : Int) : ∀ (n q acc : Nat), N.length - q = n → q ≤ N.length → acc < 32 →
    ∃ acc' : Nat, acc' < 32 ∧ (∀ p, acc'.testBit p = true ↔ acc.testBit p = true ∨ ∃ r, q ≤ r ∧ r < N.length ∧ S.testBit r = true ∧ ∃ b : Nat, (b : Int) < A ∧ nx N r b = p) ∧
      (Ev (fun k => if (acc' : Int) = (S : Int) then some (S : Int) else higman_ahead.l1 k (acc' : Int) A s N M) R → Ev (fun k => higman_ahead.l3 k (S : Int) (acc : Int) N (N.length : Int) (q : Int) A s N M) R) := by
  intro n
  induction n with
  | zero =>
    intro q acc hn hq hacc
    refine ⟨acc, hacc, fun p => ⟨.inl, ?_⟩, fun E => Ev.step (fun k => ?_) E⟩
    · rintro (h | ⟨r, h1, h2, _⟩)
      · exact h
      · omega
    · rw [higman_ahead.l3, if_neg (by omega)]
  | succ n ih =>
    intro q acc hn hq hacc
    have hmid : ∀ acc1 : Nat, acc1 < 32 → ∃ acc' : Nat, acc' < 32 ∧ (∀ p, acc'.testBit p = true ↔ acc1.testBit p = true ∨ ∃ r, q + 1 ≤ r ∧ r < N.length ∧ S.testBit r = true ∧ ∃ b : Nat, (b : Int) < A ∧ nx N r b = p) ∧
      (Ev (fun k => if (acc' : Int) = (S : Int) then some (S : Int) else higman_ahead.l1 k (acc' : Int) A s N M) R → Ev (fun k => higman_ahead.l3 k (S : Int) (acc1 : Int) N (N.length : Int) ((q + 1 : Nat) : Int) A s N M) R) := fun acc1 h => ih (q + 1) acc1 (by omega) (by omega) h
    obtain ⟨acc1, c1, c2, c3⟩ := ah_l6 F h5 S hS q (by omega) R _ 0 acc rfl (by have := F.a1; omega) hacc
    obtain ⟨acc', d1, d2, d3⟩ := hmid acc1 c1
    refine ⟨acc', d1, fun p => ?_, fun E => Ev.step (fun k => ?_) (c3 (d3 E))⟩
    · rw [d2, c2]
      constructor
      · rintro ((h | ⟨h, b, _, h2, h3⟩) | ⟨r, h1, h2, h3⟩)
        · exact .inl h
        · exact .inr ⟨q, by omega, by omega, h, b, h2, h3⟩
        · exact .inr ⟨r, by omega, h2, h3⟩
      · rintro (h | ⟨r, h1, h2, h3, b, h4, h5'⟩)
        · exact .inl (.inl h)
        · by_cases e : r = q
          · subst e; exact .inl (.inr ⟨h3, b, by omega, h4, h5'⟩)
          · exact .inr ⟨r, by omega, h2, h3, b, h4, h5'⟩
    · have e1 : rd [] N (q : Int) = N.getD q [] := rd_nat _ _ _
      rw [higman_ahead.l3, if_pos (by omega), if_pos (by omega), if_pos (by omega), e1]
      rfl
/-- All states that a set leads to. -/
def Ahd (A : Int) (N : List (List Int)) (S T : Nat) : Prop := T < 32 ∧ ∀ p, T.testBit p = true ↔ ∃ q, q < N.length ∧ S.testBit q = true ∧ Rc A N q p
theorem ah_l1 (F : Fit A s N M) (h5 : N.length ≤ 5) (S0 : Nat) (h0 : ∀ p, S0.testBit p = true → p < N.length) : ∀ (n S : Nat), 32 - S = n → S < 32 → (∀ p, S0.testBit p = true → S.testBit p = true) → (∀ p, S.testBit p = true → ∃ q, q < N.length ∧ S0.testBit q = true ∧ Rc A N q p) →
    ∃ T : Nat, Ahd A N S0 T ∧ Ev (fun k => higman_ahead.l1 k (S : Int) A s N M) (T : Int) := by
  intro n
  induction n using Nat.strongRecOn with
  | _ n ih =>
    intro S hn hS hsub hrc
    have hpl : ∀ p, S.testBit p = true → p < N.length := by
      intro p hp
      obtain ⟨q, hq, _, hr⟩ := hrc p hp
      exact Rc.closed (fun x => x < N.length) (fun x a hx ha => (rd_nx F hx ha).2) hr hq
    obtain ⟨T1, t1, t2, t3⟩ := ah_l3 F h5 S hS 0 _ 0 S rfl (by omega) hS
    have t2' : ∀ p, T1.testBit p = true ↔ S.testBit p = true ∨ ∃ r, r < N.length ∧ S.testBit r = true ∧ ∃ b : Nat, (b : Int) < A ∧ nx N r b = p := by
      intro p; rw [t2]
      constructor
      · rintro (h | ⟨r, _, h⟩)
        · exact .inl h
        · exact .inr ⟨r, h⟩
      · rintro (h | ⟨r, h⟩)
        · exact .inl h
        · exact .inr ⟨r, Nat.zero_le _, h⟩
    by_cases he : T1 = S
    · subst he
      refine ⟨T1, ⟨hS, fun p => ⟨hrc p, ?_⟩⟩, ?_⟩
      · rintro ⟨q, hq, hq2, hr⟩
        exact Rc.closed (fun x => T1.testBit x = true) (fun x a hx ha => (t2' _).2 (.inr ⟨x, hpl x hx, hx, a, ha, rfl⟩)) hr (hsub q hq2)
      · obtain ⟨T2, u1, u2, u3⟩ := ah_l3 F h5 T1 hS (T1 : Int) _ 0 T1 rfl (by omega) hS
        have : T2 = T1 := bits_eq fun p => (u2 p).trans (t2 p).symm
        refine Ev.step (fun k => by rw [higman_ahead.l1]; rfl) (u3 ?_)
        rw [this]
        simp only [if_true]; exact Ev.now _
    · have hle : S ≤ T1 := by
        have : S ||| T1 = T1 := bits_eq fun p => by
          rw [bit_or]
          constructor
          · rintro (h | h)
            · exact (t2' p).2 (.inl h)
            · exact h
          · exact .inr
        rw [← this]; exact Nat.left_le_or
      obtain ⟨T, g1, g2⟩ := ih (32 - T1) (by omega) T1 rfl t1 (fun p h => (t2' p).2 (.inl (hsub p h))) (fun p h => by
        rcases (t2' p).1 h with h | ⟨r, h1, h2, b, h3, h4⟩
        · exact hrc p h
        · obtain ⟨q, q1, q2, q3⟩ := hrc r h2
          exact ⟨q, q1, q2, h4 ▸ q3.step b h3⟩)
      refine ⟨T, g1, ?_⟩
      obtain ⟨T2, u1, u2, u3⟩ := ah_l3 F h5 S hS (T : Int) _ 0 S rfl (by omega) hS
      have : T2 = T1 := bits_eq fun p => (u2 p).trans (t2 p).symm
      refine Ev.step (fun k => by rw [higman_ahead.l1]; rfl) (u3 ?_)
      rw [this]
      simp only [if_neg (show ¬ (T1 : Int) = (S : Int) by omega)]
      exact g2
theorem ahead_ev (F : Fit A s N M) (h5 : N.length ≤ 5) (S : Nat) (hS : S < 32) (h0 : ∀ p, S.testBit p = true → p < N.length) : ∃ T : Nat, Ahd A N S T ∧ Ev (fun k => higman_ahead.f k (A, s, N, M, ()) (S : Int)) (T : Int) :=
  ah_l1 F h5 S h0 _ S rfl hS (fun p h => h) (fun p h => ⟨p, h0 p h, h, Rc.refl p⟩)
theorem Ahd.uniq {S T T' : Nat} (h : Ahd A N S T) (h' : Ahd A N S T') : T = T' := bits_eq fun p => (h.2 p).trans (h'.2 p).symm
end Go.Proofs.YtiiioobebeaafaaSx.DC
namespace Go.Proofs.YtiiioobebeaafaaSx.DC
variable {A s : Int} {N : List (List Int)} {M : List Int}
abbrev KI : Ty := .int .i64
theorem ki_beq (x y : KI.den) : KI.beq x y = true ↔ x = y := by
  have e : KI.beq x y = decide (x = y) := rfl
  rw [e, decide_eq_true_iff]
def V32 (k : Int) : Prop := 0 ≤ k ∧ k < 32
theorem v32_bound (L : List Int) (h1 : L.Nodup) (h2 : ∀ k ∈ L, V32 k) : L.length ≤ 32 := nodup_ints 32 L h1 fun x hx => by have := h2 x hx; exact ⟨this.1, this.2⟩
/-- Is an accepting state among them? -/
def mkH (N : List (List Int)) (M : List Int) (k : Int) : Int := if (List.range N.length).any (fun q => k.toNat.testBit q && decide (M.getD q 0 = 1)) then 1 else 0
theorem mkH_ok (k : Int) : mkH N M k = 0 ∨ mkH N M k = 1 := by unfold mkH; split <;> simp
/-- The accepting states, as bits. -/
def Good (N : List (List Int)) (M : List Int) (g : Nat) : Prop := g < 32 ∧ ∀ p, g.testBit p = true ↔ p < N.length ∧ M.getD p 0 = 1
theorem mark_ev (g : Nat) (hg : Good N M g) (hN : N.length ≤ 5) {k : Int} (hk : V32 k) (n : Nat) : higman_sets_2.f n k (g : Int) = some (mkH N M k, (g : Int)) := by
  obtain ⟨h1, h2⟩ := hk
  obtain ⟨h3, h4⟩ := hg
  have e : gand k (g : Int) = ((k.toNat &&& g : Nat) : Int) := by
    have := gand_eq (a := k.toNat) (b := g) (by omega) h3
    rw [show ((k.toNat : Nat) : Int) = k by omega] at this; exact this
  by_cases hz : k.toNat &&& g = 0
  · have hm : mkH N M k = 0 := by
      rw [mkH, if_neg]
      rw [List.any_eq_true]
      rintro ⟨q, hq, hb⟩
      rw [Bool.and_eq_true, decide_eq_true_iff] at hb
      have : (k.toNat &&& g).testBit q = true := by rw [Nat.testBit_and, hb.1, (h4 q).2 ⟨List.mem_range.1 hq, hb.2⟩]; rfl
      rw [hz, Nat.zero_testBit] at this; cases this
    have hz' : gand k (g : Int) = 0 := by rw [e, hz]; rfl
    rw [hm, higman_sets_2.f]; exact if_pos hz'
  · have hm : mkH N M k = 1 := by
      rw [mkH, if_pos]
      rw [List.any_eq_true]
      obtain ⟨p, hp⟩ := Nat.exists_testBit_of_ne_zero hz
      rw [Nat.testBit_and, Bool.and_eq_true] at hp
      have := (h4 p).1 hp.2
      exact ⟨p, List.mem_range.2 this.1, by rw [hp.1, decide_eq_true this.2]; rfl⟩
    have hz' : ¬ gand k (g : Int) = 0 := by rw [e]; omega
    rw [hm, higman_sets_2.f]; exact if_neg hz'
/-- The program's sums of the marks. -/
def gfo (M : List Int) : Nat → Nat → Nat → Nat
  | 0, _, acc => acc
  | m + 1, i, acc => gfo M m (i + 1) (if M.getD i 0 = 1 then acc ||| 2 ^ i else acc)
theorem gfo_lt : ∀ m i acc, acc < 32 → i + m ≤ 5 → gfo M m i acc < 32 := by
  intro m
  induction m with
  | zero => intro i acc h _; exact h
  | succ m ih =>
    intro i acc h hi
    rw [gfo]
    refine ih _ _ ?_ (by omega)
    by_cases hb : M.getD i 0 = 1
    · rw [if_pos hb]; exact or_lt h (pow_lt5 (by omega))
    · rw [if_neg hb]; exact h
theorem gfo_bit {p : Nat} : ∀ m i acc, (gfo M m i acc).testBit p = true ↔ acc.testBit p = true ∨ (i ≤ p ∧ p < i + m ∧ M.getD p 0 = 1) := by
  intro m
  induction m with
  | zero => intro i acc; rw [gfo]; constructor
            · intro h; exact .inl h
            · rintro (h | ⟨h1, h2, _⟩)
              · exact h
              · omega
  | succ m ih =>
    intro i acc
    rw [gfo, ih]
    constructor
    · rintro (h | ⟨h1, h2, h3⟩)
      · by_cases hb : M.getD i 0 = 1
        · rw [if_pos hb, bit_or, bit_pow] at h
          rcases h with h | h
          · exact .inl h
          · subst h; exact .inr ⟨by omega, by omega, hb⟩
        · rw [if_neg hb] at h; exact .inl h
      · exact .inr ⟨by omega, by omega, h3⟩
    · rintro (h | ⟨h1, h2, h3⟩)
      · left
        by_cases hb : M.getD i 0 = 1
        · rw [if_pos hb, bit_or]; exact .inl h
        · rw [if_neg hb]; exact h
      · by_cases e : p = i
        · subst e; left; rw [if_pos h3, bit_or, bit_pow]; exact .inr rfl
        · exact .inr ⟨by omega, by omega, h3⟩
def goodN (N : List (List Int)) (M : List Int) : Nat := gfo M N.length 0 0
theorem good_ok (h5 : N.length ≤ 5) : Good N M (goodN N M) := ⟨gfo_lt _ _ _ (by omega) (by omega), fun p => by
  rw [goodN, gfo_bit]; simp⟩
abbrev RU := Int × Int × Bool × Int × Int × List (List Int) × List Int × Int × List (List Int) × List Int
/-- The program's search upwards. -/
def sysU (F : Fit A s N M) (h5 : N.length ≤ 5) : Sys A.toNat (nfU N) (mkH N M) V32 32 RU where
  g8 a L k row X Y := fun n => det_Explore_int_.l8 n A 64 k A (a : Int) A s N M (goodN N M : Int) 0 0 A 0 (nmk KI L) L (padI A.toNat row) [] [] X Y
  g4 L X Y := fun n => det_Explore_int_.l4 n A 64 A s N M (goodN N M : Int) 0 0 A 0 (nmk KI L) L [] [] X Y
  fin X Y := fun _ => some (A, 0, true, A, s, N, M, (goodN N M : Int), X, Y)
  known a L k row X Y r i ha K hk hr hx hkx hi e E := by
    have a4 := F.a4
    have hm : mhas KI (.int .i64) (nmk KI L) (nfU N k a) = true := nmk_hit (K := KI) ki_beq (show nfU N k a ∈ L from e ▸ List.getElem_mem hi)
    have hg : mget KI (.int .i64) (nmk KI L) (nfU N k a) = (i : Int) := nmk_get (K := KI) ki_beq K.nd hi e
    have hp := pad_len (A := A.toNat) (row := row) (by omega)
    refine Ev.step (fun n => by rw [det_Explore_int_.l8, if_pos (show (a : Int) < A by omega)]) (Ev.bind (up_f F h5 (K.v k hk) a (by omega)) ?_)
    simp only [hm, if_true, hg]
    refine Ev.step (fun n => ?_) E
    rw [det_Explore_int_.j18, if_pos (by omega), if_pos (by omega), wrSucc a (by omega), Int.toNat_natCast]
    have := pad_set (A := A.toNat) (row := row) (i : Int) (by omega)
    rw [hr] at this
    rw [this]
  new a L k row X Y r ha K hk hr hx hkx hn K2' E := by
    have a4 := F.a4
    have hm : mhas KI (.int .i64) (nmk KI L) (nfU N k a) = false := nmk_miss (K := KI) ki_beq hn
    have hg : mput KI (.int .i64) (nmk KI L) (nfU N k a) (L.length : Int) = nmk KI (L ++ [nfU N k a]) := nmk_put (K := KI) ki_beq hn
    have hp := pad_len (A := A.toNat) (row := row) (by omega)
    have hle := K.le
    have hle2 := K2'.le
    rw [List.length_append, List.length_singleton] at hle2
    refine Ev.step (fun n => by rw [det_Explore_int_.l8, if_pos (show (a : Int) < A by omega)]) (Ev.bind (up_f F h5 (K.v k hk) a (by omega)) ?_)
    simp only [hm, Bool.false_eq_true, if_false, hg, if_neg (show ¬ (L.length : Int) = 64 by omega), if_pos (short (L ++ [nfU N k a]).length (by rw [List.length_append, List.length_singleton]; omega))]
    refine Ev.step (fun n => ?_) E
    rw [det_Explore_int_.j18, if_pos (by omega), if_pos (by omega), wrSucc a (by omega), Int.toNat_natCast]
    have := pad_set (A := A.toNat) (row := row) (L.length : Int) (by omega)
    rw [hr] at this
    rw [this]
  done L k row X Y r K hk hr hx hkx hy E := by
    have a4 := F.a4; have a1 := F.a1
    have hle := K.le
    refine Ev.step (fun n => ?_) E
    rw [det_Explore_int_.l8, if_neg (by omega), pad_full hr, if_pos (short _ (by rw [List.length_append, List.length_singleton]; omega)), mark_ev _ (good_ok h5) h5 (K.v k hk), Option.bind_some]
    exact if_pos (short _ (by rw [List.length_append, List.length_singleton]; omega))
  start L X Y r h K hy E := by
    have a4 := F.a4; have a1 := F.a1
    refine Ev.step (fun n => ?_) E
    have e : L.getD X.length (Int.ofNat 0) = L[X.length] := by rw [List.getD_eq_getElem?_getD, List.getElem?_eq_getElem h]; rfl
    rw [det_Explore_int_.l4, if_pos (by omega), if_pos (by omega), if_pos (by omega), if_pos (by omega), if_pos (by omega), if_pos (by omega), Int.toNat_natCast, e]
    rfl
  stop L X Y r K h hy E := by
    refine Ev.step (fun n => ?_) E
    rw [det_Explore_int_.l4, if_neg (by omega)]
/-! Down. -/
open Classical in
noncomputable def ahN (A : Int) (N : List (List Int)) (S : Nat) : Nat := fo 31 (fun p => if ∃ q, q < N.length ∧ S.testBit q = true ∧ Rc A N q p then 2 ^ p else 0) 5 0 0
theorem rc_lt (F : Fit A s N M) {q p : Nat} (h : Rc A N q p) (hq : q < N.length) : p < N.length := Rc.closed (fun x => x < N.length) (fun x a hx ha => (rd_nx F hx ha).2) h hq
theorem ahN_ok (F : Fit A s N M) (h5 : N.length ≤ 5) (S : Nat) : Ahd A N S (ahN A N S) := by
  refine ⟨fo_lt _ _ _ (by omega) fun q _ hq => ?_, fun p => ?_⟩
  · split
    · exact pow_lt5 (by omega)
    · omega
  · rw [ahN, fo_bit, Nat.zero_testBit]
    constructor
    · rintro (h | ⟨q, _, h1, h2, h3⟩)
      · cases h
      · split at h3
        · rename_i hx; rw [bit_pow] at h3; rw [← h3]; exact hx
        · rw [Nat.zero_testBit] at h3; cases h3
    · intro h
      have hp : p < N.length := by obtain ⟨q, hq, _, hr⟩ := h; exact rc_lt F hr hq
      refine .inr ⟨p, by omega, by omega, ?_, ?_⟩
      · have : ∀ p : Fin 5, (31 : Nat).testBit p.1 = true := by decide
        exact this ⟨p, by omega⟩
      · rw [if_pos h, bit_pow]
noncomputable def nfD (A : Int) (N : List (List Int)) (k : Int) (a : Nat) : Int := (ahN A N (step1 N k.toNat a) : Int)
theorem ahead_is (F : Fit A s N M) (h5 : N.length ≤ 5) (S : Nat) (hS : S < 32) (h0 : ∀ p, S.testBit p = true → p < N.length) : Ev (fun k => higman_ahead.f k (A, s, N, M, ()) (S : Int)) (ahN A N S : Int) := by
  obtain ⟨T, t1, t2⟩ := ahead_ev F h5 S hS h0
  rw [← t1.uniq (ahN_ok F h5 S)]; exact t2
theorem down_l3 (F : Fit A s N M) (h5 : N.length ≤ 5) (S a : Nat) (hS : S < 32) (ha : (a : Int) < A) : ∀ (n q acc : Nat), N.length - q = n → q ≤ N.length → acc < 32 → (∀ p, acc.testBit p = true → p < N.length) →
    Ev (fun k => higman_sets_1_2.l3 k (S : Int) (a : Int) (acc : Int) N (N.length : Int) (q : Int) A s N M A s N M) ((ahN A N (fo S (fun q => 2 ^ nx N q a) n q acc) : Int), A, s, N, M, A, s, N, M) := by
  intro n
  induction n with
  | zero =>
    intro q acc hn hq hacc hp
    refine Ev.step (fun k => by rw [higman_sets_1_2.l3, if_neg (show ¬ (q : Int) < (N.length : Int) by omega)]) ?_
    refine Ev.bind (x := ((ahN A N acc : Int), A, s, N, M)) ?_ (Ev.now _)
    simp only [higman_Down_1.f]
    exact Ev.bind (ahead_is F h5 acc hacc hp) (Ev.now _)
  | succ n ih =>
    intro q acc hn hq hacc hp
    have hr := F.row q (by omega)
    obtain ⟨e2, hlt⟩ := rd_nx F (show q < N.length by omega) ha
    have e1 : rd [] N (q : Int) = N.getD q [] := rd_nat _ _ _
    rw [fo]
    have j7 : ∀ x : Int, ∀ k, higman_sets_1_2.j7 (k + 1) (S : Int) (a : Int) x N (N.length : Int) (q : Int) A s N M A s N M = higman_sets_1_2.l3 k (S : Int) (a : Int) x N (N.length : Int) ((q + 1 : Nat) : Int) A s N M A s N M := by
      intro x k; rw [higman_sets_1_2.j7, wrSucc q (by omega)]
    by_cases hb : S.testBit q = true
    · rw [if_pos hb]
      refine Ev.step (h := fun k => higman_sets_1_2.j7 k (S : Int) (a : Int) ((acc ||| 2 ^ nx N q a : Nat) : Int) N (N.length : Int) (q : Int) A s N M A s N M) (fun k => ?_) (Ev.step (j7 _) (ih (q + 1) _ (by omega) (by omega) (or_lt hacc (pow_lt5 (by omega))) (fun p h => ?_)))
      · rw [higman_sets_1_2.l3, if_pos (by omega), if_pos (by omega), if_pos (by omega), if_pos (by omega), Int.toNat_natCast]
        refine Eq.trans (if_pos ((gbit_iff hS (by omega)).2 hb)) ?_
        rw [if_pos (by omega), e1, if_pos (by omega), e2, if_pos (by omega), Int.toNat_natCast]
        show higman_sets_1_2.j7 k (S : Int) (a : Int) (gor (acc : Int) (gshl 1 (nx N q a))) N (N.length : Int) (q : Int) A s N M A s N M = _
        rw [gshl_one (by omega), gor_eq hacc (pow_lt5 (by omega))]
      · rw [bit_or, bit_pow] at h
        rcases h with h | h
        · exact hp p h
        · omega
    · rw [if_neg hb]
      refine Ev.step (h := fun k => higman_sets_1_2.j7 k (S : Int) (a : Int) (acc : Int) N (N.length : Int) (q : Int) A s N M A s N M) (fun k => ?_) (Ev.step (j7 _) (ih (q + 1) _ (by omega) (by omega) hacc hp))
      rw [higman_sets_1_2.l3, if_pos (by omega), if_pos (by omega), if_pos (by omega), if_pos (by omega), Int.toNat_natCast]
      exact if_neg fun h => hb ((gbit_iff hS (by omega)).1 h)
theorem down_f (F : Fit A s N M) (h5 : N.length ≤ 5) {k : Int} (hk : 0 ≤ k ∧ k < 32) (a : Nat) (ha : (a : Int) < A) : Ev (fun n => higman_sets_1_2.f n k (a : Int) A s N M A s N M) (nfD A N k a, A, s, N, M, A, s, N, M) := by
  have := down_l3 F h5 k.toNat a (by omega) ha _ 0 0 rfl (by omega) (by omega) (fun p h => by rw [Nat.zero_testBit] at h; cases h)
  rw [show ((k.toNat : Nat) : Int) = k by omega] at this
  exact this
abbrev RD := Int × Int × Bool × Int × Int × List (List Int) × List Int × Int × Int × Int × List (List Int) × List Int × List (List Int) × List Int
/-- The program's search downwards. -/
noncomputable def sysD (F : Fit A s N M) (h5 : N.length ≤ 5) : Sys A.toNat (nfD A N) (mkH N M) V32 32 RD where
  g8 a L k row X Y := fun n => det_Explore_int__3.l8 n A 64 k A (a : Int) A s N M (goodN N M : Int) A s N M 0 0 A 0 (nmk KI L) L (padI A.toNat row) [] [] X Y
  g4 L X Y := fun n => det_Explore_int__3.l4 n A 64 A s N M (goodN N M : Int) A s N M 0 0 A 0 (nmk KI L) L [] [] X Y
  fin X Y := fun _ => some (A, 0, true, A, s, N, M, (goodN N M : Int), A, s, N, M, X, Y)
  known a L k row X Y r i ha K hk hr hx hkx hi e E := by
    have a4 := F.a4
    have hm : mhas KI (.int .i64) (nmk KI L) (nfD A N k a) = true := nmk_hit (K := KI) ki_beq (show nfD A N k a ∈ L from e ▸ List.getElem_mem hi)
    have hg : mget KI (.int .i64) (nmk KI L) (nfD A N k a) = (i : Int) := nmk_get (K := KI) ki_beq K.nd hi e
    have hp := pad_len (A := A.toNat) (row := row) (by omega)
    refine Ev.step (fun n => by rw [det_Explore_int__3.l8, if_pos (show (a : Int) < A by omega)]) (Ev.bind (down_f F h5 (K.v k hk) a (by omega)) ?_)
    simp only [hm, if_true, hg]
    refine Ev.step (fun n => ?_) E
    rw [det_Explore_int__3.j18, if_pos (by omega), if_pos (by omega), wrSucc a (by omega), Int.toNat_natCast]
    have := pad_set (A := A.toNat) (row := row) (i : Int) (by omega)
    rw [hr] at this
    rw [this]
  new a L k row X Y r ha K hk hr hx hkx hn K2' E := by
    have a4 := F.a4
    have hm : mhas KI (.int .i64) (nmk KI L) (nfD A N k a) = false := nmk_miss (K := KI) ki_beq hn
    have hg : mput KI (.int .i64) (nmk KI L) (nfD A N k a) (L.length : Int) = nmk KI (L ++ [nfD A N k a]) := nmk_put (K := KI) ki_beq hn
    have hp := pad_len (A := A.toNat) (row := row) (by omega)
    have hle := K.le
    have hle2 := K2'.le
    rw [List.length_append, List.length_singleton] at hle2
    refine Ev.step (fun n => by rw [det_Explore_int__3.l8, if_pos (show (a : Int) < A by omega)]) (Ev.bind (down_f F h5 (K.v k hk) a (by omega)) ?_)
    simp only [hm, Bool.false_eq_true, if_false, hg, if_neg (show ¬ (L.length : Int) = 64 by omega), if_pos (short (L ++ [nfD A N k a]).length (by rw [List.length_append, List.length_singleton]; omega))]
    refine Ev.step (fun n => ?_) E
    rw [det_Explore_int__3.j18, if_pos (by omega), if_pos (by omega), wrSucc a (by omega), Int.toNat_natCast]
    have := pad_set (A := A.toNat) (row := row) (L.length : Int) (by omega)
    rw [hr] at this
    rw [this]
  done L k row X Y r K hk hr hx hkx hy E := by
    have a4 := F.a4; have a1 := F.a1
    have hle := K.le
    refine Ev.step (fun n => ?_) E
    rw [det_Explore_int__3.l8, if_neg (by omega), pad_full hr, if_pos (short _ (by rw [List.length_append, List.length_singleton]; omega)), mark_ev _ (good_ok h5) h5 (K.v k hk), Option.bind_some]
    exact if_pos (short _ (by rw [List.length_append, List.length_singleton]; omega))
  start L X Y r h K hy E := by
    have a4 := F.a4; have a1 := F.a1
    refine Ev.step (fun n => ?_) E
    have e : L.getD X.length (Int.ofNat 0) = L[X.length] := by rw [List.getD_eq_getElem?_getD, List.getElem?_eq_getElem h]; rfl
    rw [det_Explore_int__3.l4, if_pos (by omega), if_pos (by omega), if_pos (by omega), if_pos (by omega), if_pos (by omega), if_pos (by omega), Int.toNat_natCast, e]
    rfl
  stop L X Y r K h hy E := by
    refine Ev.step (fun n => ?_) E
    rw [det_Explore_int__3.l4, if_neg (by omega)]
end Go.Proofs.YtiiioobebeaafaaSx.DC
namespace Go.Proofs.YtiiioobebeaafaaSx.DC
variable {A s : Int} {N : List (List Int)} {M : List Int}
/-- A list of truths as bits. -/
def sv (l : List Bool) : Nat → Nat → Nat → Nat
  | 0, _, acc => acc
  | m + 1, i, acc => sv l m (i + 1) (if l.getD i false = true then acc ||| 2 ^ i else acc)
theorem sv_lt {l : List Bool} : ∀ m i acc, acc < 32 → i + m ≤ 5 → sv l m i acc < 32 := by
  intro m
  induction m with
  | zero => intro i acc h _; exact h
  | succ m ih =>
    intro i acc h hi
    rw [sv]
    refine ih _ _ ?_ (by omega)
    by_cases hb : l.getD i false = true
    · rw [if_pos hb]; exact or_lt h (pow_lt5 (by omega))
    · rw [if_neg hb]; exact h
theorem sv_bit {l : List Bool} {p : Nat} : ∀ m i acc, (sv l m i acc).testBit p = true ↔ acc.testBit p = true ∨ (i ≤ p ∧ p < i + m ∧ l.getD p false = true) := by
  intro m
  induction m with
  | zero => intro i acc; rw [sv]; constructor
            · intro h; exact .inl h
            · rintro (h | ⟨h1, h2, _⟩)
              · exact h
              · omega
  | succ m ih =>
    intro i acc
    rw [sv, ih]
    constructor
    · rintro (h | ⟨h1, h2, h3⟩)
      · by_cases hb : l.getD i false = true
        · rw [if_pos hb, bit_or, bit_pow] at h
          rcases h with h | h
          · exact .inl h
          · subst h; exact .inr ⟨by omega, by omega, hb⟩
        · rw [if_neg hb] at h; exact .inl h
      · exact .inr ⟨by omega, by omega, h3⟩
    · rintro (h | ⟨h1, h2, h3⟩)
      · left
        by_cases hb : l.getD i false = true
        · rw [if_pos hb, bit_or]; exact .inl h
        · rw [if_neg hb]; exact h
      · by_cases e : p = i
        · subst e; left; rw [if_pos h3, bit_or, bit_pow]; exact .inr rfl
        · exact .inr ⟨by omega, by omega, h3⟩
theorem set_l3 (l : List Bool) (hl : l.length ≤ 5) : ∀ (n q acc : Nat), l.length - q = n → q ≤ l.length → acc < 32 → Ev (fun k => evermoreref32_set.l3 k l (acc : Int) (q : Int)) ((sv l n q acc : Nat) : Int) := by
  intro n
  induction n with
  | zero =>
    intro q acc hn hq hacc
    refine Ev.step (h := fun _ => some (acc : Int)) (fun k => ?_) (Ev.now _)
    rw [evermoreref32_set.l3, if_neg (by omega)]
  | succ n ih =>
    intro q acc hn hq hacc
    rw [sv]
    have j4 : ∀ x : Int, ∀ k, evermoreref32_set.j4 (k + 1) l x (q : Int) = evermoreref32_set.l3 k l x ((q + 1 : Nat) : Int) := by
      intro x k; rw [evermoreref32_set.j4, wrSucc q (by omega)]
    have hr : rd false l (q : Int) = l.getD q false := rd_nat _ _ _
    by_cases hb : l.getD q false = true
    · rw [if_pos hb]
      refine Ev.step (h := fun k => evermoreref32_set.j4 k l ((acc ||| 2 ^ q : Nat) : Int) (q : Int)) (fun k => ?_) (Ev.step (j4 _) (ih (q + 1) _ (by omega) (by omega) (or_lt hacc (pow_lt5 (by omega)))))
      rw [evermoreref32_set.l3, if_pos (by omega), if_pos (by omega), if_pos (by omega), hr, if_pos hb, if_pos (by omega), Int.toNat_natCast]
      show evermoreref32_set.j4 k l (gor (acc : Int) (gshl 1 q)) (q : Int) = _
      rw [gshl_one (by omega), gor_eq hacc (pow_lt5 (by omega))]
    · rw [if_neg hb]
      refine Ev.step (h := fun k => evermoreref32_set.j4 k l (acc : Int) (q : Int)) (fun k => ?_) (Ev.step (j4 _) (ih (q + 1) _ (by omega) (by omega) hacc))
      rw [evermoreref32_set.l3, if_pos (by omega), if_pos (by omega), if_pos (by omega), hr, if_neg hb]
/-- What each state may stand for. -/
structure LeadOk (n : Nat) (Rel : Nat → Nat → Prop) (lead : List (List Bool)) (m : Nat) : Prop where
  len : lead.length = m
  row : ∀ p, p < m → (lead.getD p []).length = n ∧ ∀ r, r < n → ((lead.getD p []).getD r false = true ↔ Rel p r)
def SVf (n : Nat) (lead : List (List Bool)) (p : Nat) : Nat := sv (lead.getD p []) n 0 0
theorem svf_ok {n : Nat} {Rel : Nat → Nat → Prop} {lead : List (List Bool)} (H : LeadOk n Rel lead n) (h5 : n ≤ 5) (hR : ∀ p r, p < n → Rel p r → r < n) {p : Nat} (hp : p < n) : SVf n lead p < 32 ∧ (∀ r, (SVf n lead p).testBit r = true ↔ Rel p r) ∧ Ev (fun k => evermoreref32_set.f k (lead.getD p [])) ((SVf n lead p : Nat) : Int) := by
  obtain ⟨h1, h2⟩ := H.row p hp
  refine ⟨sv_lt _ _ _ (by omega) (by omega), fun r => ?_, ?_⟩
  · rw [SVf, sv_bit, Nat.zero_testBit]
    constructor
    · rintro (h | ⟨_, h3, h4⟩)
      · cases h
      · exact (h2 r (by omega)).1 h4
    · intro h
      have hr := hR p r hp h
      exact .inr ⟨by omega, by omega, (h2 r hr).2 h⟩
  · have := set_l3 (lead.getD p []) (by omega) _ 0 0 rfl (by omega) (by omega)
    rw [Nat.sub_zero, h1] at this
    exact this
/-- The numbers of what was come to. -/
def numA (L : List Int) : List Int := (List.range 32).map fun v : Nat => if L.findIdx (fun x => decide ((v : Int) = x)) < L.length then ((L.findIdx (fun x => decide ((v : Int) = x)) + 1 : Nat) : Int) else 0
theorem numA_len (L : List Int) : (numA L).length = 32 := by simp [numA]
theorem numA_getD (L : List Int) {v : Nat} (hv : v < 32) : (numA L).getD v 0 = if L.findIdx (fun x => decide ((v : Int) = x)) < L.length then ((L.findIdx (fun x => decide ((v : Int) = x)) + 1 : Nat) : Int) else 0 := by
  rw [numA, List.getD_eq_getElem?_getD, List.getElem?_map, List.getElem?_range hv]; rfl
theorem fidx_mem (L : List Int) (x : Int) : L.findIdx (fun y => decide (x = y)) < L.length ↔ x ∈ L := by
  rw [List.findIdx_lt_length]
  constructor
  · rintro ⟨y, hy, e⟩; rw [decide_eq_true_iff] at e; rw [e]; exact hy
  · intro h; exact ⟨x, h, by simp⟩
theorem numA_hit {L : List Int} (hn : L.Nodup) {i : Nat} (hi : i < L.length) {v : Nat} (hv : v < 32) (e : L[i] = (v : Int)) : (numA L).getD v 0 = ((i + 1 : Nat) : Int) := by
  have h1 : L.findIdx (fun x => decide ((v : Int) = x)) = i := by
    have := findIdx_int L hn i hi
    rw [List.getD_eq_getElem?_getD, List.getElem?_eq_getElem hi, Option.getD_some, e] at this; exact this
  rw [numA_getD L hv, h1, if_pos hi]
theorem numA_miss {L : List Int} {v : Nat} (hv : v < 32) (h : (v : Int) ∉ L) : (numA L).getD v 0 = 0 := by
  rw [numA_getD L hv, if_neg fun h' => h ((fidx_mem L _).1 h')]
theorem fidx_app (L : List Int) (x y : Int) : (L ++ [y]).findIdx (fun z => decide (x = z)) = if x ∈ L then L.findIdx (fun z => decide (x = z)) else if x = y then L.length else L.length + 1 := by
  induction L with
  | nil => simp only [List.nil_append, List.findIdx_cons, List.findIdx_nil]; by_cases h : x = y <;> simp [h]
  | cons a L ih =>
    rw [List.cons_append, List.findIdx_cons, List.findIdx_cons, ih]
    by_cases h : x = a
    · simp [h]
    · simp only [h, decide_false, cond_false, List.mem_cons, false_or, List.length_cons]
      by_cases h2 : x ∈ L
      · simp [h2]
      · by_cases h3 : x = y
        · subst h3; simp [h2]
        · simp [h2, h3]
theorem numA_set {L : List Int} {v : Nat} (hv : v < 32) (h : (v : Int) ∉ L) : (numA L).set v ((L.length + 1 : Nat) : Int) = numA (L ++ [(v : Int)]) := by
  apply List.ext_getElem (by rw [List.length_set, numA_len, numA_len])
  intro i h1 h2
  rw [numA_len] at h2
  rw [List.getElem_set]
  have g : ∀ L' : List Int, ∀ hh : i < (numA L').length, (numA L')[i] = (numA L').getD i 0 := fun L' hh => by rw [List.getD_eq_getElem?_getD, List.getElem?_eq_getElem hh]; rfl
  by_cases e : v = i
  · subst e
    rw [if_pos rfl, g _ (by rw [numA_len]; exact h2), numA_getD _ h2, fidx_app, if_neg h, if_pos rfl, if_pos (by simp)]
  · rw [if_neg e, g _ (by rw [numA_len]; exact h2), g _ (by rw [numA_len]; exact h2), numA_getD _ h2, numA_getD _ h2, fidx_app]
    by_cases hm : (i : Int) ∈ L
    · have hx := (fidx_mem L (i : Int)).2 hm
      rw [if_pos hm, if_pos hx, if_pos (by rw [List.length_append]; omega)]
    · have hx : ¬ L.findIdx (fun x => decide ((i : Int) = x)) < L.length := fun h' => hm ((fidx_mem L _).1 h')
      rw [if_neg hm, if_neg (show ¬ (i : Int) = (v : Int) by omega), if_neg hx, if_neg (by simp)]
section
variable (F : Fit A s N M) (h5 : N.length ≤ 5) (up : Bool) {Rel : Nat → Nat → Prop} {lead : List (List Bool)} (H : LeadOk N.length Rel lead N.length) (hR : ∀ p r, p < N.length → Rel p r → r < N.length)
abbrev RW := Int × Int × List (List Int) × List Int
include F h5 H hR
/-- Where a letter leads, in the reference. -/
theorem wd36 (L : List Int) (k : Int) (i a : Nat) (hi : i < L.length) (hk : L[i] = k) (hv : V32 k) (ha : (a : Int) < A) (row : List Int) (X : List (List Int)) (Y : List Int) (r : RW) : ∀ (n q acc : Nat), N.length - q = n → q ≤ N.length → acc < 32 →
    (Ev (fun m => if (numA L).getD (fo k.toNat (fun q => SVf N.length lead (nx N q a)) n q acc) 0 = 0 then
        (if (L ++ [((fo k.toNat (fun q => SVf N.length lead (nx N q a)) n q acc : Nat) : Int)]).length.blt 1000000000 = true then
        evermoreref32_Wide.j44 m up (N.length : Int) (i : Int) (a : Int) ((fo k.toNat (fun q => SVf N.length lead (nx N q a)) n q acc : Nat) : Int) A s N M 0 0 lead ((numA L).set (fo k.toNat (fun q => SVf N.length lead (nx N q a)) n q acc) (((L ++ [((fo k.toNat (fun q => SVf N.length lead (nx N q a)) n q acc : Nat) : Int)]).length : Nat) : Int)) (L ++ [((fo k.toNat (fun q => SVf N.length lead (nx N q a)) n q acc : Nat) : Int)]) A 0 row [] [] X Y else none)
      else evermoreref32_Wide.j44 m up (N.length : Int) (i : Int) (a : Int) ((fo k.toNat (fun q => SVf N.length lead (nx N q a)) n q acc : Nat) : Int) A s N M 0 0 lead (numA L) L A 0 row [] [] X Y) r) →
    Ev (fun m => evermoreref32_Wide.l36 m up (N.length : Int) (i : Int) (a : Int) (acc : Int) (q : Int) A s N M 0 0 lead (numA L) L A 0 row [] [] X Y) r := by
  have hge : L.getD i (Int.ofNat 0) = ((k.toNat : Nat) : Int) := by rw [List.getD_eq_getElem?_getD, List.getElem?_eq_getElem hi, Option.getD_some, hk]; have := hv.1; omega
  have hk32 : k.toNat < 32 := by have := hv.1; have := hv.2; omega
  intro n
  induction n with
  | zero =>
    intro q acc hn hq hacc E
    rw [fo] at E
    refine Ev.step (fun m => ?_) E
    have hl := numA_len L
    rw [evermoreref32_Wide.l36, if_neg (by omega), if_pos (by omega), if_pos (by omega), Int.toNat_natCast]
    by_cases hz : (numA L).getD acc 0 = 0
    · rw [if_pos (show (numA L).getD acc (Int.ofNat 0) = 0 from hz), if_pos hz, if_pos (show (0 : Int) ≤ (acc : Int) by omega), if_pos (show (acc : Int) < ((numA L).length : Int) by omega)]
    · rw [if_neg (show ¬ (numA L).getD acc (Int.ofNat 0) = 0 from hz), if_neg hz]
  | succ n ih =>
    intro q acc hn hq hacc E
    rw [fo] at E
    have hr := F.row q (by omega)
    obtain ⟨e2, hlt⟩ := rd_nx F (show q < N.length by omega) ha
    have e1 : rd [] N (q : Int) = N.getD q [] := rd_nat _ _ _
    obtain ⟨s1, s2, s3⟩ := svf_ok H h5 hR hlt
    have hll := H.len
    have j37 : ∀ x : Int, ∀ m, evermoreref32_Wide.j37 (m + 1) up (N.length : Int) (i : Int) (a : Int) x (q : Int) A s N M 0 0 lead (numA L) L A 0 row [] [] X Y = evermoreref32_Wide.l36 m up (N.length : Int) (i : Int) (a : Int) x ((q + 1 : Nat) : Int) A s N M 0 0 lead (numA L) L A 0 row [] [] X Y := by
      intro x m; rw [evermoreref32_Wide.j37, wrSucc q (by omega)]
    by_cases hb : k.toNat.testBit q = true
    · rw [if_pos hb] at E
      refine Ev.step (h := fun m => (evermoreref32_set.f m (lead.getD (nx N q a) [])).bind fun r13 => evermoreref32_Wide.j37 m up (N.length : Int) (i : Int) (a : Int) (gor (acc : Int) r13) (q : Int) A s N M 0 0 lead (numA L) L A 0 row [] [] X Y) (fun m => ?_) (Ev.bind s3 ?_)
      · rw [evermoreref32_Wide.l36, if_pos (by omega), if_pos (by omega), if_pos (by omega), if_pos (by omega), Int.toNat_natCast, Int.toNat_natCast, hge]
        refine Eq.trans (if_pos ((gbit_iff hk32 (by omega)).2 hb)) ?_
        rw [if_pos (by omega), if_pos (by omega), if_pos (by omega), e1, if_pos (by omega), e2, if_pos (by omega), if_pos (by omega), Int.toNat_natCast]
        rfl
      · rw [gor_eq hacc s1]
        exact Ev.step (j37 _) (ih (q + 1) _ (by omega) (by omega) (or_lt hacc s1) E)
    · rw [if_neg hb] at E
      refine Ev.step (h := fun m => evermoreref32_Wide.j37 m up (N.length : Int) (i : Int) (a : Int) (acc : Int) (q : Int) A s N M 0 0 lead (numA L) L A 0 row [] [] X Y) (fun m => ?_) (Ev.step (j37 _) (ih (q + 1) _ (by omega) (by omega) hacc E))
      rw [evermoreref32_Wide.l36, if_pos (by omega), if_pos (by omega), if_pos (by omega), if_pos (by omega), Int.toNat_natCast, Int.toNat_natCast, hge]
      exact if_neg fun h => hb ((gbit_iff hk32 (by omega)).1 h)
end
section
variable (F : Fit A s N M) (h5 : N.length ≤ 5) (up : Bool) {lead : List (List Bool)}
include F h5
/-- The mark, in the reference. -/
theorem wd48 (L : List Int) (k : Int) (i : Nat) (hi : i < L.length) (hk : L[i] = k) (hv : V32 k) (X : List (List Int)) (Y : List Int) (hY : Y.length ≤ 100) (hL : L.length ≤ 32) (r : RW)
    (E : Ev (fun m => evermoreref32_Wide.l26 m up (N.length : Int) ((i + 1 : Nat) : Int) A s N M 0 0 lead (numA L) L A 0 [] [] X (Y ++ [mkH N M k])) r) : ∀ (n q : Nat) (mk : Int), N.length - q = n → q ≤ N.length →
    (mk = 1 ∨ mk = 0) → (mk = 1 → (List.range N.length).any (fun q => k.toNat.testBit q && decide (M.getD q 0 = 1)) = true) → (mk = 0 → ∀ p, p < q → ¬ (k.toNat.testBit p = true ∧ M.getD p 0 = 1)) →
    Ev (fun m => evermoreref32_Wide.l48 m up (N.length : Int) (i : Int) mk (q : Int) A s N M 0 0 lead (numA L) L A 0 [] [] X Y) r := by
  have hge : L.getD i (Int.ofNat 0) = ((k.toNat : Nat) : Int) := by rw [List.getD_eq_getElem?_getD, List.getElem?_eq_getElem hi, Option.getD_some, hk]; have := hv.1; omega
  have hk32 : k.toNat < 32 := by have := hv.1; have := hv.2; omega
  intro n
  induction n with
  | zero =>
    intro q mk hn hq h01 h1 h0
    have hmk : mkH N M k = mk := by
      rw [mkH]
      rcases h01 with h | h
      · rw [if_pos (h1 h), h]
      · rw [if_neg, h]
        rw [List.any_eq_true]
        rintro ⟨p, hp, hb⟩
        rw [Bool.and_eq_true, decide_eq_true_iff] at hb
        exact h0 h p (by have := List.mem_range.1 hp; omega) hb
    rw [hmk] at E
    refine Ev.step (fun m => ?_) E
    rw [evermoreref32_Wide.l48, if_neg (by omega), if_pos (short _ (by rw [List.length_append, List.length_singleton]; omega)), wrSucc i (by omega)]
  | succ n ih =>
    intro q mk hn hq h01 h1 h0
    have hm := F.m
    have j49 : ∀ x : Int, ∀ m, evermoreref32_Wide.j49 (m + 1) up (N.length : Int) (i : Int) x (q : Int) A s N M 0 0 lead (numA L) L A 0 [] [] X Y = evermoreref32_Wide.l48 m up (N.length : Int) (i : Int) x ((q + 1 : Nat) : Int) A s N M 0 0 lead (numA L) L A 0 [] [] X Y := by
      intro x m; rw [evermoreref32_Wide.j49, wrSucc q (by omega)]
    have hrd : rd (Int.ofNat 0) M (q : Int) = M.getD q 0 := rd_nat _ _ _
    by_cases hb : k.toNat.testBit q = true
    · by_cases hq1 : M.getD q 0 = 1
      · refine Ev.step (h := fun m => evermoreref32_Wide.j49 m up (N.length : Int) (i : Int) 1 (q : Int) A s N M 0 0 lead (numA L) L A 0 [] [] X Y) (fun m => ?_) (Ev.step (j49 _) (ih (q + 1) 1 (by omega) (by omega) (.inl rfl) (fun _ => ?_) (fun h => absurd h (by decide))))
        · rw [evermoreref32_Wide.l48, if_pos (by omega), if_pos (by omega), if_pos (by omega), if_pos (by omega), Int.toNat_natCast, Int.toNat_natCast, hge]
          refine Eq.trans (if_pos ((gbit_iff hk32 (by omega)).2 hb)) ?_
          rw [if_pos (by omega), if_pos (by omega), hrd, if_pos hq1]
        · rw [List.any_eq_true]; exact ⟨q, List.mem_range.2 (by omega), by rw [hb, decide_eq_true hq1]; rfl⟩
      · refine Ev.step (h := fun m => evermoreref32_Wide.j49 m up (N.length : Int) (i : Int) mk (q : Int) A s N M 0 0 lead (numA L) L A 0 [] [] X Y) (fun m => ?_) (Ev.step (j49 _) (ih (q + 1) mk (by omega) (by omega) h01 h1 (fun h p hp hh => ?_)))
        · rw [evermoreref32_Wide.l48, if_pos (by omega), if_pos (by omega), if_pos (by omega), if_pos (by omega), Int.toNat_natCast, Int.toNat_natCast, hge]
          refine Eq.trans (if_pos ((gbit_iff hk32 (by omega)).2 hb)) ?_
          rw [if_pos (by omega), if_pos (by omega), hrd, if_neg hq1]
        · by_cases e : p = q
          · subst e; exact hq1 hh.2
          · exact h0 h p (by omega) hh
    · refine Ev.step (h := fun m => evermoreref32_Wide.j49 m up (N.length : Int) (i : Int) mk (q : Int) A s N M 0 0 lead (numA L) L A 0 [] [] X Y) (fun m => ?_) (Ev.step (j49 _) (ih (q + 1) mk (by omega) (by omega) h01 h1 (fun h p hp hh => ?_)))
      · rw [evermoreref32_Wide.l48, if_pos (by omega), if_pos (by omega), if_pos (by omega), if_pos (by omega), Int.toNat_natCast, Int.toNat_natCast, hge]
        exact if_neg fun h => hb ((gbit_iff hk32 (by omega)).1 h)
      · by_cases e : p = q
        · subst e; exact hb hh.1
        · exact h0 h p (by omega) hh
end
/-- What the reference's letter gives. -/
def nfW (N : List (List Int)) (lead : List (List Bool)) (up : Bool) (k : Int) (a : Nat) : Int := ((fo k.toNat (fun q => SVf N.length lead (nx N q a)) N.length 0 (if up = true then k.toNat else 0) : Nat) : Int)
def sysW (F : Fit A s N M) (h5 : N.length ≤ 5) (up : Bool) {Rel : Nat → Nat → Prop} {lead : List (List Bool)} (H : LeadOk N.length Rel lead N.length) (hR : ∀ p r, p < N.length → Rel p r → r < N.length) (nf : Int → Nat → Int) (hnf : ∀ k a, V32 k → a < A.toNat → nf k a = nfW N lead up k a ∧ V32 (nf k a)) : Sys A.toNat nf (mkH N M) V32 32 RW where
  g8 a L k row X Y := fun m => evermoreref32_Wide.l30 m up (N.length : Int) (X.length : Int) (a : Int) A s N M 0 0 lead (numA L) L A 0 row [] [] X Y
  g4 L X Y := fun m => evermoreref32_Wide.l26 m up (N.length : Int) (X.length : Int) A s N M 0 0 lead (numA L) L A 0 [] [] X Y
  fin X Y := fun m => (evermoreref3_Least.f m (A, 0, X, Y, ())).bind fun r3 => some (r3.fst, r3.snd.fst, r3.snd.snd.fst, r3.snd.snd.snd)
  known a L k row X Y r i ha K hk hr hx hkx' hi e E := by
    have a4 := F.a4
    have hkx : L.getD X.length 0 = k := by rw [List.getD_eq_getElem?_getD, hkx']; rfl
    · have hv := K.v k hk
      obtain ⟨f1, f2⟩ := hnf k a hv ha
      have hle := K.le
      have hLx : L[X.length] = k := by rw [← hkx, List.getD_eq_getElem?_getD, List.getElem?_eq_getElem hx]; rfl
      have hgx : L.getD X.length (Int.ofNat 0) = ((k.toNat : Nat) : Int) := by show L.getD X.length 0 = _; rw [hkx]; have := hv.1; omega
      obtain ⟨t, ht⟩ : ∃ t : Nat, t = fo k.toNat (fun q => SVf N.length lead (nx N q a)) N.length 0 (if up = true then k.toNat else 0) := ⟨_, rfl⟩
      have hft : nf k a = (t : Int) := by rw [f1, nfW, ht]
      have ht32 : t < 32 := by have := f2.1; have := f2.2; omega
      have hnum := numA_hit K.nd hi ht32 (e.trans hft)
      have hl := numA_len L
      have main : ∀ acc : Nat, acc = (if up = true then k.toNat else 0) → Ev (fun m => evermoreref32_Wide.j35 m up (N.length : Int) (X.length : Int) (a : Int) (acc : Int) A s N M 0 0 lead (numA L) L A 0 row [] [] X Y) r := by
        intro acc hacc
        have hacc32 : acc < 32 := by rw [hacc]; have := hv.1; have := hv.2; split <;> omega
        refine Ev.step (fun m => by rw [evermoreref32_Wide.j35]; rfl) (wd36 F h5 up H hR L k X.length a hx hLx hv (by omega) row X Y r _ 0 acc rfl (by omega) hacc32 ?_)
        rw [Nat.sub_zero, hacc, ← ht]
        have hnum' : (numA L).getD t (Int.ofNat 0) = ((i + 1 : Nat) : Int) := hnum
        simp only [hnum, if_neg (show ¬ ((i + 1 : Nat) : Int) = 0 by omega)]
        refine Ev.step (fun m => ?_) E
        have hsub : Go.IntKind.i64.wrap (((i + 1 : Nat) : Int) - 1) = (i : Int) := by rw [wr64 _ (by omega) (by omega)]; omega
        rw [evermoreref32_Wide.j44, if_pos (by omega), if_pos (by omega), Int.toNat_natCast, hnum', hsub, if_pos (short _ (by rw [List.length_append, List.length_singleton]; omega)), wrSucc a (by omega)]
      by_cases hu : up = true
      · refine Ev.step (fun m => ?_) (main k.toNat (by rw [if_pos hu]))
        rw [evermoreref32_Wide.l30, if_pos (by omega), if_pos hu, if_pos (by omega), if_pos (by omega), Int.toNat_natCast, hgx]
      · refine Ev.step (fun m => ?_) (main 0 (by rw [if_neg hu]))
        rw [evermoreref32_Wide.l30, if_pos (by omega), if_neg hu]
        rfl
  new a L k row X Y r ha K hk hr hx hkx' hn K2' E := by
    have a4 := F.a4
    have hkx : L.getD X.length 0 = k := by rw [List.getD_eq_getElem?_getD, hkx']; rfl
    · have hv := K.v k hk
      obtain ⟨f1, f2⟩ := hnf k a hv ha
      have hle := K.le
      have hle2 := K2'.le
      rw [List.length_append, List.length_singleton] at hle2
      have hLx : L[X.length] = k := by rw [← hkx, List.getD_eq_getElem?_getD, List.getElem?_eq_getElem hx]; rfl
      have hgx : L.getD X.length (Int.ofNat 0) = ((k.toNat : Nat) : Int) := by show L.getD X.length 0 = _; rw [hkx]; have := hv.1; omega
      obtain ⟨t, ht⟩ : ∃ t : Nat, t = fo k.toNat (fun q => SVf N.length lead (nx N q a)) N.length 0 (if up = true then k.toNat else 0) := ⟨_, rfl⟩
      have hft : nf k a = (t : Int) := by rw [f1, nfW, ht]
      have ht32 : t < 32 := by have := f2.1; have := f2.2; omega
      rw [hft] at hn E K2'
      have hnum := numA_miss ht32 hn
      have hset := numA_set ht32 hn
      have hhit := numA_hit K2'.nd (i := L.length) (by simp) ht32 (by simp)
      have hl := numA_len (L ++ [(t : Int)])
      have main : ∀ acc : Nat, acc = (if up = true then k.toNat else 0) → Ev (fun m => evermoreref32_Wide.j35 m up (N.length : Int) (X.length : Int) (a : Int) (acc : Int) A s N M 0 0 lead (numA L) L A 0 row [] [] X Y) r := by
        intro acc hacc
        have hacc32 : acc < 32 := by rw [hacc]; have := hv.1; have := hv.2; split <;> omega
        refine Ev.step (fun m => by rw [evermoreref32_Wide.j35]; rfl) (wd36 F h5 up H hR L k X.length a hx hLx hv (by omega) row X Y r _ 0 acc rfl (by omega) hacc32 ?_)
        rw [Nat.sub_zero, hacc, ← ht]
        have hlen : (L ++ [(t : Int)]).length = L.length + 1 := by simp
        simp only [hnum, if_true, hlen, if_pos (short (L.length + 1) (by omega)), hset]
        have hhit' : (numA (L ++ [(t : Int)])).getD t (Int.ofNat 0) = ((L.length + 1 : Nat) : Int) := hhit
        refine Ev.step (fun m => ?_) E
        have hsub : Go.IntKind.i64.wrap (((L.length + 1 : Nat) : Int) - 1) = (L.length : Int) := by rw [wr64 _ (by omega) (by omega)]; omega
        rw [evermoreref32_Wide.j44, if_pos (by omega), if_pos (by omega), Int.toNat_natCast, hhit', hsub, if_pos (short _ (by rw [List.length_append, List.length_singleton]; omega)), wrSucc a (by omega)]
      by_cases hu : up = true
      · refine Ev.step (fun m => ?_) (main k.toNat (by rw [if_pos hu]))
        rw [evermoreref32_Wide.l30, if_pos (by omega), if_pos hu, if_pos (by omega), if_pos (by omega), Int.toNat_natCast, hgx]
      · refine Ev.step (fun m => ?_) (main 0 (by rw [if_neg hu]))
        rw [evermoreref32_Wide.l30, if_pos (by omega), if_neg hu]
        rfl
  done L k row X Y r K hk hr hx hkx' hy E := by
    have a4 := F.a4; have a1 := F.a1
    have hle := K.le
    have hkx : L.getD X.length 0 = k := by rw [List.getD_eq_getElem?_getD, hkx']; rfl
    · have hv := K.v k hk
      have hLx : L[X.length] = k := by rw [← hkx, List.getD_eq_getElem?_getD, List.getElem?_eq_getElem hx]; rfl
      refine Ev.step (fun m => ?_) (wd48 F h5 up (lead := lead) L k X.length hx hLx hv (X ++ [row]) Y (by omega) hle r ?_ _ 0 0 rfl (by omega) (.inr rfl) (fun h => absurd h (by decide)) (fun _ p hp => by omega))
      · rw [evermoreref32_Wide.l30, if_neg (by omega), if_pos (short _ (by rw [List.length_append, List.length_singleton]; omega))]
        rfl
      · rw [List.length_append, List.length_singleton] at E
        exact E

  start L X Y r h K hy E := by
    have a4 := F.a4; have a1 := F.a1
    refine Ev.step (fun n => ?_) E
    rw [evermoreref32_Wide.l26, if_pos (by omega)]
    rfl
  stop L X Y r K h hy E := by
    refine Ev.step (fun n => ?_) E
    rw [evermoreref32_Wide.l26, if_neg (by omega)]
end Go.Proofs.YtiiioobebeaafaaSx.DC
namespace Go.Proofs.YtiiioobebeaafaaSx.DC
variable {A s : Int} {N : List (List Int)} {M : List Int}
theorem getD_setB (l : List Bool) (x y : Nat) (v : Bool) : (l.set x v).getD y false = if x = y ∧ y < l.length then v else l.getD y false := by
  rw [List.getD_eq_getElem?_getD, List.getD_eq_getElem?_getD, List.getElem?_set]
  by_cases h : x = y
  · subst h
    by_cases h2 : x < l.length
    · simp [h2]
    · simp [h2]
  · simp [h]
theorem getD_appL (l : List (List Bool)) (b : List Bool) (i : Nat) (h : i < l.length) : (l ++ [b]).getD i [] = l.getD i [] := by
  rw [List.getD_eq_getElem?_getD, List.getElem?_append_left h, ← List.getD_eq_getElem?_getD]
theorem getD_lastL (l : List (List Bool)) (b : List Bool) : (l ++ [b]).getD l.length [] = b := by
  rw [List.getD_eq_getElem?_getD, List.getElem?_append_right (Nat.le_refl _), Nat.sub_self]; rfl
theorem LeadOk.push {n m : Nat} {Rel : Nat → Nat → Prop} {lead : List (List Bool)} (H : LeadOk n Rel lead m) {l : List Bool} (hl : l.length = n) (h : ∀ r, r < n → (l.getD r false = true ↔ Rel m r)) : LeadOk n Rel (lead ++ [l]) (m + 1) := by
  have hlen := H.len
  refine ⟨by simp [hlen], fun p hp => ?_⟩
  by_cases e : p < m
  · rw [getD_appL _ _ _ (by omega)]; exact H.row p e
  · have : p = lead.length := by omega
    rw [this, getD_lastL]
    rw [show lead.length = m from hlen]
    exact ⟨hl, h⟩
/-- One letter behind a state. -/
theorem w15 (F : Fit A s N M) (h5 : N.length ≤ 5) (q p : Nat) (hp : p < N.length) (lead : List (List Bool)) : ∀ (n a : Nat) (l : List Bool) (ag : Bool), A.toNat - a = n → (a : Int) ≤ A → l.length = N.length → l.getD p false = true →
    ∃ l' ag', l'.length = N.length ∧ (∀ r, l.getD r false = true → l'.getD r false = true) ∧ (∀ r, l'.getD r false = true → l.getD r false = true ∨ ∃ b : Nat, (b : Int) < A ∧ nx N p b = r) ∧
      (ag' = false → ag = false ∧ l' = l ∧ ∀ b : Nat, a ≤ b → (b : Int) < A → l.getD (nx N p b) false = true) ∧ (ag' = true → ag = true ∨ ∃ r, r < N.length ∧ l'.getD r false = true ∧ l.getD r false = false) ∧
      (∀ R : RW, Ev (fun m => evermoreref32_Wide.l12 m false (N.length : Int) (q : Int) ag' ((p + 1 : Nat) : Int) A s N M 0 0 lead l' [] []) R → Ev (fun m => evermoreref32_Wide.l15 m false (N.length : Int) (q : Int) ag (p : Int) (a : Int) A s N M 0 0 lead l [] []) R) := by
  have a4 := F.a4
  have hr := F.row p hp
  have e1 : rd [] N (p : Int) = N.getD p [] := rd_nat _ _ _
  intro n
  induction n with
  | zero =>
    intro a l ag hn ha hl hlp
    refine ⟨l, ag, hl, fun r h => h, fun r h => .inl h, fun h => ⟨h, rfl, fun b h1 h2 => by omega⟩, fun h => .inl h, fun R E => Ev.step (fun m => ?_) E⟩
    rw [evermoreref32_Wide.l15, if_neg (by omega), wrSucc p (by omega)]
  | succ n ih =>
    intro a l ag hn ha hl hlp
    have haA : (a : Int) < A := by omega
    obtain ⟨e2, hlt⟩ := rd_nx F hp haA
    obtain ⟨t, ht⟩ : ∃ t, t = nx N p a := ⟨_, rfl⟩
    rw [← ht] at e2 hlt
    have hlp2 : (l.set t true).getD p false = true := by rw [getD_setB]; split <;> first | rfl | exact hlp
    have hsub : ∀ r, l.getD r false = true → (l.set t true).getD r false = true := by intro r h; rw [getD_setB]; split <;> first | rfl | exact h
    have hlp' : l.getD (p : Int).toNat false = true := hlp
    cases ag with
    | true =>
      obtain ⟨l', ag', c1, c2, c3, c4, c5, c6⟩ := ih (a + 1) (l.set t true) true (by omega) (by omega) (by rw [List.length_set]; exact hl) hlp2
      refine ⟨l', ag', c1, fun r h => c2 r (hsub r h), fun r h => ?_, fun h => (by have := (c4 h).1; cases this), fun h => .inl rfl, fun R E => Ev.step (fun m => ?_) (c6 R E)⟩
      · rcases c3 r h with h' | h'
        · rw [getD_setB] at h'
          split at h'
          · rename_i hx; exact .inr ⟨a, haA, by omega⟩
          · exact .inl h'
        · exact .inr h'
      · rw [evermoreref32_Wide.l15, if_pos haA, if_pos (by omega), if_pos (by omega), if_pos hlp', if_pos rfl, if_pos (by omega), if_pos (by omega), if_pos (by omega), e1, if_pos (by omega), e2, if_pos (by omega), if_pos (by omega), Int.toNat_natCast, wrSucc a (by omega)]
    | false =>
      obtain ⟨l', ag', c1, c2, c3, c4, c5, c6⟩ := ih (a + 1) (l.set t true) (!l.getD t false) (by omega) (by omega) (by rw [List.length_set]; exact hl) hlp2
      refine ⟨l', ag', c1, fun r h => c2 r (hsub r h), fun r h => ?_, fun h => ?_, fun h => ?_, fun R E => Ev.step (fun m => ?_) (c6 R E)⟩
      · rcases c3 r h with h' | h'
        · rw [getD_setB] at h'
          split at h'
          · rename_i hx; exact .inr ⟨a, haA, by omega⟩
          · exact .inl h'
        · exact .inr h'
      · obtain ⟨d1, d2, d3⟩ := c4 h
        have hlt2 : l.getD t false = true := by cases hx : l.getD t false with
          | true => rfl
          | false => rw [hx] at d1; cases d1
        have hself : l.set t true = l := by
          apply List.ext_getElem (by simp)
          intro i h1 h2
          rw [List.getElem_set]
          by_cases e : t = i
          · subst e
            rw [if_pos rfl]
            rw [List.getD_eq_getElem?_getD, List.getElem?_eq_getElem h2] at hlt2
            exact hlt2.symm
          · rw [if_neg e]
        rw [hself] at d2 d3
        refine ⟨rfl, d2, fun b hb hb2 => ?_⟩
        by_cases e : b = a
        · rw [e, ← ht]; exact hlt2
        · exact d3 b (by omega) hb2
      · rcases c5 h with h' | ⟨r, r1, r2, r3⟩
        · refine .inr ⟨t, hlt, c2 t ?_, ?_⟩
          · rw [getD_setB, if_pos ⟨rfl, by omega⟩]
          · cases hx : l.getD t false with
            | true => rw [hx] at h'; cases h'
            | false => rfl
        · refine .inr ⟨r, r1, r2, ?_⟩
          rw [getD_setB] at r3
          split at r3
          · cases r3
          · exact r3
      · rw [evermoreref32_Wide.l15, if_pos haA, if_pos (by omega), if_pos (by omega), if_pos hlp', if_neg (by decide), if_pos (by omega), if_pos (by omega), if_pos (by omega), e1, if_pos (by omega), e2, if_pos (by omega), if_pos (by omega), if_pos (by omega), if_pos (by omega), if_pos (by omega), if_pos (by omega), if_pos (by omega), if_pos (by omega), Int.toNat_natCast, wrSucc a (by omega)]
theorem w12 (F : Fit A s N M) (h5 : N.length ≤ 5) (q : Nat) (lead : List (List Bool)) : ∀ (n p : Nat) (l : List Bool) (ag : Bool), N.length - p = n → p ≤ N.length → l.length = N.length →
    ∃ l' ag', l'.length = N.length ∧ (∀ r, l.getD r false = true → l'.getD r false = true) ∧ (∀ r, l'.getD r false = true → (∀ P : Nat → Prop, (∀ x, l.getD x false = true → P x) → (∀ x (b : Nat), P x → (b : Int) < A → P (nx N x b)) → P r)) ∧
      (ag' = false → ag = false ∧ l' = l ∧ ∀ x, p ≤ x → x < N.length → l.getD x false = true → ∀ b : Nat, (b : Int) < A → l.getD (nx N x b) false = true) ∧ (ag' = true → ag = true ∨ ∃ r, r < N.length ∧ l'.getD r false = true ∧ l.getD r false = false) ∧
      (∀ R : RW, Ev (fun m => evermoreref32_Wide.l9 m false (N.length : Int) (q : Int) ag' A s N M 0 0 lead l' [] []) R → Ev (fun m => evermoreref32_Wide.l12 m false (N.length : Int) (q : Int) ag (p : Int) A s N M 0 0 lead l [] []) R) := by
  have a1 := F.a1
  intro n
  induction n with
  | zero =>
    intro p l ag hn hp hl
    refine ⟨l, ag, hl, fun r h => h, fun r h P h1 _ => h1 r h, fun h => ⟨h, rfl, fun x h1 h2 => by omega⟩, fun h => .inl h, fun R E => Ev.step (fun m => ?_) E⟩
    rw [evermoreref32_Wide.l12, if_neg (by omega)]
  | succ n ih =>
    intro p l ag hn hp hl
    by_cases hlp : l.getD p false = true
    · obtain ⟨l1, ag1, c1, c2, c3, c4, c5, c6⟩ := w15 F h5 q p (by omega) lead _ 0 l ag rfl (by omega) hl hlp
      obtain ⟨l', ag', d1, d2, d3, d4, d5, d6⟩ := ih (p + 1) l1 ag1 (by omega) (by omega) c1
      refine ⟨l', ag', d1, fun r h => d2 r (c2 r h), fun r h P h1 h2 => d3 r h P (fun x hx => ?_) h2, fun h => ?_, fun h => ?_, fun R E => Ev.step (fun m => ?_) (c6 R (d6 R E))⟩
      · rcases c3 x hx with h' | ⟨b, h3, h4⟩
        · exact h1 x h'
        · rw [← h4]; exact h2 p b (h1 p hlp) h3
      · obtain ⟨f1, f2, f3⟩ := d4 h
        obtain ⟨g1, g2, g3⟩ := c4 f1
        rw [g2] at f2 f3
        refine ⟨g1, f2, fun x h1 h2 h3 b hb => ?_⟩
        by_cases e : x = p
        · subst e; exact g3 b (by omega) hb
        · exact f3 x (by omega) h2 h3 b hb
      · rcases d5 h with h' | ⟨r, r1, r2, r3⟩
        · rcases c5 h' with h' | ⟨r, r1, r2, r3⟩
          · exact .inl h'
          · exact .inr ⟨r, r1, d2 r r2, r3⟩
        · refine .inr ⟨r, r1, r2, ?_⟩
          cases hx : l.getD r false with
          | false => rfl
          | true => rw [c2 r hx] at r3; cases r3
      · rw [evermoreref32_Wide.l12, if_pos (by omega)]; rfl
    · obtain ⟨l', ag', d1, d2, d3, d4, d5, d6⟩ := ih (p + 1) l ag (by omega) (by omega) hl
      refine ⟨l', ag', d1, d2, d3, fun h => ?_, d5, fun R E => Ev.step (h := fun m => evermoreref32_Wide.l15 m false (N.length : Int) (q : Int) ag (p : Int) 0 A s N M 0 0 lead l [] []) (fun m => ?_) (Ev.step (fun m => ?_) (d6 R E))⟩
      · obtain ⟨f1, f2, f3⟩ := d4 h
        refine ⟨f1, f2, fun x h1 h2 h3 b hb => ?_⟩
        by_cases e : x = p
        · subst e; exact absurd h3 hlp
        · exact f3 x (by omega) h2 h3 b hb
      · rw [evermoreref32_Wide.l12, if_pos (by omega)]
      · have hlp' : ¬ l.getD (p : Int).toNat false = true := hlp
        rw [evermoreref32_Wide.l15, if_pos (by omega), if_pos (by omega), if_pos (by omega), if_neg hlp', wrSucc p (by omega)]
theorem sv_mono {l l' : List Bool} {n : Nat} (hl : l.length = n) (hl' : l'.length = n) (h : ∀ r, l.getD r false = true → l'.getD r false = true) (hd : ∃ r, r < n ∧ l'.getD r false = true ∧ l.getD r false = false) : sv l n 0 0 < sv l' n 0 0 := by
  have hle : sv l n 0 0 ≤ sv l' n 0 0 := by
    have : sv l n 0 0 ||| sv l' n 0 0 = sv l' n 0 0 := bits_eq fun p => by
      rw [bit_or, sv_bit, sv_bit]
      constructor
      · rintro ((h1 | ⟨h1, h2, h3⟩) | h1)
        · rw [Nat.zero_testBit] at h1; cases h1
        · exact .inr ⟨h1, h2, h p h3⟩
        · exact h1
      · exact .inr
    rw [← this]; exact Nat.left_le_or
  obtain ⟨r, r1, r2, r3⟩ := hd
  refine Nat.lt_of_le_of_ne hle fun e => ?_
  have h1 : (sv l' n 0 0).testBit r = true := by rw [sv_bit]; exact .inr ⟨by omega, by omega, r2⟩
  rw [← e, sv_bit, Nat.zero_testBit] at h1
  rcases h1 with h1 | ⟨_, _, h1⟩
  · cases h1
  · rw [r3] at h1; cases h1
theorem w9 (F : Fit A s N M) (h5 : N.length ≤ 5) (q : Nat) (hq : q < N.length) (lead : List (List Bool)) (hlead : lead.length ≤ 100) : ∀ (n : Nat) (l : List Bool), 32 - sv l N.length 0 0 = n → l.length = N.length → l.getD q false = true → (∀ r, l.getD r false = true → Rc A N q r) →
    ∃ l', l'.length = N.length ∧ (∀ r, r < N.length → (l'.getD r false = true ↔ Rc A N q r)) ∧
      (∀ R : RW, Ev (fun m => evermoreref32_Wide.l4 m false (N.length : Int) ((q + 1 : Nat) : Int) A s N M 0 0 (lead ++ [l']) [] []) R → Ev (fun m => evermoreref32_Wide.l9 m false (N.length : Int) (q : Int) true A s N M 0 0 lead l [] []) R) := by
  intro n
  induction n using Nat.strongRecOn with
  | _ n ih =>
    intro l hn hl hlq hrc
    obtain ⟨l', ag', c1, c2, c3, c4, c5, c6⟩ := w12 F h5 q lead _ 0 l false rfl (by omega) hl
    have hrc' : ∀ r, l'.getD r false = true → Rc A N q r := fun r h => c3 r h (Rc A N q) hrc (fun x b hx hb => hx.step b hb)
    have s9 : ∀ (R : RW) (Q : Nat → Option RW), (∀ m, Q m = evermoreref32_Wide.l12 m false (N.length : Int) (q : Int) false 0 A s N M 0 0 lead l [] []) → Ev Q R → Ev (fun m => evermoreref32_Wide.l9 m false (N.length : Int) (q : Int) true A s N M 0 0 lead l [] []) R := by
      intro R Q hQ E
      refine Ev.step (fun m => ?_) E
      rw [hQ, evermoreref32_Wide.l9, if_pos rfl, if_neg (by decide)]
    cases ag' with
    | false =>
      obtain ⟨_, e, hcl⟩ := c4 rfl
      subst e
      refine ⟨l', c1, fun r hr => ⟨hrc' r, fun h => ?_⟩, fun R E => s9 R _ (fun m => rfl) (c6 R (Ev.step (fun m => ?_) E))⟩
      · have : r < N.length ∧ l'.getD r false = true := Rc.closed (fun x => x < N.length ∧ l'.getD x false = true) (fun x b hx hb => ⟨(rd_nx F hx.1 hb).2, hcl x (by omega) hx.1 hx.2 b hb⟩) h ⟨hq, hlq⟩
        exact this.2
      · rw [evermoreref32_Wide.l9, if_neg (by decide), if_pos (short _ (by rw [List.length_append, List.length_singleton]; omega)), wrSucc q (by omega)]
    | true =>
      have hnew := (c5 rfl).resolve_left (by decide)
      have hlt := sv_mono hl c1 c2 hnew
      have h32 : sv l' N.length 0 0 < 32 := sv_lt _ _ _ (by omega) (by omega)
      obtain ⟨l2, d1, d2, d3⟩ := ih (32 - sv l' N.length 0 0) (by omega) l' rfl c1 (c2 q hlq) hrc'
      exact ⟨l2, d1, d2, fun R E => s9 R _ (fun m => rfl) (c6 R (d3 R E))⟩
def RelW (A : Int) (N : List (List Int)) : Bool → Nat → Nat → Prop
  | true, p, r => p = r
  | false, p, r => Rc A N p r
theorem relW_lt (F : Fit A s N M) (up : Bool) (p r : Nat) (hp : p < N.length) (h : RelW A N up p r) : r < N.length := by
  cases up with
  | true => have h : p = r := h; omega
  | false => exact rc_lt F h hp
theorem w4 (F : Fit A s N M) (h5 : N.length ≤ 5) (up : Bool) : ∀ (n q : Nat) (lead : List (List Bool)), N.length - q = n → q ≤ N.length → LeadOk N.length (RelW A N up) lead q →
    ∃ lead', LeadOk N.length (RelW A N up) lead' N.length ∧ (∀ R : RW, Ev (fun m => evermoreref32_Wide.l4 m up (N.length : Int) (N.length : Int) A s N M 0 0 lead' [] []) R → Ev (fun m => evermoreref32_Wide.l4 m up (N.length : Int) (q : Int) A s N M 0 0 lead [] []) R) := by
  intro n
  induction n with
  | zero =>
    intro q lead hn hq H
    have : q = N.length := by omega
    subst this
    exact ⟨lead, H, fun R E => E⟩
  | succ n ih =>
    intro q lead hn hq H
    have hlen := H.len
    obtain ⟨l0, hl0⟩ : ∃ l0, l0 = (List.replicate N.length false).set q true := ⟨_, rfl⟩
    have l0len : l0.length = N.length := by rw [hl0]; simp
    have l0get : ∀ r, l0.getD r false = true ↔ (q = r ∧ r < N.length) := by
      intro r
      rw [hl0, getD_setB, List.length_replicate]
      by_cases h : q = r ∧ r < N.length
      · rw [if_pos h]; simp [h]
      · rw [if_neg h, List.getD_eq_getElem?_getD, List.getElem?_replicate]
        constructor
        · intro h'; split at h' <;> cases h'
        · intro h'; exact absurd h' h
    have s4 : ∀ m, evermoreref32_Wide.l4 (m + 1) up (N.length : Int) (q : Int) A s N M 0 0 lead [] [] = evermoreref32_Wide.l9 m up (N.length : Int) (q : Int) true A s N M 0 0 lead l0 [] [] := by
      intro m
      rw [evermoreref32_Wide.l4, if_pos (by omega), if_pos (by omega), if_pos (by omega), if_pos (by omega), if_pos (by omega), Int.toNat_natCast, if_pos (by rw [List.length_replicate]; omega), Int.toNat_natCast, hl0]
    cases up with
    | true =>
      obtain ⟨lead', d1, d2⟩ := ih (q + 1) (lead ++ [l0]) (by omega) (by omega) (H.push l0len (fun r hr => (l0get r).trans ⟨fun h => h.1, fun h => ⟨h, hr⟩⟩))
      refine ⟨lead', d1, fun R E => Ev.step s4 (Ev.step (fun m => ?_) (d2 R E))⟩
      rw [evermoreref32_Wide.l9, if_pos rfl, if_pos rfl, if_pos (short _ (by rw [List.length_append, List.length_singleton]; omega)), wrSucc q (by omega)]
    | false =>
      obtain ⟨l', c1, c2, c3⟩ := w9 F h5 q (by omega) lead (by omega) _ l0 rfl l0len ((l0get q).2 ⟨rfl, by omega⟩) (fun r h => by rw [← ((l0get r).1 h).1]; exact Rc.refl q)
      obtain ⟨lead', d1, d2⟩ := ih (q + 1) (lead ++ [l']) (by omega) (by omega) (H.push c1 c2)
      exact ⟨lead', d1, fun R E => Ev.step s4 (c3 R (d2 R E))⟩
end Go.Proofs.YtiiioobebeaafaaSx.DC
namespace Go.Proofs.YtiiioobebeaafaaSx.DC
variable {A s : Int} {N : List (List Int)} {M : List Int}
theorem numA_nil : numA [] = List.replicate 32 0 := by decide
/-- The program's search and the reference's, whole. -/
theorem both (F : Fit A s N M) (h5 : N.length ≤ 5) (up : Bool) {R : Type} (nf : Int → Nat → Int) (S : Sys A.toNat nf (mkH N M) V32 32 R) (first : Nat) (hfirst : first < 32) (hbits : ∀ r, first.testBit r = true ↔ RelW A N up s.toNat r)
    (hnf : ∀ k a, V32 k → a < A.toNat → V32 (nf k a) ∧ ∀ p, (nf k a).toNat.testBit p = true ↔ (up = true ∧ k.toNat.testBit p = true) ∨ ∃ q, q < N.length ∧ k.toNat.testBit q = true ∧ RelW A N up (nx N q a) p) :
    ∃ X0 Y0 X Y, Fit A 0 X Y ∧ (∀ r, Ev (S.fin X0 Y0) r → Ev (S.g4 [(first : Int)] [] []) r) ∧ Ev (fun k => det_Smallest.f k (A, 0, X0, Y0, ())) (A, 0, X, Y) ∧ Ev (fun k => evermoreref32_Wide.f k (A, s, N, M, ()) up) (A, 0, X, Y) := by
  have a1 := F.a1; have a4 := F.a4; have hs := F.s; have n1 := F.n1
  have H0 : LeadOk N.length (RelW A N up) [] 0 := ⟨rfl, fun p hp => by omega⟩
  have key : ∀ lead, LeadOk N.length (RelW A N up) lead N.length → SVf N.length lead s.toNat = first ∧ ∀ k a, V32 k → a < A.toNat → nf k a = nfW N lead up k a ∧ V32 (nf k a) := by
    intro lead HL
    refine ⟨bits_eq fun p => ?_, fun k a hk ha => ⟨?_, (hnf k a hk ha).1⟩⟩
    · rw [(svf_ok HL h5 (relW_lt F up) (show s.toNat < N.length by omega)).2.1, hbits]
    · obtain ⟨⟨v1, v2⟩, hb⟩ := hnf k a hk ha
      have : (nf k a).toNat = fo k.toNat (fun q => SVf N.length lead (nx N q a)) N.length 0 (if up = true then k.toNat else 0) := bits_eq fun p => by
        rw [hb, fo_bit]
        constructor
        · rintro (⟨h1, h2⟩ | ⟨q, q1, q2, q3⟩)
          · left; rw [if_pos h1]; exact h2
          · exact .inr ⟨q, Nat.zero_le _, by omega, q2, ((svf_ok HL h5 (relW_lt F up) (rd_nx F q1 (show (a : Int) < A by omega)).2).2.1 p).2 q3⟩
        · rintro (h | ⟨q, _, q1, q2, q3⟩)
          · by_cases hu : up = true
            · rw [if_pos hu] at h; exact .inl ⟨hu, h⟩
            · rw [if_neg hu, Nat.zero_testBit] at h; cases h
          · exact .inr ⟨q, by omega, q2, ((svf_ok HL h5 (relW_lt F up) (rd_nx F (show q < N.length by omega) (show (a : Int) < A by omega)).2).2.1 p).1 q3⟩
      rw [nfW, ← this]; omega
  have hv : V32 (first : Int) := ⟨by omega, by omega⟩
  obtain ⟨lead, HL, hw⟩ := w4 F h5 up _ 0 [] rfl (by omega) H0
  obtain ⟨k1, k2⟩ := key lead HL
  obtain ⟨L, X0, Y0, K, hl, H, f1, f2⟩ := sys_run (hV := fun k a hk ha => (k2 k a hk ha).2) (hB := v32_bound) S (sysW F h5 up HL (relW_lt F up) nf k2) (first : Int) hv
  have hle := K.le
  have F0 := fit_rows H a1 a4 (by rw [hl]; rfl) (by simp) (by omega) K.v (fun k _ => mkH_ok k)
  obtain ⟨X, Y, m1, m2, m3, m4, z1, z2⟩ := least_ev F0
  refine ⟨X0, Y0, X, Y, fit_of F0 m1 m2 m3 m4, f1, z1, ?_⟩
  refine hw _ ?_
  obtain ⟨s1, s2, s3⟩ := svf_ok HL h5 (relW_lt F up) (show s.toNat < N.length by omega)
  rw [k1] at s3
  have hlen := HL.len
  have hset : (List.replicate 32 (0 : Int)).set first 1 = numA [(first : Int)] := by
    have := numA_set (L := []) (v := first) hfirst (by simp)
    rw [numA_nil] at this; exact this
  have hg := f2 (A, 0, X, Y) (Ev.bind z2 (Ev.now _))
  refine Ev.step (h := fun k => (evermoreref32_set.f k (lead.getD s.toNat [])).bind fun r8 => if 0 ≤ r8 then if r8 < ((List.replicate (Int.toNat 32) (Int.ofNat 0)).length : Int) then evermoreref32_Wide.l26 k up (N.length : Int) 0 A s N M 0 0 lead ((List.replicate (Int.toNat 32) (Int.ofNat 0)).set r8.toNat (Int.ofNat 1)) [r8] A 0 [] [] [] [] else none else none) (fun k => ?_) (Ev.bind s3 ?_)
  · rw [evermoreref32_Wide.l4, if_neg (by omega), if_pos (by omega), if_pos (by omega), if_pos (by decide), if_pos hs.1, if_pos (by omega)]
  · simp only [if_pos (show (0 : Int) ≤ (first : Int) by omega), if_pos (show (first : Int) < ((List.replicate (Int.toNat 32) (Int.ofNat 0)).length : Int) by simp; omega), Int.toNat_natCast]
    have e : (List.replicate (Int.toNat 32) (Int.ofNat 0)).set first (Int.ofNat 1) = numA [(first : Int)] := hset
    rw [e]
    exact hg
end Go.Proofs.YtiiioobebeaafaaSx.DC
namespace Go.Proofs.YtiiioobebeaafaaSx.DC
variable {A s : Int} {N : List (List Int)} {M : List Int}
theorem sm3 : @det_Smallest_3.f = @det_Smallest.f := by kernel_rfl
theorem sa2 : @evermoreref3_Same_2.f = @evermoreref3_Same.f := by kernel_rfl
theorem no2 : @evermorelaw_noDet_2.f = @evermorelaw_noDet.f := by kernel_rfl
theorem gor_mark (F : Fit A s N M) (h5 : N.length ≤ 5) {q acc : Nat} (hq : q < N.length) (hacc : acc < 32) : gor (acc : Int) (gshl (M.getD q 0) q) = (((if M.getD q 0 = 1 then acc ||| 2 ^ q else acc) : Nat) : Int) := by
  rcases F.mark q hq with h | h
  · rw [h, gshl_zero (by omega), if_neg (by decide)]
    have := gor_eq (a := acc) (b := 0) hacc (by omega)
    rw [Nat.or_zero] at this; exact this
  · rw [h, gshl_one (by omega), if_pos rfl]; exact gor_eq hacc (pow_lt5 (by omega))
theorem sets_l3 (F : Fit A s N M) (h5 : N.length ≤ 5) (first : Int) (r : Int × Int × List (List Int) × List Int)
    (E : Ev (fun k => (det_Explore_int_.f k A first (Int.ofNat 64) A s N M (goodN N M : Int)).bind fun r3 => (det_Smallest.f k (r3.fst, r3.snd.fst, r3.snd.snd.snd.snd.snd.snd.snd.snd.fst, r3.snd.snd.snd.snd.snd.snd.snd.snd.snd, ())).bind fun r4 => some (r4.fst, r4.snd.fst, r4.snd.snd.fst, r4.snd.snd.snd)) r) :
    ∀ (n q acc : Nat), M.length - q = n → q ≤ M.length → acc < 32 → gfo M n q acc = goodN N M → Ev (fun k => higman_sets.l3 k first M (M.length : Int) (q : Int) A s N M 0 0 (acc : Int) [] []) r := by
  have hm := F.m
  intro n
  induction n with
  | zero =>
    intro q acc hn hq hacc hg
    rw [gfo] at hg
    subst hg
    refine Ev.step (fun k => ?_) E
    rw [higman_sets.l3, if_neg (by omega)]
  | succ n ih =>
    intro q acc hn hq hacc hg
    rw [gfo] at hg
    have hrd : rd (Int.ofNat 0) M (q : Int) = M.getD q 0 := rd_nat _ _ _
    refine Ev.step (fun k => ?_) (ih (q + 1) _ (by omega) (by omega) ?_ hg)
    · rw [higman_sets.l3, if_pos (by omega), if_pos (by omega), if_pos (by omega), if_pos (by omega), hrd, wrSucc q (by omega), Int.toNat_natCast]
      show higman_sets.l3 k first M (M.length : Int) ((q + 1 : Nat) : Int) A s N M 0 0 (gor (acc : Int) (gshl (M.getD q 0) q)) [] [] = _
      rw [gor_mark F h5 (by omega) hacc]
    · split
      · exact or_lt hacc (pow_lt5 (by omega))
      · exact hacc
theorem sets3_l3 (F : Fit A s N M) (h5 : N.length ≤ 5) (first : Int) (r : Int × Int × Int × Int × List (List Int) × List Int × List (List Int) × List Int)
    (E : Ev (fun k => (det_Explore_int__3.f k A first (Int.ofNat 64) A s N M (goodN N M : Int) A s N M).bind fun r3 => (det_Smallest_3.f k (r3.fst, r3.snd.fst, r3.snd.snd.snd.snd.snd.snd.snd.snd.snd.snd.snd.snd.fst, r3.snd.snd.snd.snd.snd.snd.snd.snd.snd.snd.snd.snd.snd, ())).bind fun r4 => some (r4.fst, r4.snd.fst, r3.snd.snd.snd.snd.snd.snd.snd.snd.fst, r3.snd.snd.snd.snd.snd.snd.snd.snd.snd.fst, r3.snd.snd.snd.snd.snd.snd.snd.snd.snd.snd.fst, r3.snd.snd.snd.snd.snd.snd.snd.snd.snd.snd.snd.fst, r4.snd.snd.fst, r4.snd.snd.snd)) r) :
    ∀ (n q acc : Nat), M.length - q = n → q ≤ M.length → acc < 32 → gfo M n q acc = goodN N M → Ev (fun k => higman_sets_3.l3 k first M (M.length : Int) (q : Int) A s N M A s N M 0 0 (acc : Int) [] []) r := by
  have hm := F.m
  intro n
  induction n with
  | zero =>
    intro q acc hn hq hacc hg
    rw [gfo] at hg
    subst hg
    refine Ev.step (fun k => ?_) E
    rw [higman_sets_3.l3, if_neg (by omega)]
  | succ n ih =>
    intro q acc hn hq hacc hg
    rw [gfo] at hg
    have hrd : rd (Int.ofNat 0) M (q : Int) = M.getD q 0 := rd_nat _ _ _
    refine Ev.step (fun k => ?_) (ih (q + 1) _ (by omega) (by omega) ?_ hg)
    · rw [higman_sets_3.l3, if_pos (by omega), if_pos (by omega), if_pos (by omega), if_pos (by omega), hrd, wrSucc q (by omega), Int.toNat_natCast]
      show higman_sets_3.l3 k first M (M.length : Int) ((q + 1 : Nat) : Int) A s N M A s N M 0 0 (gor (acc : Int) (gshl (M.getD q 0) q)) [] [] = _
      rw [gor_mark F h5 (by omega) hacc]
    · split
      · exact or_lt hacc (pow_lt5 (by omega))
      · exact hacc
theorem small_higman (A s : Int) (N : List (List Int)) (M : List Int) : ∃ e, Ev (fun k => evermoreref3_Check.f k (A, s, N, M, ())) e ∧ Ev (fun k => higman_small.f k (A, s, N, M, ())) (if e = 0 then if 5 < (N.length : Int) then 1 else 0 else e) ∧ (e = 0 → Fit A s N M) := by
  obtain ⟨e, c1, c2, c3⟩ := check_ev A s N M
  refine ⟨e, c2, ?_, c3⟩
  simp only [higman_small.f]
  refine Ev.bind c1 ?_
  by_cases h : e = 0
  · simp only [if_pos h]
    by_cases h5 : 5 < (N.length : Int)
    · simp only [if_pos h5]; exact Ev.now _
    · simp only [if_neg h5]; exact Ev.now _
  · simp only [if_neg h]; exact Ev.now _
theorem up_ev (F : Fit A s N M) (h5 : N.length ≤ 5) (hsm : Ev (fun k => higman_small.f k (A, s, N, M, ())) 0) : ∃ X Y, Fit A 0 X Y ∧ Ev (fun k => higman_Up.f k (A, s, N, M, ())) (A, 0, 0, X, Y) ∧ Ev (fun k => evermoreref32_Wide.f k (A, s, N, M, ()) true) (A, 0, X, Y) := by
  have hs := F.s; have hm := F.m
  have hs5 : s.toNat < 5 := by omega
  obtain ⟨X0, Y0, X, Y, f, e1, e2, e3⟩ := both F h5 true (nfU N) (sysU F h5) (2 ^ s.toNat) (pow_lt5 hs5) (fun r => by rw [bit_pow]; exact Iff.rfl) (fun k a hk ha => by
    have hst := step1_lt F h5 (S := k.toNat) (a := a) (by omega)
    have hlt : k.toNat ||| step1 N k.toNat a < 32 := or_lt (by have := hk.1; have := hk.2; omega) hst
    refine ⟨⟨by rw [nfU]; omega, by rw [nfU]; omega⟩, fun p => ?_⟩
    rw [nfU, Int.toNat_natCast, bit_or, step1_bit]
    simp only [true_and]
    exact Iff.rfl)
  refine ⟨X, Y, f, ?_, e3⟩
  simp only [higman_Up.f]
  refine Ev.bind hsm ?_
  simp only [if_true, if_pos hs.1]
  have hfirst : Go.IntKind.i64.wrap (1 * 2 ^ min s.toNat Go.IntKind.i64.bits) = ((2 ^ s.toNat : Nat) : Int) := gshl_one hs5
  rw [hfirst]
  refine Ev.bind (x := (A, 0, X, Y)) ?_ (Ev.now _)
  have := sets_l3 F h5 ((2 ^ s.toNat : Nat) : Int) (A, 0, X, Y) (Ev.bind (x := (A, 0, true, A, s, N, M, (goodN N M : Int), X0, Y0)) (e1 _ (Ev.now _)) (Ev.bind e2 (Ev.now _))) _ 0 0 rfl (by omega) (by omega) (by rw [goodN, Nat.sub_zero, hm])
  exact this
theorem down_ev (F : Fit A s N M) (h5 : N.length ≤ 5) (hsm : Ev (fun k => higman_small.f k (A, s, N, M, ())) 0) : ∃ X Y, Fit A 0 X Y ∧ Ev (fun k => higman_Down.f k (A, s, N, M, ())) (A, 0, 0, X, Y) ∧ Ev (fun k => evermoreref32_Wide.f k (A, s, N, M, ()) false) (A, 0, X, Y) := by
  have hs := F.s; have hm := F.m
  have hs5 : s.toNat < 5 := by omega
  have hp2 : ∀ p, (2 ^ s.toNat).testBit p = true → p < N.length := by intro p h; rw [bit_pow] at h; omega
  obtain ⟨T1, T2⟩ := ahN_ok F h5 (2 ^ s.toNat)
  obtain ⟨X0, Y0, X, Y, f, e1, e2, e3⟩ := both F h5 false (nfD A N) (sysD F h5) (ahN A N (2 ^ s.toNat)) T1 (fun r => by
    rw [T2]
    constructor
    · rintro ⟨q, q1, q2, q3⟩
      rw [bit_pow] at q2
      subst q2; exact q3
    · intro h
      exact ⟨s.toNat, by omega, by rw [bit_pow], h⟩) (fun k a hk ha => by
    obtain ⟨U1, U2⟩ := ahN_ok F h5 (step1 N k.toNat a)
    refine ⟨⟨by rw [nfD]; omega, by rw [nfD]; omega⟩, fun p => ?_⟩
    rw [nfD, Int.toNat_natCast, U2]
    constructor
    · rintro ⟨q, q1, q2, q3⟩
      obtain ⟨q', r1, r2, r3⟩ := step1_bit.1 q2
      exact .inr ⟨q', r1, r2, by rw [r3]; exact q3⟩
    · rintro (⟨h, _⟩ | ⟨q, q1, q2, q3⟩)
      · cases h
      · exact ⟨nx N q a, (rd_nx F q1 (show (a : Int) < A by omega)).2, step1_bit.2 ⟨q, q1, q2, rfl⟩, q3⟩)
  refine ⟨X, Y, f, ?_, e3⟩
  simp only [higman_Down.f]
  refine Ev.bind hsm ?_
  simp only [if_true, if_pos hs.1]
  have hfirst : Go.IntKind.i64.wrap (1 * 2 ^ min s.toNat Go.IntKind.i64.bits) = ((2 ^ s.toNat : Nat) : Int) := gshl_one hs5
  rw [hfirst]
  refine Ev.bind (ahead_is F h5 (2 ^ s.toNat) (pow_lt5 hs5) hp2) ?_
  refine Ev.bind (x := (A, 0, A, s, N, M, X, Y)) ?_ (Ev.now _)
  have := sets3_l3 F h5 (ahN A N (2 ^ s.toNat) : Int) (A, 0, A, s, N, M, X, Y) (Ev.bind (x := (A, 0, true, A, s, N, M, (goodN N M : Int), A, s, N, M, X0, Y0)) (e1 _ (Ev.now _)) (Ev.bind (x := (A, 0, X, Y)) (by rw [sm3]; exact e2) (Ev.now _))) _ 0 0 rfl (by omega) (by omega) (by rw [goodN, Nat.sub_zero, hm])
  exact this
theorem HigmanCloses : evermorelaw_HigmanCloses.PureH := by
  rintro ⟨A, s, N, M, ⟨⟩⟩ _
  suffices H : Ev (fun k => evermorelaw_HigmanCloses.f k (A, s, N, M, ())) true from H.get
  obtain ⟨e, c1, c2, c3⟩ := small_higman A s N M
  have fault : ∀ no : Int, no ≠ 0 → Ev (fun k => evermorelaw_HigmanCloses.j6 k no no no A s N M 0 0 0 0 [] [] [] []) true := by
    intro no hz
    refine Ev.step (h := fun k => (evermorelaw_noDet.f k (0, 0, [], [], ())).bind fun r3 => (evermorelaw_noDet_2.f k (0, 0, [], [], ())).bind fun r4 => if r3 = true then some r4 else some false) (fun k => ?_) (Ev.bind (x := true) (.all none_0) (Ev.bind (x := true) (.all fun k => by rw [no2]; exact none_0 k) (Ev.now _)))
    rw [evermorelaw_HigmanCloses.j6, if_neg hz]; simp only [if_true]
  by_cases h : e = 0
  · have F := c3 h
    rw [if_pos h] at c2
    by_cases h5 : 5 < (N.length : Int)
    · rw [if_pos h5] at c2
      simp only [evermorelaw_HigmanCloses.f, higman_Up.f, higman_Down.f]
      refine Ev.bind (x := (0, 0, 1, [], [])) (Ev.bind c2 (Ev.now _)) (Ev.bind (x := (0, 0, 1, [], [])) (Ev.bind c2 (Ev.now _)) (Ev.bind c1 ?_))
      simp only [if_pos h, if_pos h5]
      exact fault 1 (by decide)
    · rw [if_neg h5] at c2
      obtain ⟨X, Y, f, u1, u2⟩ := up_ev F (by omega) c2
      obtain ⟨X', Y', f', d1, d2⟩ := down_ev F (by omega) c2
      simp only [evermorelaw_HigmanCloses.f]
      refine Ev.bind u1 (Ev.bind d1 (Ev.bind c1 ?_))
      simp only [if_pos h, if_neg h5]
      refine Ev.step (h := fun k => (evermoreref32_Wide.f k (A, s, N, M, ()) true).bind fun r3 => (evermoreref32_Wide.f k (A, s, N, M, ()) false).bind fun r4 => (evermoreref3_Same.f k (A, 0, X, Y, ()) (r3.fst, r3.snd.fst, r3.snd.snd.fst, r3.snd.snd.snd, ())).bind fun r5 => (evermoreref3_Same_2.f k (A, 0, X', Y', ()) (r4.fst, r4.snd.fst, r4.snd.snd.fst, r4.snd.snd.snd, ())).bind fun r6 => if r5 = true then some r6 else some false) (fun k => ?_) (Ev.bind u2 (Ev.bind d2 (Ev.bind (x := true) (same_fit f) (Ev.bind (x := true) (by rw [sa2]; exact same_fit f') (Ev.now _)))))
      rw [evermorelaw_HigmanCloses.j6, if_pos h]; simp only [if_true]
  · rw [if_neg h] at c2
    simp only [evermorelaw_HigmanCloses.f, higman_Up.f, higman_Down.f]
    refine Ev.bind (x := (0, 0, e, [], [])) (Ev.bind c2 ?_) (Ev.bind (x := (0, 0, e, [], [])) (Ev.bind c2 ?_) (Ev.bind c1 ?_))
    · simp only [if_neg h]; exact Ev.now _
    · simp only [if_neg h]; exact Ev.now _
    · simp only [if_neg h]; exact fault e h
end Go.Proofs.YtiiioobebeaafaaSx.DC
namespace Go.Proofs.Ytiiioobebeaafaa
theorem Pure.HigmanCloses : Go.Proofs.YtiiioobebeaafaaSx.evermorelaw_HigmanCloses.PureH := Go.Proofs.YtiiioobebeaafaaSx.DC.HigmanCloses
end Go.Proofs.Ytiiioobebeaafaa
