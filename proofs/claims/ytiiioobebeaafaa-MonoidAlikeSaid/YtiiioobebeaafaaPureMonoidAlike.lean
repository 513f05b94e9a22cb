import Derived.Test.YtiiioobebeaafaaGMonoidAlike
import Derived.Test.YtiiioobebeaafaaSxW
import Derived.Test.YtiiioobebeaafaaSxV2
set_option linter.unusedVariables false
namespace Go.Proofs.YtiiioobebeaafaaSx
/-- With enough fuel. -/
def Ev {α : Type} (g : Nat → Option α) (r : α) : Prop := ∃ k0, ∀ k, k0 ≤ k → g k = some r
theorem Ev.now {α : Type} (r : α) : Ev (fun _ => some r) r := ⟨0, fun _ _ => rfl⟩
theorem Ev.all {α : Type} {g : Nat → Option α} {r : α} (h : ∀ k, g k = some r) : Ev g r := ⟨0, fun k _ => h k⟩
theorem Ev.step {α : Type} {g h : Nat → Option α} {r : α} (e : ∀ k, g (k + 1) = h k) (H : Ev h r) : Ev g r := by
  obtain ⟨k0, H⟩ := H
  refine ⟨k0 + 1, fun k hk => ?_⟩
  obtain ⟨k, rfl⟩ : ∃ j, k = j + 1 := ⟨k - 1, by omega⟩
  rw [e]; exact H _ (by omega)
theorem Ev.bind {α β : Type} {g : Nat → Option α} {h : Nat → α → Option β} {x : α} {r : β} (G : Ev g x) (H : Ev (fun k => h k x) r) : Ev (fun k => (g k).bind (h k)) r := by
  obtain ⟨a, G⟩ := G
  obtain ⟨b, H⟩ := H
  refine ⟨max a b, fun k hk => ?_⟩
  show (g k).bind (h k) = some r
  rw [G k (by omega)]; exact H k (by omega)
theorem Ev.get {α : Type} {g : Nat → Option α} {r : α} (H : Ev g r) : ∃ k, g k = some r := H.elim fun k0 H => ⟨k0, H k0 (Nat.le_refl _)⟩
theorem Ev.cast {α : Type} {g : Nat → Option α} {r r' : α} (H : Ev g r) (e : r = r') : Ev g r' := e ▸ H

theorem wr64 (n : Int) (h0 : -9223372036854775808 ≤ n) (h1 : n < 9223372036854775808) : IntKind.i64.wrap n = n := by rw [IntKind.wrap_i64]; omega
theorem wrSucc (i : Nat) (h : i < 1000000000) : IntKind.i64.wrap ((i : Int) + 1) = ((i + 1 : Nat) : Int) := by rw [wr64] <;> omega
theorem rd_nat {α : Type} (d : α) (w : List α) (i : Nat) : rd d w (i : Int) = w.getD i d := by simp [rd]
theorem drop_getD {α : Type} (d : α) (w : List α) (i : Nat) (h : i < w.length) : w.drop i = w.getD i d :: w.drop (i + 1) := by
  rw [List.drop_eq_getElem_cons h]; simp [List.getD, h]
theorem short (n : Nat) (h : n < 1000000000) : Nat.blt n 1000000000 = true := Nat.ble_eq_true_of_le (by omega)
end Go.Proofs.YtiiioobebeaafaaSx
namespace Go.Proofs.YtiiioobebeaafaaSx.DC
def bad (N : Int) (b : Int) : Bool := decide (b < 0) || decide (N ≤ b)
def badW (B : Int) (w : List Int) : Bool := !decide ((w.length : Int) = B)
def badM (m : Int) : Bool := !(decide (m = 0) || decide (m = 1))
/-- An automaton that may be. -/
structure Fit (A s : Int) (N : List (List Int)) (M : List Int) : Prop where
  a1 : 1 ≤ A
  a4 : A ≤ 4
  n1 : 1 ≤ N.length
  n3 : N.length ≤ 3000
  m : M.length = N.length
  row : ∀ q, q < N.length → ((N.getD q []).length : Int) = A
  s : 0 ≤ s ∧ s < (N.length : Int)
  ent : ∀ q, q < N.length → ∀ a : Nat, (a : Int) < A → 0 ≤ (N.getD q []).getD a 0 ∧ (N.getD q []).getD a 0 < (N.length : Int)
  mark : ∀ q, q < N.length → M.getD q 0 = 0 ∨ M.getD q 0 = 1

theorem idx1 (A s : Int) (N' : List (List Int)) (M : List Int) (N : List (List Int)) (hN : N.length ≤ 3000) : ∀ n i, N.length - i = n → i ≤ N.length →
    ∃ r, Ev (fun k => slices_IndexFunc_____int___int_.l2 k N (N.length : Int) (i : Int) A s N' M) (r, A, s, N', M) ∧ decide (0 ≤ r) = (N.drop i).any (badW A) := by
  intro n
  induction n with
  | zero =>
    intro i hn hi
    refine ⟨-1, Ev.step (h := fun _ => some (-1, A, s, N', M)) (fun k => ?_) (Ev.now _), ?_⟩
    · rw [slices_IndexFunc_____int___int_.l2, if_neg (by omega)]
    · rw [List.drop_eq_nil_of_le (by omega)]; rfl
  | succ n ih =>
    intro i hn hi
    obtain ⟨r, h1, h2⟩ := ih (i + 1) (by omega) (by omega)
    by_cases hb : badW A (N.getD i []) = true
    · refine ⟨i, Ev.step (h := fun _ => some ((i : Int), A, s, N', M)) (fun k => ?_) (Ev.now _), ?_⟩
      · rw [slices_IndexFunc_____int___int_.l2, if_pos (by omega), if_pos (by omega), if_pos (by omega), det_Check_1.f, rd_nat, Option.bind_some]
        rw [badW] at hb; simp only [hb, if_true]
      · rw [drop_getD [] N i (by omega), List.any_cons, hb, Bool.true_or, decide_eq_true (by omega)]
    · refine ⟨r, Ev.step (h := fun k => slices_IndexFunc_____int___int_.l2 k N (N.length : Int) ((i + 1 : Nat) : Int) A s N' M) (fun k => ?_) h1, ?_⟩
      · rw [slices_IndexFunc_____int___int_.l2, if_pos (by omega), if_pos (by omega), if_pos (by omega), det_Check_1.f, rd_nat, Option.bind_some, wrSucc i (by omega)]
        rw [Bool.not_eq_true, badW] at hb; simp only [hb, Bool.false_eq_true, if_false]
      · rw [drop_getD [] N i (by omega), List.any_cons, h2, show badW A (N.getD i []) = false from (Bool.not_eq_true _).mp hb, Bool.false_or]
theorem con1 (A s : Int) (N' : List (List Int)) (M : List Int) (N : List (List Int)) (hN : N.length ≤ 3000) :
    Ev (fun k => slices_ContainsFunc_____int___int_.f k N A s N' M) (N.any (badW A), A, s, N', M) := by
  obtain ⟨r, h1, h2⟩ := idx1 A s N' M N hN _ 0 rfl (by omega)
  rw [List.drop_zero] at h2
  refine (Ev.bind (g := fun k => slices_IndexFunc_____int___int_.f k N A s N' M) (x := (r, A, s, N', M)) (h := fun k r1 => some (decide (0 ≤ r1.fst), r1.snd.fst, r1.snd.snd.fst, r1.snd.snd.snd.fst, r1.snd.snd.snd.snd)) h1 (Ev.now _)).cast ?_
  exact congrArg (fun b => (b, A, s, N', M)) h2

theorem check2 (k : Nat) (b n : Int) : det_Check_2.f k b n = some (bad n b, n) := by
  rw [det_Check_2.f, bad]
  by_cases h : b < 0
  · rw [if_pos h]; simp [h]
  · rw [if_neg h]; simp [h]
theorem idx2 (n0 : Int) (w : List Int) (hw : w.length ≤ 10000) : ∀ n i, w.length - i = n → i ≤ w.length →
    ∃ r, Ev (fun k => slices_IndexFunc___int_int_.l2 k w (w.length : Int) (i : Int) n0) (r, n0) ∧ decide (0 ≤ r) = (w.drop i).any (bad n0) := by
  intro n
  induction n with
  | zero =>
    intro i hn hi
    refine ⟨-1, Ev.step (h := fun _ => some (-1, n0)) (fun k => ?_) (Ev.now _), ?_⟩
    · rw [slices_IndexFunc___int_int_.l2, if_neg (by omega)]
    · rw [List.drop_eq_nil_of_le (by omega)]; rfl
  | succ n ih =>
    intro i hn hi
    obtain ⟨r, h1, h2⟩ := ih (i + 1) (by omega) (by omega)
    by_cases hb : bad n0 (w.getD i (Int.ofNat 0)) = true
    · refine ⟨i, Ev.step (h := fun _ => some ((i : Int), n0)) (fun k => ?_) (Ev.now _), ?_⟩
      · rw [slices_IndexFunc___int_int_.l2, if_pos (by omega), if_pos (by omega), if_pos (by omega), check2, rd_nat, Option.bind_some]
        simp only [hb, if_true]
      · rw [drop_getD (Int.ofNat 0) w i (by omega), List.any_cons, hb, Bool.true_or, decide_eq_true (by omega)]
    · refine ⟨r, Ev.step (h := fun k => slices_IndexFunc___int_int_.l2 k w (w.length : Int) ((i + 1 : Nat) : Int) n0) (fun k => ?_) h1, ?_⟩
      · rw [slices_IndexFunc___int_int_.l2, if_pos (by omega), if_pos (by omega), if_pos (by omega), check2, rd_nat, Option.bind_some, wrSucc i (by omega)]
        simp only [hb]; rfl
      · rw [drop_getD (Int.ofNat 0) w i (by omega), List.any_cons, h2, show bad n0 (w.getD i (Int.ofNat 0)) = false from (Bool.not_eq_true _).mp hb, Bool.false_or]
theorem con2 (n0 : Int) (w : List Int) (hw : w.length ≤ 10000) : Ev (fun k => slices_ContainsFunc___int_int_.f k w n0) (w.any (bad n0), n0) := by
  obtain ⟨r, h1, h2⟩ := idx2 n0 w hw _ 0 rfl (by omega)
  rw [List.drop_zero] at h2
  refine (Ev.bind (g := fun k => slices_IndexFunc___int_int_.f k w n0) (x := (r, n0)) (h := fun k r1 => some (decide (0 ≤ r1.fst), r1.snd)) h1 (Ev.now _)).cast ?_
  exact congrArg (fun b => (b, n0)) h2
theorem check3 (n0 : Int) (w : List Int) (hw : w.length ≤ 10000) : Ev (fun k => det_Check_3.f k w n0) (w.any (bad n0), n0) := by
  show Ev (fun k => (slices_ContainsFunc___int_int_.f k w n0).bind fun r1 => some (r1.fst, r1.snd)) _
  exact Ev.bind (x := (w.any (bad n0), n0)) (con2 n0 w hw) (Ev.now _)
theorem idx3 (n0 : Int) (N : List (List Int)) (hN : N.length ≤ 3000) (hw : ∀ q, q < N.length → (N.getD q []).length ≤ 10000) : ∀ n i, N.length - i = n → i ≤ N.length →
    ∃ r, Ev (fun k => slices_IndexFunc_____int___int__2.l2 k N (N.length : Int) (i : Int) n0) (r, n0) ∧ decide (0 ≤ r) = (N.drop i).any (fun w => w.any (bad n0)) := by
  intro n
  induction n with
  | zero =>
    intro i hn hi
    refine ⟨-1, Ev.step (h := fun _ => some (-1, n0)) (fun k => ?_) (Ev.now _), ?_⟩
    · rw [slices_IndexFunc_____int___int__2.l2, if_neg (by omega)]
    · rw [List.drop_eq_nil_of_le (by omega)]; rfl
  | succ n ih =>
    intro i hn hi
    obtain ⟨r, h1, h2⟩ := ih (i + 1) (by omega) (by omega)
    have c3 := check3 n0 (N.getD i []) (hw i (by omega))
    by_cases hb : (N.getD i []).any (bad n0) = true
    · refine ⟨i, Ev.step (h := fun k => (det_Check_3.f k (N.getD i []) n0).bind fun r5 => if r5.fst = true then some ((i : Int), r5.snd) else slices_IndexFunc_____int___int__2.l2 k N (N.length : Int) ((i + 1 : Nat) : Int) r5.snd) (fun k => ?_) (Ev.bind c3 ?_), ?_⟩
      · rw [slices_IndexFunc_____int___int__2.l2, if_pos (by omega), if_pos (by omega), if_pos (by omega), rd_nat, wrSucc i (by omega)]
      · simp only [hb, if_true]; exact Ev.now _
      · rw [drop_getD [] N i (by omega), List.any_cons, hb, Bool.true_or, decide_eq_true (by omega)]
    · refine ⟨r, Ev.step (h := fun k => (det_Check_3.f k (N.getD i []) n0).bind fun r5 => if r5.fst = true then some ((i : Int), r5.snd) else slices_IndexFunc_____int___int__2.l2 k N (N.length : Int) ((i + 1 : Nat) : Int) r5.snd) (fun k => ?_) (Ev.bind c3 ?_), ?_⟩
      · rw [slices_IndexFunc_____int___int__2.l2, if_pos (by omega), if_pos (by omega), if_pos (by omega), rd_nat, wrSucc i (by omega)]
      · simp only [if_neg hb]; exact h1
      · rw [drop_getD [] N i (by omega), List.any_cons, h2, show (N.getD i []).any (bad n0) = false from (Bool.not_eq_true _).mp hb, Bool.false_or]
theorem con3 (n0 : Int) (N : List (List Int)) (hN : N.length ≤ 3000) (hw : ∀ q, q < N.length → (N.getD q []).length ≤ 10000) : Ev (fun k => slices_ContainsFunc_____int___int__2.f k N n0) (N.any (fun w => w.any (bad n0)), n0) := by
  obtain ⟨r, h1, h2⟩ := idx3 n0 N hN hw _ 0 rfl (by omega)
  rw [List.drop_zero] at h2
  refine (Ev.bind (g := fun k => slices_IndexFunc_____int___int__2.f k N n0) (x := (r, n0)) (h := fun k r1 => some (decide (0 ≤ r1.fst), r1.snd)) h1 (Ev.now _)).cast ?_
  exact congrArg (fun b => (b, n0)) h2
theorem check4 (k : Nat) (m : Int) : det_Check_4.f k m = some (badM m) := by
  rw [det_Check_4.f, badM]
  by_cases h : m = 0
  · rw [if_pos h]; simp [h]
  · rw [if_neg h]; simp [h]
theorem idx4 (w : List Int) (hw : w.length ≤ 3000) : ∀ n i, w.length - i = n → i ≤ w.length →
    ∃ r, Ev (fun k => slices_IndexFunc___int_int__2.l2 k w (w.length : Int) (i : Int)) r ∧ decide (0 ≤ r) = (w.drop i).any badM := by
  intro n
  induction n with
  | zero =>
    intro i hn hi
    refine ⟨-1, Ev.step (h := fun _ => some (-1)) (fun k => ?_) (Ev.now _), ?_⟩
    · rw [slices_IndexFunc___int_int__2.l2, if_neg (by omega)]
    · rw [List.drop_eq_nil_of_le (by omega)]; rfl
  | succ n ih =>
    intro i hn hi
    obtain ⟨r, h1, h2⟩ := ih (i + 1) (by omega) (by omega)
    by_cases hb : badM (w.getD i (Int.ofNat 0)) = true
    · refine ⟨i, Ev.step (h := fun _ => some (i : Int)) (fun k => ?_) (Ev.now _), ?_⟩
      · rw [slices_IndexFunc___int_int__2.l2, if_pos (by omega), if_pos (by omega), if_pos (by omega), check4, rd_nat, Option.bind_some, if_pos hb]
      · rw [drop_getD (Int.ofNat 0) w i (by omega), List.any_cons, hb, Bool.true_or, decide_eq_true (by omega)]
    · refine ⟨r, Ev.step (h := fun k => slices_IndexFunc___int_int__2.l2 k w (w.length : Int) ((i + 1 : Nat) : Int)) (fun k => ?_) h1, ?_⟩
      · rw [slices_IndexFunc___int_int__2.l2, if_pos (by omega), if_pos (by omega), if_pos (by omega), check4, rd_nat, Option.bind_some, wrSucc i (by omega), if_neg hb]
      · rw [drop_getD (Int.ofNat 0) w i (by omega), List.any_cons, h2, show badM (w.getD i (Int.ofNat 0)) = false from (Bool.not_eq_true _).mp hb, Bool.false_or]
theorem con4 (w : List Int) (hw : w.length ≤ 3000) : Ev (fun k => slices_ContainsFunc___int_int__2.f k w) (w.any badM) := by
  obtain ⟨r, h1, h2⟩ := idx4 w hw _ 0 rfl (by omega)
  rw [List.drop_zero] at h2
  refine (Ev.bind (g := fun k => slices_IndexFunc___int_int__2.f k w) (x := r) (h := fun k r1 => some (decide (0 ≤ r1))) h1 (Ev.now _)).cast ?_
  exact h2
end Go.Proofs.YtiiioobebeaafaaSx.DC
namespace Go.Proofs.YtiiioobebeaafaaSx.DC
variable {A s : Int} {N : List (List Int)} {M : List Int}
theorem r24 (hN : N.length ≤ 3000) (hM : M.length = N.length) : ∀ n i, N.length - i = n → i ≤ N.length → Ev (fun k => evermoreref3_Check.l24 k (N.length : Int) (i : Int) A s N M) (if (M.drop i).any badM = true then 2 else 0) := by
  intro n
  induction n with
  | zero =>
    intro i hn hi
    rw [List.drop_eq_nil_of_le (by omega)]
    refine Ev.step (h := fun _ => some 0) (fun k => ?_) (Ev.now _)
    rw [evermoreref3_Check.l24, if_neg (by omega)]
  | succ n ih =>
    intro i hn hi
    have h1 := ih (i + 1) (by omega) (by omega)
    rw [drop_getD (Int.ofNat 0) M i (by omega), List.any_cons]
    by_cases c0 : M.getD i (Int.ofNat 0) = 0
    · rw [show badM (M.getD i (Int.ofNat 0)) = false by rw [badM, decide_eq_true c0]; rfl, Bool.false_or]
      refine Ev.step (h := fun k => evermoreref3_Check.l24 k (N.length : Int) ((i + 1 : Nat) : Int) A s N M) (fun k => ?_) h1
      rw [evermoreref3_Check.l24, if_pos (by omega), if_pos (by omega), if_pos (by omega), rd_nat, if_pos c0, wrSucc i (by omega)]
    · by_cases c1 : M.getD i (Int.ofNat 0) = 1
      · rw [show badM (M.getD i (Int.ofNat 0)) = false by rw [badM, decide_eq_true c1, Bool.or_true]; rfl, Bool.false_or]
        refine Ev.step (h := fun k => evermoreref3_Check.l24 k (N.length : Int) ((i + 1 : Nat) : Int) A s N M) (fun k => ?_) h1
        rw [evermoreref3_Check.l24, if_pos (by omega), if_pos (by omega), if_pos (by omega), rd_nat, if_neg c0, if_pos (by omega), if_pos (by omega), if_pos c1, wrSucc i (by omega)]
      · rw [show badM (M.getD i (Int.ofNat 0)) = true by rw [badM, decide_eq_false c1, decide_eq_false c0]; rfl, Bool.true_or, if_pos rfl]
        refine Ev.step (h := fun _ => some 2) (fun k => ?_) (Ev.now _)
        rw [evermoreref3_Check.l24, if_pos (by omega), if_pos (by omega), if_pos (by omega), rd_nat, if_neg c0, if_pos (by omega), if_pos (by omega), if_neg c1]

theorem r19 (hN : N.length ≤ 3000) (hA : A ≤ 4) (q : Nat) (hq : q < N.length) (hrow : ((N.getD q []).length : Int) = A) : ∀ n a, (N.getD q []).length - a = n → a ≤ (N.getD q []).length →
    (((N.getD q []).drop a).any (bad (N.length : Int)) = true → Ev (fun k => evermoreref3_Check.l19 k (N.length : Int) (q : Int) (a : Int) A s N M) 2) ∧
    (((N.getD q []).drop a).any (bad (N.length : Int)) = false → ∀ e, Ev (fun k => evermoreref3_Check.l16 k (N.length : Int) ((q + 1 : Nat) : Int) A s N M) e → Ev (fun k => evermoreref3_Check.l19 k (N.length : Int) (q : Int) (a : Int) A s N M) e) := by
  intro n
  induction n with
  | zero =>
    intro a hn ha
    rw [List.drop_eq_nil_of_le (by omega)]
    refine ⟨fun h => by simp at h, fun _ e he => Ev.step (fun k => ?_) he⟩
    rw [evermoreref3_Check.l19, if_neg (by omega), wrSucc q (by omega)]
  | succ n ih =>
    intro a hn ha
    obtain ⟨h1, h2⟩ := ih (a + 1) (by omega) (by omega)
    rw [drop_getD (Int.ofNat 0) (N.getD q []) a (by omega), List.any_cons]
    by_cases c0 : (N.getD q []).getD a (Int.ofNat 0) < 0
    · rw [show bad (N.length : Int) ((N.getD q []).getD a (Int.ofNat 0)) = true by rw [bad, decide_eq_true c0]; rfl, Bool.true_or]
      refine ⟨fun _ => Ev.step (h := fun _ => some 2) (fun k => ?_) (Ev.now _), fun h => by simp at h⟩
      rw [evermoreref3_Check.l19, if_pos (by omega), if_pos (by omega), if_pos (by omega), if_pos (by omega), rd_nat, if_pos (by omega), rd_nat, if_pos c0]
    · by_cases c1 : (N.length : Int) ≤ (N.getD q []).getD a (Int.ofNat 0)
      · rw [show bad (N.length : Int) ((N.getD q []).getD a (Int.ofNat 0)) = true by rw [bad, decide_eq_true c1, Bool.or_true], Bool.true_or]
        refine ⟨fun _ => Ev.step (h := fun _ => some 2) (fun k => ?_) (Ev.now _), fun h => by simp at h⟩
        rw [evermoreref3_Check.l19, if_pos (by omega), if_pos (by omega), if_pos (by omega), if_pos (by omega), rd_nat, if_pos (by omega), rd_nat, if_neg c0, if_pos (by omega), if_pos (by omega), if_pos (by omega), if_pos (by omega), if_pos c1]
      · rw [show bad (N.length : Int) ((N.getD q []).getD a (Int.ofNat 0)) = false by rw [bad, decide_eq_false c1, decide_eq_false c0]; rfl, Bool.false_or]
        refine ⟨fun h => Ev.step (fun k => ?_) (h1 h), fun h e he => Ev.step (fun k => ?_) (h2 h e he)⟩
        · rw [evermoreref3_Check.l19, if_pos (by omega), if_pos (by omega), if_pos (by omega), if_pos (by omega), rd_nat, if_pos (by omega), rd_nat, if_neg c0, if_pos (by omega), if_pos (by omega), if_pos (by omega), if_pos (by omega), if_neg c1, wrSucc a (by omega)]
        · rw [evermoreref3_Check.l19, if_pos (by omega), if_pos (by omega), if_pos (by omega), if_pos (by omega), rd_nat, if_pos (by omega), rd_nat, if_neg c0, if_pos (by omega), if_pos (by omega), if_pos (by omega), if_pos (by omega), if_neg c1, wrSucc a (by omega)]

theorem r16 (hN : N.length ≤ 3000) (hA : A ≤ 4) (hrow : ∀ q, q < N.length → ((N.getD q []).length : Int) = A) : ∀ n q, N.length - q = n → q ≤ N.length →
    ((N.drop q).any (fun w => w.any (bad (N.length : Int))) = true → Ev (fun k => evermoreref3_Check.l16 k (N.length : Int) (q : Int) A s N M) 2) ∧
    ((N.drop q).any (fun w => w.any (bad (N.length : Int))) = false → ∀ e, Ev (fun k => evermoreref3_Check.l24 k (N.length : Int) 0 A s N M) e → Ev (fun k => evermoreref3_Check.l16 k (N.length : Int) (q : Int) A s N M) e) := by
  intro n
  induction n with
  | zero =>
    intro q hn hq
    rw [List.drop_eq_nil_of_le (by omega)]
    refine ⟨fun h => by simp at h, fun _ e he => Ev.step (fun k => ?_) he⟩
    rw [evermoreref3_Check.l16, if_neg (by omega)]
  | succ n ih =>
    intro q hn hq
    obtain ⟨h1, h2⟩ := ih (q + 1) (by omega) (by omega)
    have R := r19 (M := M) (s := s) hN hA q (by omega) (hrow q (by omega)) _ 0 rfl (by omega)
    rw [List.drop_zero] at R
    rw [drop_getD [] N q (by omega), List.any_cons]
    by_cases hb : (N.getD q []).any (bad (N.length : Int)) = true
    · rw [hb, Bool.true_or]
      refine ⟨fun _ => Ev.step (fun k => ?_) (R.1 hb), fun h => by simp at h⟩
      rw [evermoreref3_Check.l16, if_pos (by omega)]; rfl
    · have hb' := (Bool.not_eq_true _).mp hb
      rw [hb', Bool.false_or]
      refine ⟨fun h => Ev.step (fun k => ?_) (R.2 hb' 2 (h1 h)), fun h e he => Ev.step (fun k => ?_) (R.2 hb' e (h2 h e he))⟩
      · rw [evermoreref3_Check.l16, if_pos (by omega)]; rfl
      · rw [evermoreref3_Check.l16, if_pos (by omega)]; rfl

theorem r9 (hN : N.length ≤ 3000) : ∀ n q, N.length - q = n → q ≤ N.length →
    ((N.drop q).any (badW A) = true → Ev (fun k => evermoreref3_Check.l9 k (N.length : Int) (q : Int) A s N M) 3) ∧
    ((N.drop q).any (badW A) = false → ∀ e, Ev (fun k => if s < 0 then some 2 else if (N.length : Int) ≤ s then some 2 else evermoreref3_Check.l16 k (N.length : Int) 0 A s N M) e → Ev (fun k => evermoreref3_Check.l9 k (N.length : Int) (q : Int) A s N M) e) := by
  intro n
  induction n with
  | zero =>
    intro q hn hq
    rw [List.drop_eq_nil_of_le (by omega)]
    refine ⟨fun h => by simp at h, fun _ e he => Ev.step (fun k => ?_) he⟩
    rw [evermoreref3_Check.l9, if_neg (by omega)]
  | succ n ih =>
    intro q hn hq
    obtain ⟨h1, h2⟩ := ih (q + 1) (by omega) (by omega)
    rw [drop_getD [] N q (by omega), List.any_cons]
    by_cases hb : ((N.getD q []).length : Int) = A
    · rw [show badW A (N.getD q []) = false by rw [badW, decide_eq_true hb]; rfl, Bool.false_or]
      refine ⟨fun h => Ev.step (fun k => ?_) (h1 h), fun h e he => Ev.step (fun k => ?_) (h2 h e he)⟩
      · rw [evermoreref3_Check.l9, if_pos (by omega), if_pos (by omega), if_pos (by omega), rd_nat, if_pos hb, wrSucc q (by omega)]
      · rw [evermoreref3_Check.l9, if_pos (by omega), if_pos (by omega), if_pos (by omega), rd_nat, if_pos hb, wrSucc q (by omega)]
    · rw [show badW A (N.getD q []) = true by rw [badW, decide_eq_false hb]; rfl, Bool.true_or]
      refine ⟨fun _ => Ev.step (h := fun _ => some 3) (fun k => ?_) (Ev.now _), fun h => by simp at h⟩
      rw [evermoreref3_Check.l9, if_pos (by omega), if_pos (by omega), if_pos (by omega), rd_nat, if_neg hb]

theorem any_at {α : Type} (d : α) (f : α → Bool) (w : List α) (h : w.any f = false) (j : Nat) (hj : j < w.length) : f (w.getD j d) = false := by
  rw [List.any_eq_false] at h
  have : w.getD j d ∈ w := by rw [List.getD_eq_getElem?_getD, List.getElem?_eq_getElem hj]; exact List.getElem_mem hj
  exact (Bool.not_eq_true _).mp (h _ this)
theorem bad_false {N b : Int} (h : bad N b = false) : 0 ≤ b ∧ b < N := by
  rw [bad, Bool.or_eq_false_iff, decide_eq_false_iff_not, decide_eq_false_iff_not] at h; omega

/-- Both say the same of an automaton. -/
theorem check_ev (A s : Int) (N : List (List Int)) (M : List Int) : ∃ e, Ev (fun k => det_Check.f k (A, s, N, M, ())) e ∧ Ev (fun k => evermoreref3_Check.f k (A, s, N, M, ())) e ∧ (e = 0 → Fit A s N M) := by
  by_cases h1 : A < 1
  · exact ⟨2, .all fun k => by rw [det_Check.f, if_pos h1], .all fun k => by rw [evermoreref3_Check.f, if_pos h1], fun h => absurd h (by decide)⟩
  by_cases h2 : 4 < A
  · exact ⟨2, .all fun k => by rw [det_Check.f, if_neg h1, if_pos h2], .all fun k => by rw [evermoreref3_Check.f, if_neg h1, if_pos h2], fun h => absurd h (by decide)⟩
  by_cases h3 : (N.length : Int) < 1
  · exact ⟨1, .all fun k => by rw [det_Check.f, if_neg h1, if_neg h2, if_pos h3], .all fun k => by rw [evermoreref3_Check.f, if_neg h1, if_neg h2, if_pos h3], fun h => absurd h (by decide)⟩
  by_cases h4 : 3000 < (N.length : Int)
  · exact ⟨1, .all fun k => by rw [det_Check.f, if_neg h1, if_neg h2, if_neg h3, if_pos h4], .all fun k => by rw [evermoreref3_Check.f, if_neg h1, if_neg h2, if_neg h3, if_pos h4], fun h => absurd h (by decide)⟩
  by_cases h5 : ¬ (M.length : Int) = (N.length : Int)
  · exact ⟨3, .all fun k => by rw [det_Check.f, if_neg h1, if_neg h2, if_neg h3, if_neg h4, if_neg h5], .all fun k => by rw [evermoreref3_Check.f, if_neg h1, if_neg h2, if_neg h3, if_neg h4, if_neg h5], fun h => absurd h (by decide)⟩
  have h5 := Decidable.not_not.1 h5
  have hN : N.length ≤ 3000 := by omega
  have R9 := r9 (A := A) (s := s) (M := M) hN _ 0 rfl (by omega)
  rw [List.drop_zero] at R9
  have C1 := con1 A s N M N hN
  by_cases hb : N.any (badW A) = true
  · refine ⟨3, ?_, ?_, fun h => absurd h (by decide)⟩
    · simp only [det_Check.f, if_neg h1, if_neg h2, if_neg h3, if_neg h4, if_pos h5]
      refine Ev.bind C1 ?_
      simp only [if_pos hb]; exact Ev.now _
    · simp only [evermoreref3_Check.f, if_neg h1, if_neg h2, if_neg h3, if_neg h4, if_pos h5]
      exact R9.1 hb
  have hb' := (Bool.not_eq_true _).mp hb
  have hrow : ∀ q, q < N.length → ((N.getD q []).length : Int) = A := by
    intro q hq
    have := any_at [] _ _ hb' q hq
    rw [badW, Bool.not_eq_false', decide_eq_true_iff] at this; exact this
  by_cases hs : bad (N.length : Int) s = true
  · refine ⟨2, ?_, ?_, fun h => absurd h (by decide)⟩
    · simp only [det_Check.f, if_neg h1, if_neg h2, if_neg h3, if_neg h4, if_pos h5]
      refine Ev.bind C1 ?_
      simp only [if_neg hb]
      refine Ev.bind (.all fun k => check2 k s _) ?_
      simp only [if_pos hs]; exact Ev.now _
    · simp only [evermoreref3_Check.f, if_neg h1, if_neg h2, if_neg h3, if_neg h4, if_pos h5]
      refine R9.2 hb' 2 ?_
      rw [bad, Bool.or_eq_true, decide_eq_true_iff, decide_eq_true_iff] at hs
      by_cases c0 : s < 0
      · simp only [if_pos c0]; exact Ev.now _
      · have c1 : (N.length : Int) ≤ s := hs.resolve_left c0
        simp only [if_neg c0, if_pos c1]; exact Ev.now _
  have hs' := bad_false ((Bool.not_eq_true _).mp hs)
  have hs0 : ¬ s < 0 := by omega
  have hs1 : ¬ (N.length : Int) ≤ s := by omega
  have C3 := con3 (N.length : Int) N hN (fun q hq => by have := hrow q hq; omega)
  have R16 := r16 (s := s) (M := M) hN (by omega) hrow _ 0 rfl (by omega)
  rw [List.drop_zero] at R16
  by_cases he : N.any (fun w => w.any (bad (N.length : Int))) = true
  · refine ⟨2, ?_, ?_, fun h => absurd h (by decide)⟩
    · simp only [det_Check.f, if_neg h1, if_neg h2, if_neg h3, if_neg h4, if_pos h5]
      refine Ev.bind C1 ?_
      simp only [if_neg hb]
      refine Ev.bind (.all fun k => check2 k s _) ?_
      simp only [if_neg hs]
      refine Ev.bind C3 ?_
      simp only [if_pos he]; exact Ev.now _
    · simp only [evermoreref3_Check.f, if_neg h1, if_neg h2, if_neg h3, if_neg h4, if_pos h5]
      refine R9.2 hb' 2 ?_
      simp only [if_neg hs0, if_neg hs1]
      exact R16.1 he
  have he' := (Bool.not_eq_true _).mp he
  have C4 := con4 M (by omega)
  have R24 := r24 (A := A) (s := s) hN (show M.length = N.length by omega) _ 0 rfl (by omega)
  rw [List.drop_zero] at R24
  refine ⟨if M.any badM = true then 2 else 0, ?_, ?_, fun h => ?_⟩
  · simp only [det_Check.f, if_neg h1, if_neg h2, if_neg h3, if_neg h4, if_pos h5]
    refine Ev.bind C1 ?_
    simp only [if_neg hb]
    refine Ev.bind (.all fun k => check2 k s _) ?_
    simp only [if_neg hs]
    refine Ev.bind C3 ?_
    simp only [if_neg he]
    refine Ev.bind C4 ?_
    by_cases hm : M.any badM = true
    · simp only [if_pos hm]; exact Ev.now _
    · simp only [if_neg hm]; exact Ev.now _
  · simp only [evermoreref3_Check.f, if_neg h1, if_neg h2, if_neg h3, if_neg h4, if_pos h5]
    refine R9.2 hb' _ ?_
    simp only [if_neg hs0, if_neg hs1]
    exact R16.2 he' _ R24
  · by_cases hm : M.any badM = true
    · rw [if_pos hm] at h; exact absurd h (by decide)
    · have hm' := (Bool.not_eq_true _).mp hm
      refine ⟨by omega, by omega, by omega, hN, by omega, hrow, hs', fun q hq a ha => ?_, fun q hq => ?_⟩
      · have := any_at [] _ _ he' q hq
        have hr := hrow q hq
        exact bad_false (any_at 0 _ _ this a (by omega))
      · have := any_at 0 _ _ hm' q (by omega)
        rw [badM, Bool.not_eq_false', Bool.or_eq_true, decide_eq_true_iff, decide_eq_true_iff] at this
        exact this
end Go.Proofs.YtiiioobebeaafaaSx.DC
namespace Go.Proofs.YtiiioobebeaafaaSx.DC
/-! Keys: two bytes a number. -/
def encB (x : Int) : List Int := [IntKind.u8.wrap x, IntKind.u8.wrap (x.fdiv (2 ^ min (Int.toNat 8) IntKind.i64.bits))]
theorem strOf_data (L : List Int) : ∀ r : ByteArray, (L.foldl (fun r n => r.push (UInt8.ofNat n.toNat)) r).data.toList = r.data.toList ++ L.map fun n => UInt8.ofNat n.toNat := by
  induction L with
  | nil => intro r; simp
  | cons a L ih => intro r; rw [List.foldl_cons, ih]; simp [ByteArray.push]
theorem wrap_u8 (x : Int) : IntKind.u8.wrap x = x % 256 := by
  simp [IntKind.wrap, IntKind.signed, IntKind.bits]
theorem enc_eq (x : Int) : encB x = [x % 256, (x / 256) % 256] := by
  have e : (2 : Int) ^ min (Int.toNat 8) IntKind.i64.bits = 256 := by decide
  rw [encB, wrap_u8, wrap_u8, e, Int.fdiv_eq_ediv_of_nonneg _ (by decide)]
theorem enc_inj : ∀ u v : List Int, u.length = v.length → (∀ x ∈ u, 0 ≤ x ∧ x < 65536) → (∀ x ∈ v, 0 ≤ x ∧ x < 65536) → (u.flatMap encB).map (fun n => UInt8.ofNat n.toNat) = (v.flatMap encB).map (fun n => UInt8.ofNat n.toNat) → u = v := by
  intro u
  induction u with
  | nil => intro v h _ _ _; cases v with
    | nil => rfl
    | cons => simp at h
  | cons a u ih =>
    intro v h hu hv e
    cases v with
    | nil => simp at h
    | cons b v =>
      have ha := hu a List.mem_cons_self
      have hb := hv b List.mem_cons_self
      rw [List.flatMap_cons, List.flatMap_cons, List.map_append, List.map_append, enc_eq, enc_eq] at e
      simp only [List.map_cons, List.map_nil, List.cons_append, List.nil_append, List.cons.injEq] at e
      have e1 := congrArg UInt8.toNat e.1
      have e2 := congrArg UInt8.toNat e.2.1
      have e3 := ih v (by simpa using h) (fun x hx => hu x (List.mem_cons_of_mem _ hx)) (fun x hx => hv x (List.mem_cons_of_mem _ hx)) e.2.2
      have t : ∀ n : Nat, n < 256 → (UInt8.ofNat n).toNat = n := by intro n hn; simp; omega
      rw [t _ (by omega), t _ (by omega)] at e1
      rw [t _ (by omega), t _ (by omega)] at e2
      rw [e3, show a = b by omega]
def text (u : List Int) : ByteArray := strOf (u.flatMap encB)
theorem text_inj {u v : List Int} (h : u.length = v.length) (hu : ∀ x ∈ u, 0 ≤ x ∧ x < 65536) (hv : ∀ x ∈ v, 0 ≤ x ∧ x < 65536) : text u = text v ↔ u = v := by
  refine ⟨fun e => enc_inj u v h hu hv ?_, fun e => e ▸ rfl⟩
  have e1 := congrArg (fun b : ByteArray => b.data.toList) e
  simp only [text, strOf, strOf_data] at e1
  simpa using e1

/-! Maps from keys to numbers in the order of their coming. -/
section
variable {α : Type} {K : Ty} (key : α → K.den)
def numb : Nat → List α → List (K.den × Int)
  | _, [] => []
  | i, a :: l => (key a, (i : Int)) :: numb (i + 1) l
theorem numb_len : ∀ (l : List α) (i : Nat), (numb key i l).length = l.length := by
  intro l
  induction l with
  | nil => intro i; rfl
  | cons a l ih => intro i; rw [numb, List.length_cons, List.length_cons, ih]
theorem numb_get (x : K.den) : ∀ (l : List α) (i : Nat), mget K (.int .i64) (numb key i l) x = if l.findIdx (fun a => K.beq x (key a)) < l.length then ((i + l.findIdx (fun a => K.beq x (key a)) : Nat) : Int) else (0 : Int) := by
  intro l
  induction l with
  | nil => intro i; rfl
  | cons a l ih =>
    intro i
    rw [List.findIdx_cons, List.length_cons]
    show (bif K.beq x (key a) then (i : Int) else mget K (.int .i64) (numb key (i + 1) l) x) = _
    cases h : K.beq x (key a) with
    | true => simp
    | false =>
      rw [cond_false, cond_false, ih]
      by_cases hl : l.findIdx (fun a => K.beq x (key a)) < l.length
      · rw [if_pos hl, if_pos (by omega)]; congr 1; omega
      · rw [if_neg hl, if_neg (by omega)]
theorem numb_has (x : K.den) : ∀ (l : List α) (i : Nat), mhas K (.int .i64) (numb key i l) x = decide (l.findIdx (fun a => K.beq x (key a)) < l.length) := by
  intro l
  induction l with
  | nil => intro i; rfl
  | cons a l ih =>
    intro i
    rw [List.findIdx_cons, List.length_cons]
    show (bif K.beq x (key a) then true else mhas K (.int .i64) (numb key (i + 1) l) x) = _
    cases h : K.beq x (key a) with
    | true => simp
    | false => rw [cond_false, cond_false, ih]; simp
theorem numb_put (b : α) : ∀ (l : List α) (i : Nat), ¬ l.findIdx (fun a => K.beq (key b) (key a)) < l.length → mput K (.int .i64) (numb key i l) (key b) ((i + l.length : Nat) : Int) = numb key i (l ++ [b]) := by
  intro l
  induction l with
  | nil => intro i _; rfl
  | cons a l ih =>
    intro i h
    rw [List.findIdx_cons, List.length_cons] at h
    show (bif K.beq (key b) (key a) then _ else _) = _
    cases hb : K.beq (key b) (key a) with
    | true => rw [hb] at h; simp at h
    | false =>
      rw [hb, cond_false] at h
      rw [cond_false]
      have := ih (i + 1) (by omega)
      rw [show i + 1 + l.length = i + (a :: l).length by simp; omega] at this
      exact congrArg (List.cons (key a, (i : Int))) this
end

/-! The program's row of bytes. -/
variable {A s : Int} {N : List (List Int)} {M : List Int}
theorem bytes10 (F : Fit A s N M) (cl : List Int) (hcl : cl.length = N.length) (count : Int) (q : Nat) (hq : q < N.length) (nu : List ((Int × (ByteArray × Unit)) × Int)) (nx : List Int) (r : List Int)
    (H : Ev (fun k => if mhas (.pair (.int .i64) (.pair .str .unit)) (.int .i64) nu (cl.getD q 0, text ((N.getD q []).map fun t => cl.getD t.toNat 0), ()) = true then
        det_Classes.j18 k count (q : Int) N (N.length : Int) (q : Int) A s N M cl nu nx (cl.getD q 0) (text ((N.getD q []).map fun t => cl.getD t.toNat 0))
      else det_Classes.j18 k count (q : Int) N (N.length : Int) (q : Int) A s N M cl (mput (.pair (.int .i64) (.pair .str .unit)) (.int .i64) nu (cl.getD q 0, text ((N.getD q []).map fun t => cl.getD t.toNat 0), ()) (nu.length : Int)) nx (cl.getD q 0) (text ((N.getD q []).map fun t => cl.getD t.toNat 0))) r) :
    ∀ n a, (N.getD q []).length - a = n → a ≤ (N.getD q []).length → Ev (fun k => det_Classes.l10 k count (q : Int) N (N.length : Int) (q : Int) (N.getD q []) ((N.getD q []).length : Int) (a : Int) A s N M cl nu nx ((((N.getD q []).take a).map fun t => cl.getD t.toNat 0).flatMap encB)) r := by
  have hrow := F.row q hq
  have a4 := F.a4
  have n3 := F.n3
  intro n
  induction n with
  | zero =>
    intro a hn ha
    rw [List.take_of_length_le (by omega)]
    refine Ev.step (fun k => ?_) H
    rw [det_Classes.l10, if_neg (by omega), if_pos (by omega), if_pos (by omega)]
    rfl
  | succ n ih =>
    intro a hn ha
    have he := F.ent q hq a (by omega)
    have c1 : (0 : Int) ≤ (N.getD q []).getD a (Int.ofNat 0) := he.1
    have c2 : (N.getD q []).getD a (Int.ofNat 0) < (cl.length : Int) := by rw [hcl]; exact he.2
    have hsz : ∀ l : List Int, (l.flatMap encB).length = 2 * l.length := by
      intro l
      induction l with
      | nil => rfl
      | cons x l ih => rw [List.flatMap_cons, List.length_append, ih, List.length_cons]; simp only [encB, List.length_cons, List.length_nil]; omega
    have e : (((N.getD q []).take a).map fun t => cl.getD t.toNat 0).flatMap encB ++ encB (cl.getD ((N.getD q []).getD a (Int.ofNat 0)).toNat (Int.ofNat 0)) = (((N.getD q []).take (a + 1)).map fun t => cl.getD t.toNat 0).flatMap encB := by
      rw [List.take_succ_eq_append_getElem (by omega), List.map_append, List.flatMap_append]
      congr 1
      simp only [List.map_cons, List.map_nil, List.flatMap_cons, List.flatMap_nil, List.append_nil]
      rw [List.getD_eq_getElem?_getD (l := N.getD q []), List.getElem?_eq_getElem (by omega)]
      rfl
    refine Ev.step (fun k => ?_) (ih (a + 1) (by omega) (by omega))
    have hs := short ((((N.getD q []).take (a + 1)).map fun t => cl.getD t.toNat 0).flatMap encB).length (by rw [hsz]; simp; omega)
    rw [← e] at hs ⊢
    rw [det_Classes.l10, if_pos (by omega), if_pos (by omega), if_pos (by omega), rd_nat, if_pos c1, if_pos c2, if_pos c1, if_pos c2, if_pos (by decide), wrSucc a (by omega)]
    exact if_pos hs
end Go.Proofs.YtiiioobebeaafaaSx.DC
namespace Go.Proofs.YtiiioobebeaafaaSx.DC
variable {A s : Int} {N : List (List Int)} {M : List Int}
/-- The classes of what is next. -/
def nexts (N : List (List Int)) (cl : List Int) (q : Nat) : List Int := (N.getD q []).map fun t => cl.getD t.toNat 0
def sg (N : List (List Int)) (cl : List Int) (q f : Nat) : Bool := decide (cl.getD q 0 = cl.getD f 0) && decide (nexts N cl q = nexts N cl f)
def stepC (N : List (List Int)) (cl : List Int) (st : List Nat × List Int) (q : Nat) : List Nat × List Int :=
  (if st.1.findIdx (sg N cl q) < st.1.length then st.1 else st.1 ++ [q], st.2.set q (st.1.findIdx (sg N cl q) : Nat))
def roundC (N : List (List Int)) (cl : List Int) : Nat → Nat → List Nat × List Int → List Nat × List Int
  | _, 0, st => st
  | q, n + 1, st => roundC N cl (q + 1) n (stepC N cl st q)

abbrev KT' : Ty := .pair (.int .i64) (.pair .str .unit)
def key (N : List (List Int)) (cl : List Int) (f : Nat) : KT'.den := (cl.getD f 0, text (nexts N cl f), ())
structure ClOk (N : List (List Int)) (cl : List Int) : Prop where
  len : cl.length = N.length
  rng : ∀ q, q < N.length → 0 ≤ cl.getD q 0 ∧ cl.getD q 0 < 65536

theorem nexts_len (F : Fit A s N M) (cl : List Int) {q : Nat} (hq : q < N.length) : ((nexts N cl q).length : Int) = A := by rw [nexts, List.length_map]; exact F.row q hq
theorem nexts_rng (F : Fit A s N M) {cl : List Int} (C : ClOk N cl) {q : Nat} (hq : q < N.length) : ∀ x ∈ nexts N cl q, 0 ≤ x ∧ x < 65536 := by
  intro x hx
  obtain ⟨t, ht, rfl⟩ := List.mem_map.1 hx
  obtain ⟨j, hj, e⟩ := List.getElem_of_mem ht
  have := F.ent q hq j (by have := F.row q hq; omega)
  rw [List.getD_eq_getElem?_getD (l := N.getD q []), List.getElem?_eq_getElem hj, Option.getD_some, e] at this
  exact C.rng _ (by omega)
theorem key_beq (F : Fit A s N M) {cl : List Int} (C : ClOk N cl) {q f : Nat} (hq : q < N.length) (hf : f < N.length) : KT'.beq (key N cl q) (key N cl f) = sg N cl q f := by
  have e : KT'.beq (key N cl q) (key N cl f) = bif decide (cl.getD q 0 = cl.getD f 0) then (bif decide (text (nexts N cl q) = text (nexts N cl f)) then true else false) else false := rfl
  rw [e, sg]
  have hl : (nexts N cl q).length = (nexts N cl f).length := by have := nexts_len F cl hq; have := nexts_len F cl hf; omega
  have t := text_inj hl (nexts_rng F C hq) (nexts_rng F C hf)
  by_cases h1 : cl.getD q 0 = cl.getD f 0
  · rw [decide_eq_true h1, cond_true, Bool.true_and]
    by_cases h2 : nexts N cl q = nexts N cl f
    · rw [decide_eq_true h2, decide_eq_true (t.2 h2)]; rfl
    · rw [decide_eq_false h2, decide_eq_false (fun e => h2 (t.1 e))]; rfl
  · rw [decide_eq_false h1]; rfl
theorem findIdx_congr {α : Type} {p p' : α → Bool} : ∀ l : List α, (∀ a ∈ l, p a = p' a) → l.findIdx p = l.findIdx p' := by
  intro l
  induction l with
  | nil => intro _; rfl
  | cons a l ih => intro h; rw [List.findIdx_cons, List.findIdx_cons, h a List.mem_cons_self, ih fun b hb => h b (List.mem_cons_of_mem _ hb)]
theorem sg_self (cl : List Int) (q : Nat) : sg N cl q q = true := by simp [sg]
theorem findIdx_app {α : Type} (p : α → Bool) (b : α) (hb : p b = true) : ∀ l : List α, (l ++ [b]).findIdx p = l.findIdx p := by
  intro l
  induction l with
  | nil => rw [List.nil_append, List.findIdx_cons, hb]; rfl
  | cons a l ih => rw [List.cons_append, List.findIdx_cons, List.findIdx_cons, ih]

theorem prog6 (F : Fit A s N M) (cl : List Int) (C : ClOk N cl) (count : Int) (r : List Int) : ∀ n q Fs nx, N.length - q = n → q ≤ N.length → nx.length = N.length → (∀ f ∈ Fs, f < N.length) →
    Ev (fun k => if (((roundC N cl q n (Fs, nx)).1.length : Nat) : Int) = count then some (roundC N cl q n (Fs, nx)).2 else det_Classes.l3 k (((roundC N cl q n (Fs, nx)).1.length : Nat) : Int) A s N M (roundC N cl q n (Fs, nx)).2) r →
    Ev (fun k => det_Classes.l6 k count N (N.length : Int) (q : Int) A s N M cl (numb (K := KT') (key N cl) 0 Fs) nx) r := by
  have n3 := F.n3
  intro n
  induction n with
  | zero =>
    intro q Fs nx hn hq hx hF H
    refine Ev.step (fun k => ?_) H
    rw [det_Classes.l6, if_neg (by omega), numb_len]
    rfl
  | succ n ih =>
    intro q Fs nx hn hq hx hF H
    have hq' : q < N.length := by omega
    have hidx : Fs.findIdx (fun a => KT'.beq (key N cl q) (key N cl a)) = Fs.findIdx (sg N cl q) := findIdx_congr Fs fun f hf => key_beq F C hq' (hF f hf)
    -- what follows, with the map as it is then
    have fol : ∀ Fs', (∀ f ∈ Fs', f < N.length) → Fs'.findIdx (sg N cl q) < Fs'.length → Fs'.findIdx (sg N cl q) = Fs.findIdx (sg N cl q) → Fs' = (stepC N cl (Fs, nx) q).1 →
        Ev (fun k => det_Classes.j18 k count (q : Int) N (N.length : Int) (q : Int) A s N M cl (numb (K := KT') (key N cl) 0 Fs') nx (cl.getD q 0) (text (nexts N cl q))) r := by
      intro Fs' hF' hlt heq hst
      have hg : mget KT' (.int .i64) (numb (K := KT') (key N cl) 0 Fs') (cl.getD q 0, text (nexts N cl q), ()) = ((Fs.findIdx (sg N cl q) : Nat) : Int) := by
        have := numb_get (K := KT') (key N cl) (key N cl q) Fs' 0
        rw [findIdx_congr Fs' fun f hf => key_beq F C hq' (hF' f hf), if_pos hlt, Nat.zero_add, heq] at this
        exact this
      have h1 := ih (q + 1) Fs' (nx.set q ((Fs.findIdx (sg N cl q) : Nat) : Int)) (by omega) (by omega) (by rw [List.length_set]; exact hx) hF' (by
        have e : (Fs', nx.set q ((Fs.findIdx (sg N cl q) : Nat) : Int)) = stepC N cl (Fs, nx) q := Prod.ext hst rfl
        rw [e]; exact H)
      refine Ev.step (fun k => ?_) h1
      rw [det_Classes.j18, if_pos (by omega), if_pos (by omega), hg, wrSucc q (by omega), Int.toNat_natCast]
    refine Ev.step (h := fun k => det_Classes.l10 k count (q : Int) N (N.length : Int) (q : Int) (N.getD q []) ((N.getD q []).length : Int) 0 A s N M cl (numb (K := KT') (key N cl) 0 Fs) nx []) (fun k => ?_) ?_
    · rw [det_Classes.l6, if_pos (by omega), if_pos (by omega), if_pos (by omega), rd_nat]
    · refine bytes10 F cl C.len count q hq' (numb (K := KT') (key N cl) 0 Fs) nx r ?_ _ 0 rfl (by omega)
      have hh : mhas KT' (.int .i64) (numb (K := KT') (key N cl) 0 Fs) (cl.getD q 0, text (nexts N cl q), ()) = decide (Fs.findIdx (sg N cl q) < Fs.length) := by
        have := numb_has (K := KT') (key N cl) (key N cl q) Fs 0
        rw [hidx] at this; exact this
      show Ev (fun k => if mhas KT' (.int .i64) (numb (K := KT') (key N cl) 0 Fs) (cl.getD q 0, text (nexts N cl q), ()) = true then
        det_Classes.j18 k count (q : Int) N (N.length : Int) (q : Int) A s N M cl (numb (K := KT') (key N cl) 0 Fs) nx (cl.getD q 0) (text (nexts N cl q))
        else det_Classes.j18 k count (q : Int) N (N.length : Int) (q : Int) A s N M cl (mput KT' (.int .i64) (numb (K := KT') (key N cl) 0 Fs) (cl.getD q 0, text (nexts N cl q), ()) ((numb (K := KT') (key N cl) 0 Fs).length : Int)) nx (cl.getD q 0) (text (nexts N cl q))) r
      rw [hh]
      by_cases hk : Fs.findIdx (sg N cl q) < Fs.length
      · simp only [decide_eq_true hk, if_true]
        exact fol Fs hF hk rfl (by rw [stepC, if_pos hk])
      · simp only [decide_eq_false hk, Bool.false_eq_true, if_false]
        have hp : mput KT' (.int .i64) (numb (K := KT') (key N cl) 0 Fs) (cl.getD q 0, text (nexts N cl q), ()) (((numb (K := KT') (key N cl) 0 Fs).length : Nat) : Int) = numb (K := KT') (key N cl) 0 (Fs ++ [q]) := by
          have := numb_put (K := KT') (key N cl) q Fs 0 (by rw [hidx]; exact hk)
          rw [Nat.zero_add] at this
          rw [numb_len]; exact this
        rw [hp]
        have hle := List.findIdx_le_length (xs := Fs) (p := sg N cl q)
        exact fol (Fs ++ [q]) (fun f hf => by
          rcases List.mem_append.1 hf with h | h
          · exact hF f h
          · rw [List.mem_singleton] at h; omega) (by rw [findIdx_app _ _ (sg_self cl q), List.length_append]; simp; omega) (findIdx_app _ _ (sg_self cl q) _) (by rw [stepC, if_neg hk])
end Go.Proofs.YtiiioobebeaafaaSx.DC
namespace Go.Proofs.YtiiioobebeaafaaSx.DC
variable {A s : Int} {N : List (List Int)} {M : List Int}
def ints (Fs : List Nat) : List Int := List.map (fun f : Nat => (f : Int)) Fs
theorem stepC_1 (cl : List Int) (Fs : List Nat) (nx : List Int) (q : Nat) : (stepC N cl (Fs, nx) q).1 = if Fs.findIdx (sg N cl q) < Fs.length then Fs else Fs ++ [q] := rfl
theorem stepC_2 (cl : List Int) (Fs : List Nat) (nx : List Int) (q : Nat) : (stepC N cl (Fs, nx) q).2 = nx.set q ((Fs.findIdx (sg N cl q) : Nat) : Int) := rfl
theorem ints_getD (Fs : List Nat) (j : Nat) (h : j < Fs.length) : (ints Fs).getD j (Int.ofNat 0) = ((Fs.getD j 0 : Nat) : Int) := by
  rw [List.getD_eq_getElem?_getD, List.getD_eq_getElem?_getD, ints, List.getElem?_map, List.getElem?_eq_getElem h]; rfl
theorem ints_len (Fs : List Nat) : (ints Fs).length = Fs.length := List.length_map ..
theorem nexts_getD (cl : List Int) (q a : Nat) (h : a < (N.getD q []).length) : (nexts N cl q).getD a 0 = cl.getD ((N.getD q []).getD a 0).toNat 0 := by
  rw [List.getD_eq_getElem?_getD (l := nexts N cl q), nexts, List.getElem?_map, List.getD_eq_getElem?_getD (l := N.getD q []), List.getElem?_eq_getElem h]; rfl

theorem ref14F (F : Fit A s N M) (cl : List Int) (count : Int) (q j : Nat) (hj : j < 1000000) (p : Nat) (Fs : List Nat) (nx : List Int) (r : List Int)
    (H : Ev (fun k => evermoreref3_Classes.l10 k count (Fs.length : Int) (q : Int) ((j + 1 : Nat) : Int) A s N M cl nx (ints Fs)) r) (a : Nat) :
    Ev (fun k => evermoreref3_Classes.l14 k count (Fs.length : Int) (q : Int) (j : Int) (p : Int) false (a : Int) A s N M cl nx (ints Fs)) r := by
  refine Ev.step (fun k => ?_) H
  rw [evermoreref3_Classes.l14]
  by_cases h : (a : Int) < A
  · rw [if_pos h]; simp only [Bool.false_eq_true, if_false, wrSucc j (by omega)]
  · rw [if_neg h]; simp only [Bool.false_eq_true, if_false, wrSucc j (by omega)]

theorem ref14 (F : Fit A s N M) (cl : List Int) (hcl : cl.length = N.length) (count : Int) (q : Nat) (hq : q < N.length) (Fs : List Nat) (hFs : Fs.length ≤ 3000) (j : Nat) (hj : j < Fs.length) (p : Nat) (hp : p < N.length) (nx : List Int) (r : List Int) : ∀ n a, A.toNat - a = n → (a : Int) ≤ A →
    ((nexts N cl p).drop a = (nexts N cl q).drop a → Ev (fun k => evermoreref3_Classes.j22 k count (Fs.length : Int) (q : Int) (j : Int) A s N M cl nx (ints Fs)) r →
      Ev (fun k => evermoreref3_Classes.l14 k count (Fs.length : Int) (q : Int) (j : Int) (p : Int) true (a : Int) A s N M cl nx (ints Fs)) r) ∧
    (¬ (nexts N cl p).drop a = (nexts N cl q).drop a → Ev (fun k => evermoreref3_Classes.l10 k count (Fs.length : Int) (q : Int) ((j + 1 : Nat) : Int) A s N M cl nx (ints Fs)) r →
      Ev (fun k => evermoreref3_Classes.l14 k count (Fs.length : Int) (q : Int) (j : Int) (p : Int) true (a : Int) A s N M cl nx (ints Fs)) r) := by
  have hrp := F.row p hp
  have hrq := F.row q hq
  have hlp := nexts_len F cl hp
  have hlq := nexts_len F cl hq
  have a4 := F.a4
  intro n
  induction n with
  | zero =>
    intro a hn ha
    rw [List.drop_eq_nil_of_le (by omega), List.drop_eq_nil_of_le (by omega)]
    refine ⟨fun _ H => Ev.step (fun k => ?_) H, fun h => absurd rfl h⟩
    rw [evermoreref3_Classes.l14, if_neg (by omega), if_pos rfl, if_neg (by omega)]
  | succ n ih =>
    intro a hn ha
    obtain ⟨h1, h2⟩ := ih (a + 1) (by omega) (by omega)
    have hep := F.ent p hp a (by omega)
    have heq := F.ent q hq a (by omega)
    have c1 : (0 : Int) ≤ (N.getD p []).getD a (Int.ofNat 0) := hep.1
    have c2 : (N.getD p []).getD a (Int.ofNat 0) < (cl.length : Int) := by rw [hcl]; exact hep.2
    have c3 : (0 : Int) ≤ (N.getD q []).getD a (Int.ofNat 0) := heq.1
    have c4 : (N.getD q []).getD a (Int.ofNat 0) < (cl.length : Int) := by rw [hcl]; exact heq.2
    have st : ∀ k, evermoreref3_Classes.l14 (k + 1) count (Fs.length : Int) (q : Int) (j : Int) (p : Int) true (a : Int) A s N M cl nx (ints Fs) =
        evermoreref3_Classes.l14 k count (Fs.length : Int) (q : Int) (j : Int) (p : Int) (decide ((nexts N cl p).getD a 0 = (nexts N cl q).getD a 0)) ((a + 1 : Nat) : Int) A s N M cl nx (ints Fs) := by
      intro k
      rw [evermoreref3_Classes.l14, if_pos (by omega), if_pos rfl, if_pos (by omega), if_pos (by omega), if_pos (by omega), rd_nat, if_pos (by omega), rd_nat, if_pos c1, if_pos c2, if_pos (by omega), if_pos (by omega), if_pos (by omega), rd_nat, if_pos (by omega), rd_nat, if_pos c3, if_pos c4, wrSucc a (by omega), nexts_getD cl p a (by omega), nexts_getD cl q a (by omega)]
      rfl
    rw [drop_getD 0 (nexts N cl p) a (by omega), drop_getD 0 (nexts N cl q) a (by omega)]
    by_cases he : (nexts N cl p).getD a 0 = (nexts N cl q).getD a 0
    · rw [decide_eq_true he] at st
      refine ⟨fun h H => Ev.step st (h1 (List.cons.inj h).2 H), fun h H => Ev.step st (h2 (fun e => h (by rw [he, e])) H)⟩
    · rw [decide_eq_false he] at st
      exact ⟨fun h => absurd (List.cons.inj h).1 he, fun _ H => Ev.step st (ref14F F cl count q j (by omega) p Fs nx r H (a + 1))⟩

theorem ref10 (F : Fit A s N M) (cl : List Int) (hcl : cl.length = N.length) (count : Int) (q : Nat) (hq : q < N.length) (Fs : List Nat) (hFs : Fs.length ≤ 3000) (hF : ∀ f ∈ Fs, f < N.length) (nx : List Int) (r : List Int)
    (H : Ev (fun k => evermoreref3_Classes.j22 k count (((stepC N cl (Fs, nx) q).1.length : Nat) : Int) (q : Int) ((Fs.findIdx (sg N cl q) : Nat) : Int) A s N M cl nx (ints (stepC N cl (Fs, nx) q).1)) r) : ∀ n j, Fs.length - j = n → j ≤ Fs.length → Fs.findIdx (sg N cl q) = j + (Fs.drop j).findIdx (sg N cl q) →
    Ev (fun k => evermoreref3_Classes.l10 k count (Fs.length : Int) (q : Int) (j : Int) A s N M cl nx (ints Fs)) r := by
  intro n
  induction n with
  | zero =>
    intro j hn hj he
    rw [List.drop_eq_nil_of_le (by omega)] at he
    have hidx : Fs.findIdx (sg N cl q) = Fs.length := by rw [he]; simp; omega
    rw [stepC_1, if_neg (by rw [hidx]; omega), hidx] at H
    refine Ev.step (fun k => ?_) H
    have hj' : j = Fs.length := by omega
    subst hj'
    rw [evermoreref3_Classes.l10, if_neg (by omega), if_pos rfl, if_pos (short _ (by rw [List.length_append, ints_len]; simp; omega)), wrSucc _ (by omega)]
    rw [show ints Fs ++ [(q : Int)] = ints (Fs ++ [q]) by simp [ints], List.length_append]
    rfl
  | succ n ih =>
    intro j hn hj he
    have hp : Fs.getD j 0 < N.length := hF _ (by rw [List.getD_eq_getElem?_getD, List.getElem?_eq_getElem (by omega)]; exact List.getElem_mem (by omega))
    have hig := ints_getD Fs j (by omega)
    rw [drop_getD 0 Fs j (by omega), List.findIdx_cons] at he
    have st : ∀ k, evermoreref3_Classes.l10 (k + 1) count (Fs.length : Int) (q : Int) (j : Int) A s N M cl nx (ints Fs) =
        evermoreref3_Classes.l14 k count (Fs.length : Int) (q : Int) (j : Int) ((Fs.getD j 0 : Nat) : Int) (decide (cl.getD (Fs.getD j 0) 0 = cl.getD q 0)) 0 A s N M cl nx (ints Fs) := by
      intro k
      rw [evermoreref3_Classes.l10, if_pos (by omega), if_pos (by omega), if_pos (by rw [ints_len]; omega), Int.toNat_natCast, hig, if_pos (by omega), if_pos (by omega), if_pos (by omega), if_pos (by omega), Int.toNat_natCast, Int.toNat_natCast]
      rfl
    obtain ⟨h1, h2⟩ := ref14 F cl hcl count q hq Fs hFs j (by omega) (Fs.getD j 0) hp nx r _ 0 rfl (by have := F.a1; omega)
    rw [List.drop_zero, List.drop_zero] at h1 h2
    by_cases hc : cl.getD (Fs.getD j 0) 0 = cl.getD q 0
    · rw [decide_eq_true hc] at st
      by_cases hx : nexts N cl (Fs.getD j 0) = nexts N cl q
      · have hs : sg N cl q (Fs.getD j 0) = true := by rw [sg, decide_eq_true hc.symm, decide_eq_true hx.symm]; rfl
        rw [hs, cond_true, Nat.add_zero] at he
        rw [stepC_1, if_pos (by rw [he]; omega), he] at H
        exact Ev.step st (h1 hx H)
      · have hs : sg N cl q (Fs.getD j 0) = false := by rw [sg, decide_eq_false (show ¬ nexts N cl q = nexts N cl (Fs.getD j 0) from fun e => hx e.symm), Bool.and_false]
        rw [hs, cond_false] at he
        exact Ev.step st (h2 hx (ih (j + 1) (by omega) (by omega) (by omega)))
    · rw [decide_eq_false hc] at st
      have hs : sg N cl q (Fs.getD j 0) = false := by rw [sg, decide_eq_false (show ¬ cl.getD q 0 = cl.getD (Fs.getD j 0) 0 from fun e => hc e.symm), Bool.false_and]
      rw [hs, cond_false] at he
      exact Ev.step st (ref14F F cl count q j (by omega) _ Fs nx r (ih (j + 1) (by omega) (by omega) (by omega)) 0)

theorem ref7 (F : Fit A s N M) (cl : List Int) (hcl : cl.length = N.length) (count : Int) (r : List Int) : ∀ n q Fs nx, N.length - q = n → q ≤ N.length → nx.length = N.length → (∀ f ∈ Fs, f < N.length) → Fs.length ≤ q →
    Ev (fun k => if (((roundC N cl q n (Fs, nx)).1.length : Nat) : Int) = count then some (roundC N cl q n (Fs, nx)).2 else evermoreref3_Classes.l3 k (((roundC N cl q n (Fs, nx)).1.length : Nat) : Int) A s N M (roundC N cl q n (Fs, nx)).2) r →
    Ev (fun k => evermoreref3_Classes.l7 k count (Fs.length : Int) (q : Int) A s N M cl nx (ints Fs)) r := by
  have n3 := F.n3
  intro n
  induction n with
  | zero =>
    intro q Fs nx hn hq hx hF hl H
    refine Ev.step (fun k => ?_) H
    rw [evermoreref3_Classes.l7, if_neg (by omega)]
    rfl
  | succ n ih =>
    intro q Fs nx hn hq hx hF hl H
    have hq' : q < N.length := by omega
    have h1 := ih (q + 1) (stepC N cl (Fs, nx) q).1 (stepC N cl (Fs, nx) q).2 (by omega) (by omega) (by rw [stepC_2, List.length_set]; exact hx) (fun f hf => by
      rw [stepC_1] at hf
      by_cases hk : Fs.findIdx (sg N cl q) < Fs.length
      · rw [if_pos hk] at hf; exact hF f hf
      · rw [if_neg hk] at hf
        rcases List.mem_append.1 hf with h | h
        · exact hF f h
        · rw [List.mem_singleton] at h; omega) (by
      rw [stepC_1]
      by_cases hk : Fs.findIdx (sg N cl q) < Fs.length
      · rw [if_pos hk]; omega
      · rw [if_neg hk, List.length_append]; simp; omega) H
    refine Ev.step (h := fun k => evermoreref3_Classes.l10 k count (Fs.length : Int) (q : Int) 0 A s N M cl nx (ints Fs)) (fun k => ?_) (ref10 F cl hcl count q hq' Fs (by omega) hF nx r (Ev.step (fun k => ?_) h1) _ 0 rfl (by omega) (by rw [List.drop_zero, Nat.zero_add]))
    · rw [evermoreref3_Classes.l7, if_pos (by omega)]
    · rw [evermoreref3_Classes.j22, if_pos (by omega), if_pos (by omega), wrSucc q (by omega), Int.toNat_natCast]
      rfl
end Go.Proofs.YtiiioobebeaafaaSx.DC
namespace Go.Proofs.YtiiioobebeaafaaSx.DC
variable {A s : Int} {N : List (List Int)} {M : List Int}
theorem nodup_sub {α : Type} [DecidableEq α] : ∀ (L T : List α), L.Nodup → (∀ x ∈ L, x ∈ T) → L.length ≤ T.length := by
  intro L
  induction L with
  | nil => intro T _ _; simp
  | cons a L ih =>
    intro T hn h
    rw [List.nodup_cons] at hn
    have ha := h a List.mem_cons_self
    have := ih (T.erase a) hn.2 (fun x hx => (List.mem_erase_of_ne (show x ≠ a from fun e => hn.1 (e ▸ hx))).2 (h x (List.mem_cons_of_mem _ hx)))
    rw [List.length_erase_of_mem ha] at this
    have : 0 < T.length := List.length_pos_of_mem ha
    simp only [List.length_cons]; omega

/-- What a round has made when the states below q are done. -/
structure Done (N : List (List Int)) (cl : List Int) (q : Nat) (Fs : List Nat) (nx : List Int) : Prop where
  len : nx.length = N.length
  lt : ∀ i, i < Fs.length → Fs.getD i 0 < q ∧ nx.getD (Fs.getD i 0) 0 = (i : Int)
  num : ∀ p, p < q → ∃ i, i < Fs.length ∧ nx.getD p 0 = (i : Int) ∧ sg N cl p (Fs.getD i 0) = true
  cnt : Fs.length ≤ q

theorem getD_set_int (l : List Int) (x y : Nat) (v : Int) : (l.set x v).getD y 0 = if x = y ∧ y < l.length then v else l.getD y 0 := by
  rw [List.getD_eq_getElem?_getD, List.getD_eq_getElem?_getD, List.getElem?_set]
  by_cases h : x = y
  · subst h
    by_cases h2 : x < l.length
    · simp [h2]
    · simp [h2]
  · simp [h]
theorem getD_app_left (l : List Nat) (b i : Nat) (h : i < l.length) : (l ++ [b]).getD i 0 = l.getD i 0 := by
  rw [List.getD_eq_getElem?_getD, List.getElem?_append_left h, ← List.getD_eq_getElem?_getD]
theorem getD_app_last (l : List Nat) (b : Nat) : (l ++ [b]).getD l.length 0 = b := by
  rw [List.getD_eq_getElem?_getD, List.getElem?_append_right (Nat.le_refl _), Nat.sub_self]; rfl
theorem findIdx_hit (p : Nat → Bool) (l : List Nat) (h : l.findIdx p < l.length) : p (l.getD (l.findIdx p) 0) = true := by
  rw [List.getD_eq_getElem?_getD, List.getElem?_eq_getElem h]
  exact List.findIdx_getElem (w := h)

theorem Done.step {cl : List Int} {q : Nat} {Fs : List Nat} {nx : List Int} (D : Done N cl q Fs nx) (hq : q < N.length) : Done N cl (q + 1) (stepC N cl (Fs, nx) q).1 (stepC N cl (Fs, nx) q).2 := by
  have hl := D.len
  have hq2 : q < nx.length := by rw [hl]; exact hq
  rw [stepC_1, stepC_2]
  have hset : ∀ v y, y < q → (nx.set q v).getD y 0 = nx.getD y 0 := by
    intro v y hy; rw [getD_set_int, if_neg (by omega)]
  have hself : ∀ v, (nx.set q v).getD q 0 = v := by
    intro v; rw [getD_set_int, if_pos ⟨rfl, hq2⟩]
  by_cases hk : Fs.findIdx (sg N cl q) < Fs.length
  · rw [if_pos hk]
    refine ⟨by rw [List.length_set]; exact hl, fun i hi => ?_, fun p hp => ?_, by have := D.cnt; omega⟩
    · obtain ⟨a, b⟩ := D.lt i hi
      exact ⟨by omega, by rw [hset _ _ a]; exact b⟩
    · by_cases hpq : p = q
      · subst hpq; exact ⟨_, hk, hself _, findIdx_hit _ _ hk⟩
      · obtain ⟨i, a, b, c⟩ := D.num p (by omega)
        exact ⟨i, a, by rw [hset _ _ (by omega)]; exact b, c⟩
  · rw [if_neg hk]
    have hle : Fs.findIdx (sg N cl q) = Fs.length := by have := List.findIdx_le_length (xs := Fs) (p := sg N cl q); omega
    rw [hle]
    refine ⟨by rw [List.length_set]; exact hl, fun i hi => ?_, fun p hp => ?_, by rw [List.length_append]; have := D.cnt; simp; omega⟩
    · rw [List.length_append, List.length_singleton] at hi
      by_cases hi2 : i < Fs.length
      · obtain ⟨a, b⟩ := D.lt i hi2
        rw [getD_app_left _ _ _ hi2]
        exact ⟨by omega, by rw [hset _ _ a]; exact b⟩
      · have : i = Fs.length := by omega
        subst this
        rw [getD_app_last]; exact ⟨by omega, hself _⟩
    · by_cases hpq : p = q
      · subst hpq; exact ⟨Fs.length, by simp, hself _, by rw [getD_app_last]; exact sg_self cl p⟩
      · obtain ⟨i, a, b, c⟩ := D.num p (by omega)
        exact ⟨i, by rw [List.length_append]; omega, by rw [hset _ _ (by omega)]; exact b, by rw [getD_app_left _ _ _ a]; exact c⟩

theorem Done.round {cl : List Int} : ∀ n q Fs nx, N.length - q = n → q ≤ N.length → Done N cl q Fs nx → Done N cl N.length (roundC N cl q n (Fs, nx)).1 (roundC N cl q n (Fs, nx)).2 := by
  intro n
  induction n with
  | zero => intro q Fs nx hn hq D; have : q = N.length := by omega
            subst this; exact D
  | succ n ih =>
    intro q Fs nx hn hq D
    exact ih (q + 1) _ _ (by omega) (by omega) (D.step (by omega))
theorem Done.whole (N : List (List Int)) (cl : List Int) : Done N cl N.length (roundC N cl 0 N.length ([], List.replicate N.length 0)).1 (roundC N cl 0 N.length ([], List.replicate N.length 0)).2 :=
  Done.round _ 0 _ _ rfl (by omega) ⟨by simp, fun i hi => by simp at hi, fun p hp => by omega, by simp⟩
end Go.Proofs.YtiiioobebeaafaaSx.DC
namespace Go.Proofs.YtiiioobebeaafaaSx.DC
variable {A s : Int} {N : List (List Int)} {M : List Int}
/-! What words tell of states. -/
def aft (N : List (List Int)) : Nat → List Nat → Nat
  | q, [] => q
  | q, a :: w => aft N ((N.getD q []).getD a 0).toNat w
/-- No word tells a state of the one from a state of the other. -/
def Same (A : Int) (N : List (List Int)) (M : List Int) (p : Nat) (N' : List (List Int)) (M' : List Int) (p' : Nat) : Prop :=
  ∀ w : List Nat, (∀ a ∈ w, (a : Int) < A) → M.getD (aft N p w) 0 = M'.getD (aft N' p' w) 0
theorem Same.symm {N' : List (List Int)} {M' : List Int} {p p' : Nat} (h : Same A N M p N' M' p') : Same A N' M' p' N M p := fun w hw => (h w hw).symm
theorem Same.trans {N' N'' : List (List Int)} {M' M'' : List Int} {p p' p'' : Nat} (h : Same A N M p N' M' p') (h' : Same A N' M' p' N'' M'' p'') : Same A N M p N'' M'' p'' := fun w hw => (h w hw).trans (h' w hw)
theorem Same.mark {N' : List (List Int)} {M' : List Int} {p p' : Nat} (h : Same A N M p N' M' p') : M.getD p 0 = M'.getD p' 0 := h [] (fun a ha => by simp at ha)
theorem Same.next {N' : List (List Int)} {M' : List Int} {p p' : Nat} (h : Same A N M p N' M' p') (a : Nat) (ha : (a : Int) < A) : Same A N M ((N.getD p []).getD a 0).toNat N' M' ((N'.getD p' []).getD a 0).toNat := fun w hw => h (a :: w) (fun b hb => by
  rcases List.mem_cons.1 hb with h | h
  · rw [h]; exact ha
  · exact hw b h)
theorem Same.refl (p : Nat) : Same A N M p N M p := fun w hw => rfl
/-- A relation that the steps keep. -/
theorem Same.of {N' : List (List Int)} {M' : List Int} (R : Nat → Nat → Prop) (hm : ∀ p p', R p p' → M.getD p 0 = M'.getD p' 0) (hn : ∀ p p' (a : Nat), R p p' → (a : Int) < A → R ((N.getD p []).getD a 0).toNat ((N'.getD p' []).getD a 0).toNat) : ∀ (p p' : Nat), R p p' → Same A N M p N' M' p' := by
  intro p p' h w
  induction w generalizing p p' with
  | nil => intro _; exact hm _ _ h
  | cons a w ih => intro hw; exact ih _ _ (hn _ _ a h (hw a List.mem_cons_self)) (fun b hb => hw b (List.mem_cons_of_mem _ hb))
/-- States that no word tells apart have one class. -/
def Coarse (A : Int) (N : List (List Int)) (M cl : List Int) : Prop := ∀ p p', p < N.length → p' < N.length → Same A N M p N M p' → cl.getD p 0 = cl.getD p' 0

def Uni (N : List (List Int)) (cl : List Int) (Fs : List Nat) : Prop := ∀ i i', i < Fs.length → i' < Fs.length → sg N cl (Fs.getD i 0) (Fs.getD i' 0) = true → i = i'
theorem sg_iff {cl : List Int} {p q : Nat} : sg N cl p q = true ↔ cl.getD p 0 = cl.getD q 0 ∧ nexts N cl p = nexts N cl q := by
  rw [sg, Bool.and_eq_true, decide_eq_true_iff, decide_eq_true_iff]
theorem sg_symm {cl : List Int} {p q : Nat} (h : sg N cl p q = true) : sg N cl q p = true := by
  rw [sg_iff] at h ⊢; exact ⟨h.1.symm, h.2.symm⟩
theorem sg_trans {cl : List Int} {p q r : Nat} (h : sg N cl p q = true) (h' : sg N cl q r = true) : sg N cl p r = true := by
  rw [sg_iff] at h h' ⊢; exact ⟨h.1.trans h'.1, h.2.trans h'.2⟩
theorem Uni.step {cl : List Int} {Fs : List Nat} {nx : List Int} (U : Uni N cl Fs) (q : Nat) : Uni N cl (stepC N cl (Fs, nx) q).1 := by
  rw [stepC_1]
  by_cases hk : Fs.findIdx (sg N cl q) < Fs.length
  · rw [if_pos hk]; exact U
  · rw [if_neg hk]
    have hno : ∀ i, i < Fs.length → sg N cl q (Fs.getD i 0) = true → False := by
      intro i hi h
      apply hk
      rw [List.findIdx_lt_length]
      exact ⟨Fs.getD i 0, by rw [List.getD_eq_getElem?_getD, List.getElem?_eq_getElem hi]; exact List.getElem_mem hi, h⟩
    intro i i' hi hi' h
    rw [List.length_append, List.length_singleton] at hi hi'
    by_cases h1 : i < Fs.length
    · rw [getD_app_left _ _ _ h1] at h
      by_cases h2 : i' < Fs.length
      · rw [getD_app_left _ _ _ h2] at h; exact U i i' h1 h2 h
      · have : i' = Fs.length := by omega
        subst this
        rw [getD_app_last] at h; exact (hno i h1 (sg_symm h)).elim
    · have : i = Fs.length := by omega
      subst this
      rw [getD_app_last] at h
      by_cases h2 : i' < Fs.length
      · rw [getD_app_left _ _ _ h2] at h; exact (hno i' h2 h).elim
      · omega
theorem Uni.round {cl : List Int} : ∀ n q Fs nx, Uni N cl Fs → Uni N cl (roundC N cl q n (Fs, nx)).1 := by
  intro n
  induction n with
  | zero => intro q Fs nx U; exact U
  | succ n ih => intro q Fs nx U; exact ih (q + 1) _ _ (U.step q)
theorem Coarse.round (F : Fit A s N M) {cl : List Int} (H : Coarse A N M cl) : Coarse A N M (roundC N cl 0 N.length ([], List.replicate N.length 0)).2 := by
  have D := Done.whole N cl
  have U : Uni N cl (roundC N cl 0 N.length ([], List.replicate N.length 0)).1 := Uni.round _ 0 _ _ (fun i i' hi => by simp at hi)
  intro p p' hp hp' h
  obtain ⟨i, hi, e, g⟩ := D.num p hp
  obtain ⟨i', hi', e', g'⟩ := D.num p' hp'
  have hs : sg N cl p p' = true := by
    rw [sg_iff]
    refine ⟨H p p' hp hp' h, ?_⟩
    have l1 := F.row p hp
    have l2 := F.row p' hp'
    apply List.ext_getElem (by rw [nexts, nexts, List.length_map, List.length_map]; omega)
    intro j h1 h2
    rw [nexts, List.length_map] at h1 h2
    have e1 := nexts_getD (N := N) cl p j h1
    have e2 := nexts_getD (N := N) cl p' j h2
    rw [List.getD_eq_getElem?_getD (l := nexts N cl p), List.getElem?_eq_getElem (by rw [nexts, List.length_map]; exact h1), Option.getD_some] at e1
    rw [List.getD_eq_getElem?_getD (l := nexts N cl p'), List.getElem?_eq_getElem (by rw [nexts, List.length_map]; exact h2), Option.getD_some] at e2
    rw [e1, e2]
    have q1 := F.ent p hp j (by omega)
    have q2 := F.ent p' hp' j (by omega)
    exact H _ _ (by omega) (by omega) (h.next j (by omega))
  have : i = i' := U i i' hi hi' (sg_trans (sg_symm g) (sg_trans hs g'))
  rw [e, e', this]
end Go.Proofs.YtiiioobebeaafaaSx.DC
namespace Go.Proofs.YtiiioobebeaafaaSx.DC
variable {A s : Int} {N : List (List Int)} {M : List Int}
structure Att (N : List (List Int)) (c : Nat) (cl : List Int) : Prop where
  hit : ∀ i, i < c → ∃ q, q < N.length ∧ cl.getD q 0 = (i : Int)
  lt : c = 0 ∨ ∀ q, q < N.length → ∃ i, i < c ∧ cl.getD q 0 = (i : Int)
structure Stable (N : List (List Int)) (M : List Int) (cl : List Int) : Prop where
  len : cl.length = N.length
  num : ∀ q, q < N.length → 0 ≤ cl.getD q 0 ∧ cl.getD q 0 < (N.length : Int)
  mark : ∀ p p', p < N.length → p' < N.length → cl.getD p 0 = cl.getD p' 0 → M.getD p 0 = M.getD p' 0
  next : ∀ p p', p < N.length → p' < N.length → cl.getD p 0 = cl.getD p' 0 → nexts N cl p = nexts N cl p'

theorem sg_eq {cl : List Int} {p q : Nat} (h : sg N cl p q = true) : cl.getD p 0 = cl.getD q 0 ∧ nexts N cl p = nexts N cl q := by
  rw [sg, Bool.and_eq_true, decide_eq_true_iff, decide_eq_true_iff] at h; exact h
theorem mem_of {Fs : List Nat} {i : Nat} (h : i < Fs.length) : Fs.getD i 0 ∈ Fs := by
  rw [List.getD_eq_getElem?_getD, List.getElem?_eq_getElem h]; exact List.getElem_mem h
theorem nodup_range (c : Nat) : ((List.range c).map fun i : Nat => (i : Int)).Nodup := by
  rw [List.nodup_iff_pairwise_ne, List.pairwise_map]
  exact List.Pairwise.imp (fun {a b} h => by omega) List.pairwise_lt_range
theorem covers {c : Nat} {cl : List Int} {Fs : List Nat} {nx : List Int} (T : Att N c cl) (D : Done N cl N.length Fs nx) : ∀ x ∈ (List.range c).map (fun i : Nat => (i : Int)), ∃ i, i < Fs.length ∧ cl.getD (Fs.getD i 0) 0 = x := by
  intro x hx
  obtain ⟨i, hi, rfl⟩ := List.mem_map.1 hx
  rw [List.mem_range] at hi
  obtain ⟨q, hq, e⟩ := T.hit i hi
  obtain ⟨j, hj, _, h⟩ := D.num q hq
  exact ⟨j, hj, by rw [← (sg_eq h).1, e]⟩
theorem grows {c : Nat} {cl : List Int} {Fs : List Nat} {nx : List Int} (T : Att N c cl) (D : Done N cl N.length Fs nx) : c ≤ Fs.length := by
  have := nodup_sub _ (Fs.map fun f => cl.getD f 0) (nodup_range c) (fun x hx => by
    obtain ⟨i, hi, e⟩ := covers T D x hx
    exact List.mem_map.2 ⟨_, mem_of hi, e⟩)
  simpa using this
theorem same_nx {c : Nat} {cl : List Int} {Fs : List Nat} {nx : List Int} (T : Att N c cl) (D : Done N cl N.length Fs nx) (hc : Fs.length = c) {p p' : Nat} (hp : p < N.length) (hp' : p' < N.length) (e : cl.getD p 0 = cl.getD p' 0) : nx.getD p 0 = nx.getD p' 0 := by
  obtain ⟨i, hi, e1, s1⟩ := D.num p hp
  obtain ⟨i', hi', e2, s2⟩ := D.num p' hp'
  by_cases hii : i = i'
  · rw [e1, e2, hii]
  · exfalso
    have ee : cl.getD (Fs.getD i 0) 0 = cl.getD (Fs.getD i' 0) 0 := by rw [← (sg_eq s1).1, ← (sg_eq s2).1, e]
    have := nodup_sub _ ((Fs.map fun f => cl.getD f 0).eraseIdx i') (nodup_range c) (fun x hx => by
      obtain ⟨j, hj, ej⟩ := covers T D x hx
      rw [List.mem_eraseIdx_iff_getElem]
      have hg : ∀ j (h : j < Fs.length), (Fs.map fun f => cl.getD f 0)[j]'(by simpa using h) = cl.getD (Fs.getD j 0) 0 := by
        intro j h
        rw [List.getElem_map, List.getD_eq_getElem?_getD (l := Fs), List.getElem?_eq_getElem h]; rfl
      by_cases hji : j = i'
      · exact ⟨i, by simpa using hi, hii, by rw [hg i hi, ee, ← hji]; exact ej⟩
      · exact ⟨j, by simpa using hj, hji, by rw [hg j hj]; exact ej⟩)
    rw [List.length_eraseIdx_of_lt (by simpa using hi')] at this
    simp at this; omega

theorem rounds (F : Fit A s N M) : ∀ n c cl, N.length - c = n → c ≤ N.length → ClOk N cl → Coarse A N M cl → Att N c cl → (∀ p p', p < N.length → p' < N.length → cl.getD p 0 = cl.getD p' 0 → M.getD p 0 = M.getD p' 0) →
    ∃ C, Stable N M C ∧ Coarse A N M C ∧ Ev (fun k => det_Classes.l3 k (c : Int) A s N M cl) C ∧ Ev (fun k => evermoreref3_Classes.l3 k (c : Int) A s N M cl) C := by
  have n3 := F.n3; have n1 := F.n1
  intro n
  induction n using Nat.strongRecOn with
  | _ n ih =>
    intro c cl hn hc C HC T hM
    have HC2 := HC.round F
    have D := Done.whole N cl
    have P := fun r => prog6 F cl C (c : Int) r _ 0 [] (List.replicate N.length 0) rfl (by omega) (by simp) (by simp)
    have R := fun r => ref7 F cl C.len (c : Int) r _ 0 [] (List.replicate N.length 0) rfl (by omega) (by simp) (by simp) (by simp)
    rw [Nat.sub_zero] at P R
    generalize (roundC N cl 0 N.length ([], List.replicate N.length 0)).1 = Fs at D P R
    generalize (roundC N cl 0 N.length ([], List.replicate N.length 0)).2 = nx at D P R HC2
    have hg := grows T D
    have hcnt := D.cnt
    have hstep : ∀ C', (Ev (fun k => if ((Fs.length : Nat) : Int) = (c : Int) then some nx else det_Classes.l3 k ((Fs.length : Nat) : Int) A s N M nx) C') → (Ev (fun k => if ((Fs.length : Nat) : Int) = (c : Int) then some nx else evermoreref3_Classes.l3 k ((Fs.length : Nat) : Int) A s N M nx) C') →
        Ev (fun k => det_Classes.l3 k (c : Int) A s N M cl) C' ∧ Ev (fun k => evermoreref3_Classes.l3 k (c : Int) A s N M cl) C' := by
      intro C' h1 h2
      have hl := C.len
      refine ⟨Ev.step (fun k => ?_) (P C' h1), Ev.step (fun k => ?_) (R C' h2)⟩
      · rw [det_Classes.l3, if_pos (by omega), if_pos (by omega), if_pos (by omega), Int.toNat_natCast, hl]; rfl
      · rw [evermoreref3_Classes.l3, if_pos (by omega), if_pos (by omega), if_pos (by omega), Int.toNat_natCast, hl]; rfl
    have hnum : ∀ q, q < N.length → 0 ≤ nx.getD q 0 ∧ nx.getD q 0 < (Fs.length : Int) := by
      intro q hq
      obtain ⟨i, a, b, _⟩ := D.num q hq
      omega
    have hfine : ∀ p p', p < N.length → p' < N.length → nx.getD p 0 = nx.getD p' 0 → cl.getD p 0 = cl.getD p' 0 ∧ nexts N cl p = nexts N cl p' := by
      intro p p' hp hp' e
      obtain ⟨i, a, b, h⟩ := D.num p hp
      obtain ⟨i', a', b', h'⟩ := D.num p' hp'
      have : i = i' := by omega
      subst this
      exact ⟨(sg_eq h).1.trans (sg_eq h').1.symm, (sg_eq h).2.trans (sg_eq h').2.symm⟩
    by_cases hend : Fs.length = c
    · refine ⟨nx, ⟨D.len, fun q hq => by have := hnum q hq; omega, fun p p' hp hp' e => hM p p' hp hp' (hfine p p' hp hp' e).1, fun p p' hp hp' e => ?_⟩, HC2, hstep nx ?_ ?_⟩
      · have hx := (hfine p p' hp hp' e).2
        have l1 := F.row p hp
        have l2 := F.row p' hp'
        apply List.ext_getElem (by rw [nexts, nexts, List.length_map, List.length_map]; omega)
        intro j h1 h2
        rw [nexts, List.length_map] at h1 h2
        have e1 := nexts_getD (N := N) nx p j h1
        have e2 := nexts_getD (N := N) nx p' j h2
        rw [List.getD_eq_getElem?_getD (l := nexts N nx p), List.getElem?_eq_getElem (by rw [nexts, List.length_map]; exact h1), Option.getD_some] at e1
        rw [List.getD_eq_getElem?_getD (l := nexts N nx p'), List.getElem?_eq_getElem (by rw [nexts, List.length_map]; exact h2), Option.getD_some] at e2
        rw [e1, e2]
        have q1 := F.ent p hp j (by omega)
        have q2 := F.ent p' hp' j (by omega)
        refine same_nx T D hend (by omega) (by omega) ?_
        rw [← nexts_getD cl p j h1, ← nexts_getD cl p' j h2, hx]
      · simp only [if_pos (show ((Fs.length : Nat) : Int) = (c : Int) by omega)]; exact Ev.now _
      · simp only [if_pos (show ((Fs.length : Nat) : Int) = (c : Int) by omega)]; exact Ev.now _
    · obtain ⟨C', q1, qc, q2, q3⟩ := ih (N.length - Fs.length) (by omega) Fs.length nx rfl hcnt ⟨D.len, fun q hq => by have := hnum q hq; omega⟩ HC2
        ⟨fun i hi => ⟨_, (D.lt i hi).1, (D.lt i hi).2⟩, .inr fun q hq => by obtain ⟨i, a, b, _⟩ := D.num q hq; exact ⟨i, a, b⟩⟩ (fun p p' hp hp' e => hM p p' hp hp' (hfine p p' hp hp' e).1)
      refine ⟨C', q1, qc, hstep C' ?_ ?_⟩
      · simp only [if_neg (show ¬ ((Fs.length : Nat) : Int) = (c : Int) by omega)]; exact q2
      · simp only [if_neg (show ¬ ((Fs.length : Nat) : Int) = (c : Int) by omega)]; exact q3

/-- Both find the same classes. -/
theorem classes_ev (F : Fit A s N M) : ∃ C, Stable N M C ∧ Coarse A N M C ∧ Ev (fun k => det_Classes.f k (A, s, N, M, ())) C ∧ Ev (fun k => evermoreref3_Classes.f k (A, s, N, M, ())) C := by
  have n3 := F.n3; have hm := F.m
  obtain ⟨C, q1, qc, q2, q3⟩ := rounds F _ 0 M rfl (by omega) ⟨F.m, fun q hq => by rcases F.mark q hq with h | h <;> rw [h] <;> omega⟩ (fun p p' _ _ h => h.mark) ⟨fun i hi => by omega, .inl rfl⟩ (fun p p' _ _ e => e)
  refine ⟨C, q1, qc, Ev.bind (x := M) (.all fun k => ?_) q2, ?_⟩
  · rw [slices_Clone___int_int_.f, if_pos (show Short M.length from short _ (by omega))]
  · simp only [evermoreref3_Classes.f, List.nil_append, if_pos (short M.length (by omega))]
    exact q3
end Go.Proofs.YtiiioobebeaafaaSx.DC
namespace Go.Proofs.YtiiioobebeaafaaSx.DC
variable {A s : Int} {N : List (List Int)} {M : List Int} {C : List Int}
/-- Of each class that a state has, some state. -/
structure OfOk (N : List (List Int)) (C ofs : List Int) (q : Nat) : Prop where
  len : ofs.length = C.length
  ok : ∀ p, p < q → ∃ p' : Nat, p' < N.length ∧ ofs.getD (C.getD p 0).toNat 0 = (p' : Int) ∧ C.getD p' 0 = C.getD p 0

theorem ofs4 (F : Fit A s N M) (S : Stable N M C) (c5 : List (List Int)) (c6 : List Int) : ∀ n i ofs, N.length - i = n → i ≤ N.length → OfOk N C ofs i →
    ∃ ofs', OfOk N C ofs' N.length ∧ ∀ r, Ev (fun k => det_Smallest.l4 k (C.length : Int) (N.length : Int) A s N M 0 0 C c5 c6 ofs') r → Ev (fun k => det_Smallest.l4 k (C.length : Int) (i : Int) A s N M 0 0 C c5 c6 ofs) r := by
  have n3 := F.n3; have hl := S.len
  intro n
  induction n with
  | zero =>
    intro i ofs hn hi H
    have : i = N.length := by omega
    subst this
    exact ⟨ofs, H, fun r E => E⟩
  | succ n ih =>
    intro i ofs hn hi H
    have hc := S.num i (by omega)
    have ho := H.len
    have H' : OfOk N C (ofs.set (C.getD i 0).toNat (i : Int)) (i + 1) := by
      refine ⟨by rw [List.length_set]; exact ho, fun p hp => ?_⟩
      rw [getD_set_int]
      have hcp := S.num p (by omega)
      by_cases e : (C.getD i 0).toNat = (C.getD p 0).toNat
      · rw [if_pos ⟨e, by omega⟩]; exact ⟨i, by omega, rfl, by omega⟩
      · rw [if_neg (fun h => e h.1)]
        have : p ≠ i := fun h => e (by rw [h])
        exact H.ok p (by omega)
    obtain ⟨ofs', q1, q2⟩ := ih (i + 1) _ (by omega) (by omega) H'
    refine ⟨ofs', q1, fun r E => Ev.step (fun k => ?_) (q2 r E)⟩
    have c1 : (0 : Int) ≤ C.getD i (Int.ofNat 0) := hc.1
    have c2 : C.getD i (Int.ofNat 0) < (ofs.length : Int) := by rw [ho, hl]; exact hc.2
    rw [det_Smallest.l4, if_pos (by omega), if_pos (by omega), if_pos (by omega), Int.toNat_natCast, if_pos c1, if_pos c2, wrSucc i (by omega)]
    rfl

/-- Classes as they are come to, the states by which, and their numbers. -/
structure LK (N : List (List Int)) (C : List Int) (L : List Int) (rows : List Nat) (num : List Int) : Prop where
  same : rows.length = L.length
  row : ∀ i, i < L.length → rows.getD i 0 < N.length ∧ C.getD (rows.getD i 0) 0 = L.getD i 0
  nd : L.Nodup
  len : num.length = C.length
  num : ∀ c : Nat, c < C.length → (∃ i, i < L.length ∧ L.getD i 0 = (c : Int) ∧ num.getD c 0 = (i : Int)) ∨ ((c : Int) ∉ L ∧ num.getD c 0 = -1)
theorem nodup_ints (n : Nat) : ∀ l : List Int, l.Nodup → (∀ x ∈ l, 0 ≤ x ∧ x < (n : Int)) → l.length ≤ n := by
  intro l h1 h2
  have := nodup_sub l ((List.range n).map fun i : Nat => (i : Int)) h1 (fun x hx => List.mem_map.2 ⟨x.toNat, by rw [List.mem_range]; have := h2 x hx; omega, by have := h2 x hx; omega⟩)
  simpa using this
theorem mem_int {w : List Int} {x : Int} (h : x ∈ w) : ∃ j, j < w.length ∧ w.getD j 0 = x := by
  obtain ⟨j, hj, e⟩ := List.getElem_of_mem h
  exact ⟨j, hj, by rw [List.getD_eq_getElem?_getD, List.getElem?_eq_getElem hj]; exact e⟩
theorem LK.bound (S : Stable N M C) {L : List Int} {rows : List Nat} {num : List Int} (K : LK N C L rows num) : L.length ≤ N.length :=
  nodup_ints _ L K.nd fun x hx => by
    obtain ⟨j, hj, e⟩ := mem_int hx
    obtain ⟨a, b⟩ := K.row j hj
    rw [← e, ← b]; exact S.num _ a
theorem findIdx_int (L : List Int) (hn : L.Nodup) (i : Nat) (hi : i < L.length) : L.findIdx (fun a => decide (L.getD i 0 = a)) = i := by
  have hx : L.findIdx (fun a => decide (L.getD i 0 = a)) < L.length := by
    rw [List.findIdx_lt_length]
    exact ⟨L.getD i 0, by rw [List.getD_eq_getElem?_getD, List.getElem?_eq_getElem hi]; exact List.getElem_mem hi, by simp⟩
  have := List.findIdx_getElem (w := hx)
  rw [decide_eq_true_iff] at this
  have e : L.getD i 0 = L[i] := by rw [List.getD_eq_getElem?_getD, List.getElem?_eq_getElem hi]; rfl
  have t := e.symm.trans this
  have pw := List.pairwise_iff_getElem.1 hn
  obtain ⟨j, hj⟩ : ∃ j, L.findIdx (fun a => decide (L.getD i 0 = a)) = j := ⟨_, rfl⟩
  have hx' : j < L.length := by rw [← hj]; exact hx
  have t : L[i] = L[j] := by subst hj; exact t
  rw [hj]
  rcases Nat.lt_trichotomy j i with h | h | h
  · exact absurd t.symm (pw j i hx' hi h)
  · exact h
  · exact absurd t (pw i j hi hx' h)
theorem findIdx_none (L : List Int) (x : Int) (h : x ∉ L) : ¬ L.findIdx (fun a => decide (x = a)) < L.length := by
  rw [List.findIdx_lt_length]
  rintro ⟨a, ha, e⟩
  rw [decide_eq_true_iff] at e
  exact h (e ▸ ha)
theorem LK.push (S : Stable N M C) {L : List Int} {rows : List Nat} {num : List Int} (K : LK N C L rows num) (q : Nat) (hq : q < N.length) (hn : C.getD q 0 ∉ L) :
    LK N C (L ++ [C.getD q 0]) (rows ++ [q]) (num.set (C.getD q 0).toNat (L.length : Int)) := by
  have hc := S.num q hq
  have hl := S.len
  have happ : ∀ i, i < L.length → (L ++ [C.getD q 0]).getD i 0 = L.getD i 0 := by
    intro i hi; rw [List.getD_eq_getElem?_getD, List.getElem?_append_left hi, ← List.getD_eq_getElem?_getD]
  have hlast : (L ++ [C.getD q 0]).getD L.length 0 = C.getD q 0 := by
    rw [List.getD_eq_getElem?_getD, List.getElem?_append_right (Nat.le_refl _), Nat.sub_self]; rfl
  refine ⟨by simp [K.same], fun i hi => ?_, ?_, by rw [List.length_set]; exact K.len, fun c hcc => ?_⟩
  · rw [List.length_append, List.length_singleton] at hi
    by_cases h : i < L.length
    · rw [happ i h, getD_app_left _ _ _ (by rw [K.same]; exact h)]; exact K.row i h
    · have : i = L.length := by omega
      subst this
      rw [hlast, ← K.same, getD_app_last]; exact ⟨hq, rfl⟩
  · rw [List.nodup_append]
    refine ⟨K.nd, by simp, fun a ha b hb => ?_⟩
    rw [List.mem_singleton] at hb
    intro e; exact hn (hb ▸ e ▸ ha)
  · rw [getD_set_int]
    by_cases e : (C.getD q 0).toNat = c
    · rw [if_pos ⟨e, by rw [K.len]; exact hcc⟩]
      exact .inl ⟨L.length, by simp, by rw [hlast]; omega, rfl⟩
    · rw [if_neg (fun h => e h.1)]
      rcases K.num c hcc with ⟨i, a, b, d⟩ | ⟨a, b⟩
      · exact .inl ⟨i, by rw [List.length_append]; omega, by rw [happ i a]; exact b, d⟩
      · refine .inr ⟨fun h => ?_, b⟩
        rcases List.mem_append.1 h with h | h
        · exact a h
        · rw [List.mem_singleton] at h; omega
end Go.Proofs.YtiiioobebeaafaaSx.DC
namespace Go.Proofs.YtiiioobebeaafaaSx.DC
variable {A s : Int} {N : List (List Int)} {M : List Int} {C : List Int}
theorem sm1 (F : Fit A s N M) (S : Stable N M C) {ofs : List Int} (O : OfOk N C ofs N.length) (p : Nat) (hp : p < N.length) (a : Nat) (ha : (a : Int) < A) (k : Nat) :
    det_Smallest_1.f k (C.getD p 0) (a : Int) A s N M C ofs = some ((nexts N C p).getD a 0, A, s, N, M, C, ofs) := by
  obtain ⟨p', h1, h2, h3⟩ := O.ok p hp
  have hc := S.num p hp
  have hl := S.len; have ho := O.len
  have hr := F.row p' h1
  have he := F.ent p' h1 a ha
  have hx : (nexts N C p).getD a 0 = C.getD ((N.getD p' []).getD a 0).toNat 0 := by rw [← S.next p' p h1 hp h3, nexts_getD C p' a (by omega)]
  have h2' : ofs.getD (C.getD p 0).toNat (Int.ofNat 0) = (p' : Int) := h2
  have c1 : (0 : Int) ≤ (N.getD p' []).getD a (Int.ofNat 0) := he.1
  have c2 : (N.getD p' []).getD a (Int.ofNat 0) < (C.length : Int) := by rw [hl]; exact he.2
  rw [hx, det_Smallest_1.f, if_pos hc.1, if_pos (by omega), h2', if_pos (by omega), if_pos (by omega), if_pos (by omega), rd_nat, if_pos (by omega), rd_nat, if_pos c1, if_pos c2]
  rfl
theorem sm2 (F : Fit A s N M) (S : Stable N M C) {ofs : List Int} (O : OfOk N C ofs N.length) (p : Nat) (hp : p < N.length) (k : Nat) :
    det_Smallest_2.f k (C.getD p 0) A s N M ofs = some (M.getD p 0, A, s, N, M, ofs) := by
  obtain ⟨p', h1, h2, h3⟩ := O.ok p hp
  have hc := S.num p hp
  have hl := S.len; have ho := O.len; have hm := F.m
  have h2' : ofs.getD (C.getD p 0).toNat (Int.ofNat 0) = (p' : Int) := h2
  rw [det_Smallest_2.f, if_pos hc.1, if_pos (by omega), h2', if_pos (by omega), if_pos (by omega), rd_nat, ← S.mark p' p h1 hp h3]
  rfl
abbrev nm (L : List Int) : List (Int × Int) := numb (K := .int .i64) (fun x : Int => x) 0 L

theorem tand (F : Fit A s N M) (S : Stable N M C) {ofs : List Int} (O : OfOk N C ofs N.length) (i p : Nat) (hp : p < N.length) (c10 c11 : List (List Int)) (c12 : List (List Int)) (c13 : List Int) (d10 : List Int) (d7 : List (List Int)) (d8 : List Int) (d9 : List (List Int)) (e10 : List Int) : ∀ n a L rows num nxt, A.toNat - a = n → (a : Int) ≤ A → LK N C L rows num → i < L.length → rows.getD i 0 = p → nxt.length = A.toNat → (∀ j, j < a → 0 ≤ nxt.getD j 0 ∧ nxt.getD j 0 < (L.length : Int)) →
    ∃ L' rows' num' nxt', LK N C L' rows' num' ∧ L.length ≤ L'.length ∧ rows'.getD i 0 = p ∧ nxt'.length = A.toNat ∧ (∀ j, j < A.toNat → 0 ≤ nxt'.getD j 0 ∧ nxt'.getD j 0 < (L'.length : Int)) ∧
      (∀ r, Ev (fun k => det_Explore_int_.l8 k A ((C.length : Int) + 1) (C.getD p 0) A A A s N M C ofs 0 0 A 0 (nm L') L' nxt' c10 d10 c12 c13) r → Ev (fun k => det_Explore_int_.l8 k A ((C.length : Int) + 1) (C.getD p 0) A (a : Int) A s N M C ofs 0 0 A 0 (nm L) L nxt c10 d10 c12 c13) r) ∧
      (∀ r, Ev (fun k => evermoreref3_Least.l15 k (i : Int) A A s N M 0 0 C num' (ints rows') A 0 nxt' d7 d8 d9 e10) r → Ev (fun k => evermoreref3_Least.l15 k (i : Int) (a : Int) A s N M 0 0 C num (ints rows) A 0 nxt d7 d8 d9 e10) r) := by
  have a1 := F.a1; have a4 := F.a4; have n3 := F.n3
  have hl := S.len
  have hrow := F.row p hp
  intro n
  induction n with
  | zero =>
    intro a L rows num nxt hn ha K hi hr hx hv
    have haa : a = A.toNat := by omega
    have : (a : Int) = A := by omega
    rw [this]
    exact ⟨L, rows, num, nxt, K, Nat.le_refl _, hr, hx, fun j hj => hv j (by omega), fun r E => E, fun r E => E⟩
  | succ n ih =>
    intro a L rows num nxt hn ha K hi hr hx hv
    have hvs : ∀ (m : Nat) (v : Int), L.length ≤ m → 0 ≤ v → v < (m : Int) → ∀ j, j < a + 1 → 0 ≤ (nxt.set a v).getD j 0 ∧ (nxt.set a v).getD j 0 < (m : Int) := by
      intro m v h1 h2 h3 j hj
      rw [getD_set_int]
      by_cases e : a = j ∧ j < nxt.length
      · rw [if_pos e]; omega
      · rw [if_neg e]; have := hv j (by omega); omega
    have haA : (a : Int) < A := by omega
    have he := F.ent p hp a haA
    have hb := K.bound S
    have hsame := K.same
    have hklen := K.len
    obtain ⟨q, hq, hqe⟩ : ∃ q : Nat, q < N.length ∧ (N.getD p []).getD a 0 = (q : Int) := ⟨((N.getD p []).getD a 0).toNat, by omega, by omega⟩
    have ht : (nexts N C p).getD a 0 = C.getD q 0 := by rw [nexts_getD C p a (by omega), hqe, Int.toNat_natCast]
    have hc := S.num q hq
    have hsm := sm1 F S O p hp a haA
    rw [ht] at hsm
    have hhas := numb_has (K := .int .i64) (fun x : Int => x) (C.getD q 0) L 0
    have hget := numb_get (K := .int .i64) (fun x : Int => x) (C.getD q 0) L 0
    have hrp : (ints rows).getD i (Int.ofNat 0) = (p : Int) := by rw [ints_getD rows i (by omega), hr]
    have hqe' : (N.getD p []).getD a (Int.ofNat 0) = (q : Int) := hqe
    -- the reference's step up to the test
    have refq : ∀ k, evermoreref3_Least.l15 (k + 1) (i : Int) (a : Int) A s N M 0 0 C num (ints rows) A 0 nxt d7 d8 d9 e10 =
        if num.getD (C.getD q 0).toNat 0 < 0 then
          (if (ints rows ++ [(q : Int)]).length.blt 1000000000 = true then evermoreref3_Least.j21 k (i : Int) (a : Int) (q : Int) A s N M 0 0 C (num.set (C.getD q 0).toNat ((ints rows).length : Int)) (ints rows ++ [(q : Int)]) A 0 nxt d7 d8 d9 e10 else none)
        else evermoreref3_Least.j21 k (i : Int) (a : Int) (q : Int) A s N M 0 0 C num (ints rows) A 0 nxt d7 d8 d9 e10 := by
      intro k
      have c1 : (0 : Int) ≤ C.getD q (Int.ofNat 0) := hc.1
      have c2 : C.getD q (Int.ofNat 0) < (num.length : Int) := by rw [hklen, hl]; exact hc.2
      rw [evermoreref3_Least.l15, if_pos haA, if_pos (by omega), if_pos (by rw [ints_len]; omega), Int.toNat_natCast, hrp, if_pos (by omega), if_pos (by omega), if_pos (by omega), rd_nat, if_pos (by omega), rd_nat, hqe', if_pos (by omega), if_pos (by omega), Int.toNat_natCast, if_pos c1, if_pos c2]
      rw [if_pos (show (0 : Int) ≤ (q : Int) by omega), if_pos (show (q : Int) < (C.length : Int) by omega), if_pos c1, if_pos c2]
      rfl
    have j21 : ∀ num2 rows2 (v : Int) k, num2.length = C.length → num2.getD (C.getD q 0).toNat 0 = v → evermoreref3_Least.j21 (k + 1) (i : Int) (a : Int) (q : Int) A s N M 0 0 C num2 (ints rows2) A 0 nxt d7 d8 d9 e10 =
        evermoreref3_Least.l15 k (i : Int) ((a + 1 : Nat) : Int) A s N M 0 0 C num2 (ints rows2) A 0 (nxt.set a v) d7 d8 d9 e10 := by
      intro num2 rows2 v k h2 hv
      subst hv
      have c1 : (0 : Int) ≤ C.getD q (Int.ofNat 0) := hc.1
      have c2 : C.getD q (Int.ofNat 0) < (num2.length : Int) := by rw [h2, hl]; exact hc.2
      rw [evermoreref3_Least.j21, if_pos (by omega), if_pos (by omega), Int.toNat_natCast, if_pos c1, if_pos c2, if_pos (by omega), if_pos (by omega), wrSucc a (by omega), Int.toNat_natCast]
      rfl
    have j18 : ∀ L2 (v : Int) k, det_Explore_int_.j18 (k + 1) A ((C.length : Int) + 1) (C.getD p 0) (a : Int) v A (a : Int) A s N M C ofs 0 0 A 0 (nm L2) L2 nxt c10 d10 c12 c13 =
        det_Explore_int_.l8 k A ((C.length : Int) + 1) (C.getD p 0) A ((a + 1 : Nat) : Int) A s N M C ofs 0 0 A 0 (nm L2) L2 (nxt.set a v) c10 d10 c12 c13 := by
      intro L2 v k
      rw [det_Explore_int_.j18, if_pos (by omega), if_pos (by omega), wrSucc a (by omega), Int.toNat_natCast]
    rcases K.num (C.getD q 0).toNat (by omega) with ⟨i2, h1, h2, h3⟩ | ⟨h1, h2⟩
    · -- known
      have ei : L.getD i2 0 = C.getD q 0 := by omega
      have hidx : L.findIdx (fun x => (Ty.int .i64).beq (C.getD q 0) x) = i2 := by
        have := findIdx_int L K.nd i2 h1
        rw [ei] at this; exact this
      rw [hidx, decide_eq_true h1] at hhas
      rw [hidx, if_pos h1, Nat.zero_add] at hget
      obtain ⟨L', rows', num', nxt', q1, q2, q3, q4, qv, q5, q6⟩ := ih (a + 1) L rows num (nxt.set a (i2 : Int)) (by omega) (by omega) K hi hr (by rw [List.length_set]; exact hx) (hvs L.length (i2 : Int) (Nat.le_refl _) (by omega) (by omega))
      refine ⟨L', rows', num', nxt', q1, q2, q3, q4, qv, fun r E => Ev.step (fun k => ?_) (Ev.step (g := fun k => det_Explore_int_.j18 k A ((C.length : Int) + 1) (C.getD p 0) (a : Int) (i2 : Int) A (a : Int) A s N M C ofs 0 0 A 0 (nm L) L nxt c10 d10 c12 c13) (fun k => j18 L (i2 : Int) k) (q5 r E)), fun r E => Ev.step (fun k => ?_) (Ev.step (g := fun k => evermoreref3_Least.j21 k (i : Int) (a : Int) (q : Int) A s N M 0 0 C num (ints rows) A 0 nxt d7 d8 d9 e10) (fun k => j21 num rows (i2 : Int) k hklen h3) (q6 r E))⟩
      · rw [det_Explore_int_.l8, if_pos haA, hsm, Option.bind_some]
        have hh : mhas (.int .i64) (.int .i64) (nm L) (C.getD q 0) = true := hhas
        have hg : mget (.int .i64) (.int .i64) (nm L) (C.getD q 0) = (i2 : Int) := hget
        simp only [hh, if_true, hg]
      · rw [refq, if_neg (by rw [h3]; omega)]
    · -- new
      have hnot : C.getD q 0 ∉ L := by
        have : (((C.getD q 0).toNat : Nat) : Int) = C.getD q 0 := by omega
        rw [this] at h1; exact h1
      have hidx : ¬ L.findIdx (fun x => (Ty.int .i64).beq (C.getD q 0) x) < L.length := findIdx_none L (C.getD q 0) hnot
      have hh : mhas (.int .i64) (.int .i64) (nm L) (C.getD q 0) = false := by
        rw [decide_eq_false hidx] at hhas; exact hhas
      have hput : mput (.int .i64) (.int .i64) (nm L) (C.getD q 0) ((L.length : Nat) : Int) = nm (L ++ [C.getD q 0]) := by
        have := numb_put (K := .int .i64) (fun x : Int => x) (C.getD q 0) L 0 hidx
        rw [Nat.zero_add] at this; exact this
      have K2 := K.push S q hq hnot
      have hb2 := K2.bound S
      rw [List.length_append, List.length_singleton] at hb2
      obtain ⟨L', rows', num', nxt', q1, q2, q3, q4, qv, q5, q6⟩ := ih (a + 1) (L ++ [C.getD q 0]) (rows ++ [q]) (num.set (C.getD q 0).toNat (L.length : Int)) (nxt.set a (L.length : Int)) (by omega) (by omega) K2 (by rw [List.length_append]; omega) (by rw [getD_app_left _ _ _ (by omega)]; exact hr) (by rw [List.length_set]; exact hx) (by rw [List.length_append, List.length_singleton]; exact hvs (L.length + 1) (L.length : Int) (by omega) (by omega) (by omega))
      have hn2 : (num.set (C.getD q 0).toNat (L.length : Int)).getD (C.getD q 0).toNat 0 = (L.length : Int) := by rw [getD_set_int, if_pos ⟨rfl, by omega⟩]
      refine ⟨L', rows', num', nxt', q1, by rw [List.length_append] at q2; omega, q3, q4, qv, fun r E => Ev.step (fun k => ?_) (Ev.step (g := fun k => det_Explore_int_.j18 k A ((C.length : Int) + 1) (C.getD p 0) (a : Int) (L.length : Int) A (a : Int) A s N M C ofs 0 0 A 0 (nm (L ++ [C.getD q 0])) (L ++ [C.getD q 0]) nxt c10 d10 c12 c13) (fun k => j18 (L ++ [C.getD q 0]) (L.length : Int) k) (q5 r E)), fun r E => Ev.step (fun k => ?_) (Ev.step (g := fun k => evermoreref3_Least.j21 k (i : Int) (a : Int) (q : Int) A s N M 0 0 C (num.set (C.getD q 0).toNat (L.length : Int)) (ints (rows ++ [q])) A 0 nxt d7 d8 d9 e10) (fun k => j21 _ (rows ++ [q]) (L.length : Int) k (by rw [List.length_set]; exact hklen) hn2) (q6 r E))⟩
      · rw [det_Explore_int_.l8, if_pos haA, hsm, Option.bind_some]
        simp only [hh, Bool.false_eq_true, if_false, hput]
        rw [if_neg (by omega), if_pos (short _ (by rw [List.length_append, List.length_singleton]; omega))]
      · rw [refq, if_pos (by rw [h2]; omega), if_pos (short _ (by rw [List.length_append, ints_len, List.length_singleton]; omega)), ints_len, hsame]
        rw [show ints rows ++ [(q : Int)] = ints (rows ++ [q]) by simp [ints]]
end Go.Proofs.YtiiioobebeaafaaSx.DC
namespace Go.Proofs.YtiiioobebeaafaaSx.DC
variable {A s : Int} {N : List (List Int)} {M : List Int} {C : List Int}
/-- What a least automaton is made of. -/
structure Made (A : Int) (m : Nat) (X : List (List Int)) (Y : List Int) : Prop where
  row : ∀ x ∈ X, x.length = A.toNat ∧ ∀ j, j < A.toNat → 0 ≤ x.getD j 0 ∧ x.getD j 0 < (m : Int)
  mark : ∀ y ∈ Y, y = 0 ∨ y = 1
theorem Made.more {A : Int} {m m' : Nat} {X : List (List Int)} {Y : List Int} (H : Made A m X Y) (h : m ≤ m') : Made A m' X Y :=
  ⟨fun x hx => ⟨(H.row x hx).1, fun j hj => by have := (H.row x hx).2 j hj; omega⟩, H.mark⟩
theorem outer (F : Fit A s N M) (S : Stable N M C) {ofs : List Int} (O : OfOk N C ofs N.length) : ∀ n i L rows num X Y, N.length - i = n → LK N C L rows num → i ≤ L.length → X.length = i → Y.length = i → Made A L.length X Y →
    ∃ X' Y', Made A X'.length X' Y' ∧ Y'.length = X'.length ∧ X'.length ≤ N.length ∧ L.length ≤ X'.length ∧ Ev (fun k => det_Explore_int_.l4 k A ((C.length : Int) + 1) A s N M C ofs 0 0 A 0 (nm L) L [] [] X Y) (A, 0, true, A, s, N, M, C, ofs, X', Y') ∧
      Ev (fun k => evermoreref3_Least.l11 k (i : Int) A s N M 0 0 C num (ints rows) A 0 [] [] X Y) (A, 0, X', Y') := by
  have a1 := F.a1; have a4 := F.a4; have n3 := F.n3
  have hl := S.len
  intro n
  have fin : ∀ i L rows num X Y, LK N C L rows num → i = L.length → X.length = i → Y.length = i → Made A L.length X Y →
    ∃ X' Y', Made A X'.length X' Y' ∧ Y'.length = X'.length ∧ X'.length ≤ N.length ∧ L.length ≤ X'.length ∧ Ev (fun k => det_Explore_int_.l4 k A ((C.length : Int) + 1) A s N M C ofs 0 0 A 0 (nm L) L [] [] X Y) (A, 0, true, A, s, N, M, C, ofs, X', Y') ∧
      Ev (fun k => evermoreref3_Least.l11 k (i : Int) A s N M 0 0 C num (ints rows) A 0 [] [] X Y) (A, 0, X', Y') := by
    intro i L rows num X Y K hi hX hY hM
    have hs := K.same
    have hbb := K.bound S
    refine ⟨X, Y, by rw [hX, hi]; exact hM, by omega, by omega, by omega, Ev.step (h := fun _ => some (A, 0, true, A, s, N, M, C, ofs, X, Y)) (fun k => ?_) (Ev.now _), Ev.step (h := fun _ => some (A, 0, X, Y)) (fun k => ?_) (Ev.now _)⟩
    · rw [det_Explore_int_.l4, if_neg (by omega)]
    · rw [evermoreref3_Least.l11, if_neg (by rw [ints_len]; omega)]
  induction n with
  | zero =>
    intro i L rows num X Y hn K hi hX hY hM
    have := K.bound S
    exact fin i L rows num X Y K (by omega) hX hY hM
  | succ n ih =>
    intro i L rows num X Y hn K hi hX hY hM
    by_cases hiL : i < L.length
    · obtain ⟨hp, hpe⟩ := K.row i hiL
      have hs := K.same
      have hb := K.bound S
      obtain ⟨L', rows', num', nxt', q1, q2, q3, q4, qv, q5, q6⟩ := tand F S O i (rows.getD i 0) hp [] [] X Y [] [] [] X Y _ 0 L rows num (List.replicate A.toNat 0) rfl (by omega) K hiL rfl (by simp) (fun j hj => by omega)
      have hM2 : Made A L'.length (X ++ [nxt']) (Y ++ [M.getD (rows.getD i 0) 0]) := by
        have := hM.more q2
        refine ⟨fun x hx => ?_, fun y hy => ?_⟩
        · rcases List.mem_append.1 hx with h | h
          · exact this.row x h
          · rw [List.mem_singleton] at h; rw [h]; exact ⟨q4, qv⟩
        · rcases List.mem_append.1 hy with h | h
          · exact this.mark y h
          · rw [List.mem_singleton] at h; rw [h]; exact F.mark _ hp
      obtain ⟨X', Y', m1, m2, m3, m4, e1, e2⟩ := ih (i + 1) L' rows' num' (X ++ [nxt']) (Y ++ [M.getD (rows.getD i 0) 0]) (by omega) q1 (by omega) (by simp [hX]) (by simp [hY]) hM2
      have hs' := q1.same
      have hb' := q1.bound S
      have hk : L.getD X.length (Int.ofNat 0) = C.getD (rows.getD i 0) 0 := by rw [hX]; exact hpe.symm
      have hm := F.m
      refine ⟨X', Y', m1, m2, m3, by omega, Ev.step (fun k => ?_) (q5 _ (Ev.step (fun k => ?_) e1)), Ev.step (fun k => ?_) (q6 _ (Ev.step (fun k => ?_) e2))⟩
      · rw [det_Explore_int_.l4, if_pos (by omega), if_pos (by omega), if_pos (by omega), if_pos (by omega), if_pos (by omega), if_pos (by omega), Int.toNat_natCast, hk]
        rfl
      · rw [det_Explore_int_.l8, if_neg (by omega), if_pos (short _ (by simp; omega)), sm2 F S O _ hp, Option.bind_some]
        exact if_pos (short _ (by simp; omega))
      · rw [evermoreref3_Least.l11, if_pos (by rw [ints_len]; omega), if_pos (by omega), if_pos (by omega), if_pos (by omega)]
        rfl
      · have hrp : (ints rows').getD i (Int.ofNat 0) = ((rows.getD i 0 : Nat) : Int) := by rw [ints_getD rows' i (by omega), q3]
        rw [evermoreref3_Least.l15, if_neg (by omega), if_pos (short _ (by simp; omega)), if_pos (by omega), if_pos (by rw [ints_len]; omega), Int.toNat_natCast, hrp, if_pos (by omega), if_pos (by omega), rd_nat]
        rw [wrSucc i (by omega)]
        exact if_pos (short _ (by simp; omega))
    · exact fin i L rows num X Y K (by omega) hX hY hM
end Go.Proofs.YtiiioobebeaafaaSx.DC
namespace Go.Proofs.YtiiioobebeaafaaSx.DC
variable {A s : Int} {N : List (List Int)} {M : List Int} {C : List Int}
theorem Ev_eq {α : Type} {g h : Nat → Option α} {r : α} (e : ∀ k, g k = h k) (H : Ev h r) : Ev g r := by
  obtain ⟨k0, H⟩ := H
  exact ⟨k0, fun k hk => by rw [e]; exact H k hk⟩
theorem minus (S : Stable N M C) (F : Fit A s N M) (r : Int × Int × List (List Int) × List Int)
    (H : Ev (fun k => evermoreref3_Least.l11 k 0 A s N M 0 0 C ((List.replicate C.length (-1 : Int)).set (C.getD s.toNat 0).toNat 0) [s] A 0 [] [] [] []) r) : ∀ n i, C.length - i = n → i ≤ C.length →
    Ev (fun k => evermoreref3_Least.l4 k (i : Int) A s N M 0 0 C (List.replicate i (-1 : Int) ++ List.replicate n 0) [] []) r := by
  have n3 := F.n3
  have hl := S.len
  have hs := F.s
  have hc := S.num s.toNat (by omega)
  intro n
  induction n with
  | zero =>
    intro i hn hi
    have : i = C.length := by omega
    subst this
    refine Ev.step (fun k => ?_) H
    have c1 : (0 : Int) ≤ C.getD s.toNat (Int.ofNat 0) := hc.1
    have c2 : C.getD s.toNat (Int.ofNat 0) < (((List.replicate C.length (-1 : Int) ++ List.replicate 0 0).length : Nat) : Int) := by simp only [List.length_append, List.length_replicate]; have := hc.2; have h' : C.getD s.toNat (Int.ofNat 0) < (N.length : Int) := hc.2; omega
    rw [evermoreref3_Least.l4, if_neg (by simp), if_pos hs.1, if_pos (by omega), if_pos c1, if_pos c2, List.replicate_zero, List.append_nil]
    rfl
  | succ n ih =>
    intro i hn hi
    refine Ev.step (fun k => ?_) (ih (i + 1) (by omega) (by omega))
    have e : (List.replicate i (-1 : Int) ++ List.replicate (n + 1) 0).set i (-1) = List.replicate (i + 1) (-1 : Int) ++ List.replicate n 0 := by
      rw [List.set_append_right _ _ (by simp), List.length_replicate, Nat.sub_self, List.replicate_succ (n := n), List.set_cons_zero, List.replicate_succ' (n := i), List.append_assoc]; rfl
    rw [evermoreref3_Least.l4, if_pos (by simp only [List.length_append, List.length_replicate]; omega), if_pos (by omega), if_pos (by simp only [List.length_append, List.length_replicate]; omega), wrSucc i (by omega), Int.toNat_natCast]
    rw [← e]

/-- Both make the same least automaton. -/
theorem least_ev (F : Fit A s N M) : ∃ X Y, Made A X.length X Y ∧ Y.length = X.length ∧ X.length ≤ N.length ∧ 1 ≤ X.length ∧ Ev (fun k => det_Smallest.f k (A, s, N, M, ())) (A, 0, X, Y) ∧ Ev (fun k => evermoreref3_Least.f k (A, s, N, M, ())) (A, 0, X, Y) := by
  obtain ⟨C, S, _, c1, c2⟩ := classes_ev F
  have n3 := F.n3
  have hl := S.len
  have hs := F.s
  have hc := S.num s.toNat (by omega)
  obtain ⟨ofs, O, o1⟩ := ofs4 F S [] [] _ 0 (List.replicate C.length 0) rfl (by omega) ⟨by simp, fun p hp => by omega⟩
  have K : LK N C [C.getD s.toNat 0] [s.toNat] ((List.replicate C.length (-1 : Int)).set (C.getD s.toNat 0).toNat 0) := by
    refine ⟨rfl, fun i hi => ?_, by simp, by simp, fun c hcc => ?_⟩
    · have : i = 0 := by simp at hi; omega
      subst this; exact ⟨by show s.toNat < _; omega, rfl⟩
    · rw [getD_set_int]
      by_cases e : (C.getD s.toNat 0).toNat = c
      · rw [if_pos ⟨e, by simpa using hcc⟩]; exact .inl ⟨0, by simp, by show C.getD s.toNat 0 = _; omega, rfl⟩
      · rw [if_neg (fun h => e h.1)]
        refine .inr ⟨fun h => ?_, ?_⟩
        · rw [List.mem_singleton] at h; omega
        · rw [List.getD_eq_getElem?_getD, List.getElem?_replicate, if_pos hcc]; rfl
  obtain ⟨X, Y, m1, m2, m3, m4, e1, e2⟩ := outer F S O _ 0 _ _ _ [] [] rfl K (by simp) rfl rfl ⟨fun x hx => by simp at hx, fun y hy => by simp at hy⟩
  refine ⟨X, Y, m1, m2, m3, m4, ?_, ?_⟩
  · simp only [det_Smallest.f]
    refine Ev.bind c1 ?_
    have E : Ev (fun k => det_Smallest.l4 k (C.length : Int) (N.length : Int) A s N M 0 0 C [] [] ofs) (A, 0, X, Y) := by
      refine Ev.step (h := fun k => (det_Explore_int_.f k A (C.getD s.toNat 0) ((C.length : Int) + 1) A s N M C ofs).bind fun r5 => some (r5.fst, r5.snd.fst, r5.snd.snd.snd.snd.snd.snd.snd.snd.snd.fst, r5.snd.snd.snd.snd.snd.snd.snd.snd.snd.snd)) (fun k => ?_) (Ev.bind (x := (A, 0, true, A, s, N, M, C, ofs, X, Y)) e1 (Ev.now _))
      rw [det_Smallest.l4, if_neg (by omega), if_pos hs.1, if_pos (by omega), wr64 _ (by omega) (by omega)]
      rfl
    refine Ev_eq (fun k => ?_) (o1 _ E)
    rw [if_pos (by omega), if_pos (by omega), if_pos (by omega), Int.toNat_natCast]
    rfl
  · simp only [evermoreref3_Least.f]
    refine Ev.bind c2 ?_
    have e2' : Ev (fun k => evermoreref3_Least.l11 k 0 A s N M 0 0 C ((List.replicate C.length (-1 : Int)).set (C.getD s.toNat 0).toNat 0) [s] A 0 [] [] [] []) (A, 0, X, Y) := by
      have : ints [s.toNat] = [s] := by show [((s.toNat : Nat) : Int)] = [s]; rw [show ((s.toNat : Nat) : Int) = s by omega]
      rw [this] at e2; exact e2
    refine Ev_eq (fun k => ?_) (minus S F _ e2' _ 0 rfl (by omega))
    rw [if_pos (by omega), if_pos (by omega), if_pos (by omega), Int.toNat_natCast]
    rfl
end Go.Proofs.YtiiioobebeaafaaSx.DC
namespace Go.Proofs.YtiiioobebeaafaaSx.DC
variable {A s : Int} {N : List (List Int)} {M : List Int}
theorem getD_memW (w : List (List Int)) (j : Nat) (h : j < w.length) : w.getD j [] ∈ w := by
  rw [List.getD_eq_getElem?_getD, List.getElem?_eq_getElem h]; exact List.getElem_mem h
theorem getD_memI (w : List Int) (j : Nat) (h : j < w.length) : w.getD j 0 ∈ w := by
  rw [List.getD_eq_getElem?_getD, List.getElem?_eq_getElem h]; exact List.getElem_mem h
theorem fit_of (F : Fit A s N M) {X : List (List Int)} {Y : List Int} (H : Made A X.length X Y) (h1 : Y.length = X.length) (h2 : X.length ≤ N.length) (h3 : 1 ≤ X.length) : Fit A 0 X Y := by
  have a1 := F.a1; have a4 := F.a4; have n3 := F.n3
  refine ⟨a1, a4, h3, by omega, h1, fun q hq => ?_, by omega, fun q hq a ha => ?_, fun q hq => H.mark _ (getD_memI _ _ (by omega))⟩
  · have := (H.row _ (getD_memW X q hq)).1; omega
  · exact (H.row _ (getD_memW X q hq)).2 a (by omega)
end Go.Proofs.YtiiioobebeaafaaSx.DC
namespace Go.Proofs.YtiiioobebeaafaaSx.DC
variable {A s : Int} {N : List (List Int)} {M : List Int}
/-- det.Least, whole: the fault, or the least automaton that the reference makes. -/
theorem detLeast_ev (A s : Int) (N : List (List Int)) (M : List Int) : ∃ e X Y, Ev (fun k => evermoreref3_Check.f k (A, s, N, M, ())) e ∧
    Ev (fun k => det_Least.f k (A, s, N, M, ())) (if e = 0 then (A, 0, 0, X, Y) else (0, 0, e, [], [])) ∧
    (e = 0 → Fit A s N M ∧ Fit A 0 X Y ∧ Ev (fun k => evermoreref3_Least.f k (A, s, N, M, ())) (A, 0, X, Y)) := by
  obtain ⟨e, c1, c2, c3⟩ := check_ev A s N M
  by_cases h : e = 0
  · have F := c3 h
    obtain ⟨X, Y, m1, m2, m3, m4, e1, e2⟩ := least_ev F
    refine ⟨e, X, Y, c2, ?_, fun _ => ⟨F, fit_of F m1 m2 m3 m4, e2⟩⟩
    simp only [det_Least.f]
    refine Ev.bind c1 ?_
    simp only [if_pos h]
    exact Ev.bind e1 (Ev.now _)
  · refine ⟨e, [], [], c2, ?_, fun h' => absurd h' h⟩
    simp only [det_Least.f]
    refine Ev.bind c1 ?_
    simp only [if_neg h]
    exact Ev.now _
/-- The small one of both. -/
theorem small_ev (A s : Int) (N : List (List Int)) (M : List Int) : ∃ e X Y, Ev (fun k => monoid_small.f k (A, s, N, M, ())) (if e = 0 then (A, 0, 0, X, Y) else (0, 0, e, [], [])) ∧
    Ev (fun k => evermorelaw_small.f k (A, s, N, M, ())) (if e = 0 then (A, 0, 0, X, Y) else (0, 0, e, [], [])) ∧ (e = 0 → Fit A 0 X Y ∧ X.length ≤ 5) := by
  obtain ⟨e, X, Y, h1, h2, h3⟩ := detLeast_ev A s N M
  by_cases h : e = 0
  · rw [if_pos h] at h2
    obtain ⟨F, F2, h4⟩ := h3 h
    by_cases h5 : 5 < (X.length : Int)
    · refine ⟨1, X, Y, ?_, ?_, fun h' => absurd h' (by decide)⟩
      · simp only [monoid_small.f]
        refine Ev.bind h2 ?_
        simp only [if_true, if_pos h5]; exact Ev.now _
      · simp only [evermorelaw_small.f]
        refine Ev.bind h1 ?_
        simp only [if_pos h]
        refine Ev.bind h4 ?_
        simp only [if_pos h5]; exact Ev.now _
    · refine ⟨0, X, Y, ?_, ?_, fun _ => ⟨F2, by omega⟩⟩
      · simp only [monoid_small.f]
        refine Ev.bind h2 ?_
        simp only [if_true, if_neg h5]; exact Ev.now _
      · simp only [evermorelaw_small.f]
        refine Ev.bind h1 ?_
        simp only [if_pos h]
        refine Ev.bind h4 ?_
        simp only [if_neg h5, if_true]; exact Ev.now _
  · rw [if_neg h] at h2
    refine ⟨e, [], [], ?_, ?_, fun h' => absurd h' h⟩
    · simp only [monoid_small.f]
      refine Ev.bind h2 ?_
      simp only [if_neg h]; exact Ev.now _
    · simp only [evermorelaw_small.f]
      refine Ev.bind h1 ?_
      simp only [if_neg h]; exact Ev.now _
end Go.Proofs.YtiiioobebeaafaaSx.DC
namespace Go.Proofs.YtiiioobebeaafaaSx.DC
variable {A s : Int} {N : List (List Int)} {M : List Int} {C : List Int}
theorem Stable.same (F : Fit A s N M) (S : Stable N M C) {p p' : Nat} (hp : p < N.length) (hp' : p' < N.length) (h : C.getD p 0 = C.getD p' 0) : Same A N M p N M p' := by
  refine Same.of (fun p p' => p < N.length ∧ p' < N.length ∧ C.getD p 0 = C.getD p' 0) (fun p p' h => S.mark p p' h.1 h.2.1 h.2.2) (fun p p' a h ha => ?_) p p' ⟨hp, hp', h⟩
  obtain ⟨h1, h2, h3⟩ := h
  have e1 := F.ent p h1 a ha
  have e2 := F.ent p' h2 a ha
  have r1 := F.row p h1
  have r2 := F.row p' h2
  have hn := S.next p p' h1 h2 h3
  refine ⟨by omega, by omega, ?_⟩
  rw [← nexts_getD (N := N) C p a (by omega), ← nexts_getD (N := N) C p' a (by omega), hn]
/-- The state that a letter leads to. -/
abbrev nx (N : List (List Int)) (p a : Nat) : Nat := ((N.getD p []).getD a 0).toNat

section
variable (d7 : List (List Int)) (d8 : List Int) (d9 : List (List Int)) (e10 : List Int)
/-- The reference's step. -/
theorem ls_known (F : Fit A s N M) (S : Stable N M C) {L : List Int} {rows : List Nat} {num : List Int} (K : LK N C L rows num) (i p a : Nat) (hp : p < N.length) (ha : (a : Int) < A) (hi : i < L.length) (hr : rows.getD i 0 = p) (nxt : List Int) (hx : nxt.length = A.toNat)
    (v : Int) (hv : num.getD (C.getD (nx N p a) 0).toNat 0 = v) (h0 : 0 ≤ v) (r : Int × Int × List (List Int) × List Int)
    (E : Ev (fun k => evermoreref3_Least.l15 k (i : Int) ((a + 1 : Nat) : Int) A s N M 0 0 C num (ints rows) A 0 (nxt.set a v) d7 d8 d9 e10) r) :
    Ev (fun k => evermoreref3_Least.l15 k (i : Int) (a : Int) A s N M 0 0 C num (ints rows) A 0 nxt d7 d8 d9 e10) r := by
  have a1 := F.a1; have a4 := F.a4; have n3 := F.n3
  have hl := S.len
  have hrow := F.row p hp
  have he := F.ent p hp a ha
  have hb := K.bound S
  have hsame := K.same
  have hklen := K.len
  obtain ⟨q, hq, hqe⟩ : ∃ q : Nat, q < N.length ∧ (N.getD p []).getD a 0 = (q : Int) := ⟨((N.getD p []).getD a 0).toNat, by omega, by omega⟩
  rw [nx, hqe, Int.toNat_natCast] at hv
  have hc := S.num q hq
  have hrp : (ints rows).getD i (Int.ofNat 0) = (p : Int) := by rw [ints_getD rows i (by omega), hr]
  have hqe' : (N.getD p []).getD a (Int.ofNat 0) = (q : Int) := hqe
  have c1 : (0 : Int) ≤ C.getD q (Int.ofNat 0) := hc.1
  have c2 : C.getD q (Int.ofNat 0) < (num.length : Int) := by rw [hklen, hl]; exact hc.2
  have hv' : num.getD (C.getD q (Int.ofNat 0)).toNat 0 = v := hv
  have hv'' : num.getD (C.getD q (Int.ofNat 0)).toNat (Int.ofNat 0) = v := hv
  refine Ev.step (h := fun k => evermoreref3_Least.j21 k (i : Int) (a : Int) (q : Int) A s N M 0 0 C num (ints rows) A 0 nxt d7 d8 d9 e10) (fun k => ?_) (Ev.step (fun k => ?_) E)
  · rw [evermoreref3_Least.l15, if_pos ha, if_pos (by omega), if_pos (by rw [ints_len]; omega), Int.toNat_natCast, hrp, if_pos (by omega), if_pos (by omega), if_pos (by omega), rd_nat, if_pos (by omega), rd_nat, hqe', if_pos (by omega), if_pos (by omega), Int.toNat_natCast, if_pos c1, if_pos c2, hv'', if_neg (by omega)]
  · rw [evermoreref3_Least.j21, if_pos (by omega), if_pos (by omega), Int.toNat_natCast, if_pos c1, if_pos c2, if_pos (by omega), if_pos (by omega), wrSucc a (by omega), Int.toNat_natCast, hv'']
theorem ls_new (F : Fit A s N M) (S : Stable N M C) {L : List Int} {rows : List Nat} {num : List Int} (K : LK N C L rows num) (i p a : Nat) (hp : p < N.length) (ha : (a : Int) < A) (hi : i < L.length) (hr : rows.getD i 0 = p) (nxt : List Int) (hx : nxt.length = A.toNat)
    (hv : num.getD (C.getD (nx N p a) 0).toNat 0 < 0) (r : Int × Int × List (List Int) × List Int)
    (E : Ev (fun k => evermoreref3_Least.l15 k (i : Int) ((a + 1 : Nat) : Int) A s N M 0 0 C (num.set (C.getD (nx N p a) 0).toNat (L.length : Int)) (ints (rows ++ [nx N p a])) A 0 (nxt.set a (L.length : Int)) d7 d8 d9 e10) r) :
    Ev (fun k => evermoreref3_Least.l15 k (i : Int) (a : Int) A s N M 0 0 C num (ints rows) A 0 nxt d7 d8 d9 e10) r := by
  have a1 := F.a1; have a4 := F.a4; have n3 := F.n3
  have hl := S.len
  have hrow := F.row p hp
  have he := F.ent p hp a ha
  have hb := K.bound S
  have hsame := K.same
  have hklen := K.len
  obtain ⟨q, hq, hqe⟩ : ∃ q : Nat, q < N.length ∧ (N.getD p []).getD a 0 = (q : Int) := ⟨((N.getD p []).getD a 0).toNat, by omega, by omega⟩
  rw [nx, hqe, Int.toNat_natCast] at hv E
  have hc := S.num q hq
  have hrp : (ints rows).getD i (Int.ofNat 0) = (p : Int) := by rw [ints_getD rows i (by omega), hr]
  have hqe' : (N.getD p []).getD a (Int.ofNat 0) = (q : Int) := hqe
  have c1 : (0 : Int) ≤ C.getD q (Int.ofNat 0) := hc.1
  have c2 : C.getD q (Int.ofNat 0) < (num.length : Int) := by rw [hklen, hl]; exact hc.2
  have hv'' : num.getD (C.getD q (Int.ofNat 0)).toNat (Int.ofNat 0) < 0 := hv
  have hn2 : (num.set (C.getD q 0).toNat (L.length : Int)).getD (C.getD q 0).toNat 0 = (L.length : Int) := by rw [getD_set_int, if_pos ⟨rfl, by omega⟩]
  have hn3 : (num.set (C.getD q 0).toNat (L.length : Int)).getD (C.getD q (Int.ofNat 0)).toNat (Int.ofNat 0) = (L.length : Int) := hn2
  have c3 : C.getD q (Int.ofNat 0) < ((num.set (C.getD q 0).toNat (L.length : Int)).length : Int) := by rw [List.length_set]; exact c2
  have hie : ints rows ++ [(q : Int)] = ints (rows ++ [q]) := by simp [ints]
  refine Ev.step (h := fun k => evermoreref3_Least.j21 k (i : Int) (a : Int) (q : Int) A s N M 0 0 C (num.set (C.getD q 0).toNat (L.length : Int)) (ints (rows ++ [q])) A 0 nxt d7 d8 d9 e10) (fun k => ?_) (Ev.step (fun k => ?_) E)
  · rw [evermoreref3_Least.l15, if_pos ha, if_pos (by omega), if_pos (by rw [ints_len]; omega), Int.toNat_natCast, hrp, if_pos (by omega), if_pos (by omega), if_pos (by omega), rd_nat, if_pos (by omega), rd_nat, hqe', if_pos (by omega), if_pos (by omega), Int.toNat_natCast, if_pos c1, if_pos c2, if_pos hv'']
    rw [if_pos (show (0 : Int) ≤ (q : Int) by omega), if_pos (show (q : Int) < (C.length : Int) by omega), if_pos c1, if_pos c2, if_pos (short _ (by rw [List.length_append, ints_len, List.length_singleton]; omega)), ints_len, hsame, hie]
    rfl
  · rw [evermoreref3_Least.j21, if_pos (by omega), if_pos (by omega), Int.toNat_natCast, if_pos c1, if_pos c3, if_pos (by omega), if_pos (by omega), wrSucc a (by omega), Int.toNat_natCast, hn3]
end
/-- Two automata side by side, of which one sees the same words. -/
structure Twin (A : Int) (N : List (List Int)) (M C : List Int) (L : List Int) (rows : List Nat) (num : List Int) (N' : List (List Int)) (M' C' : List Int) (L' : List Int) (rows' : List Nat) (num' : List Int) : Prop where
  k : LK N C L rows num
  k' : LK N' C' L' rows' num'
  len : L.length = L'.length
  same : ∀ j, j < L.length → Same A N M (rows.getD j 0) N' M' (rows'.getD j 0)
theorem getD_memN {l : List Int} {i : Nat} (h : i < l.length) : l.getD i 0 ∈ l := by
  rw [List.getD_eq_getElem?_getD, List.getElem?_eq_getElem h]; exact List.getElem_mem h
theorem LK.cases (S : Stable N M C) {L : List Int} {rows : List Nat} {num : List Int} (K : LK N C L rows num) (q : Nat) (hq : q < N.length) :
    (∃ i, i < L.length ∧ L.getD i 0 = C.getD q 0 ∧ num.getD (C.getD q 0).toNat 0 = (i : Int)) ∨ (C.getD q 0 ∉ L ∧ num.getD (C.getD q 0).toNat 0 = -1) := by
  have hc := S.num q hq
  have hl := S.len
  have e : (((C.getD q 0).toNat : Nat) : Int) = C.getD q 0 := by omega
  have := K.num (C.getD q 0).toNat (by omega)
  rw [e] at this; exact this
theorem tan2 {s' : Int} {N' : List (List Int)} {M' C' : List Int} (F : Fit A s N M) (S : Stable N M C) (H : Coarse A N M C) (F' : Fit A s' N' M') (S' : Stable N' M' C') (H' : Coarse A N' M' C') (i p p' : Nat) (hp : p < N.length) (hp' : p' < N'.length) (hs : Same A N M p N' M' p') (Rch : Nat → Prop) (hRp : ∀ a : Nat, (a : Int) < A → Rch (nx N p a)) (d7 : List (List Int)) (d8 : List Int) (d9 : List (List Int)) (e10 : List Int) :
    ∀ n a L rows num L' rows' num' nxt, A.toNat - a = n → (a : Int) ≤ A → Twin A N M C L rows num N' M' C' L' rows' num' → i < L.length → rows.getD i 0 = p → rows'.getD i 0 = p' → nxt.length = A.toNat → (∀ j, j < L.length → Rch (rows.getD j 0)) →
    (∀ j, j < a → ∃ t : Nat, t < L.length ∧ nxt.getD j 0 = (t : Int) ∧ Same A N M (rows.getD t 0) N M (nx N p j)) →
    ∃ L1 rows1 num1 L1' rows1' num1' nxt', Twin A N M C L1 rows1 num1 N' M' C' L1' rows1' num1' ∧ L.length ≤ L1.length ∧ (∀ j, j < L.length → rows1.getD j 0 = rows.getD j 0) ∧ rows1.getD i 0 = p ∧ rows1'.getD i 0 = p' ∧ nxt'.length = A.toNat ∧ (∀ j, j < L1.length → Rch (rows1.getD j 0)) ∧
      (∀ j, j < A.toNat → ∃ t : Nat, t < L1.length ∧ nxt'.getD j 0 = (t : Int) ∧ Same A N M (rows1.getD t 0) N M (nx N p j)) ∧
      (∀ r, Ev (fun k => evermoreref3_Least.l15 k (i : Int) A A s N M 0 0 C num1 (ints rows1) A 0 nxt' d7 d8 d9 e10) r → Ev (fun k => evermoreref3_Least.l15 k (i : Int) (a : Int) A s N M 0 0 C num (ints rows) A 0 nxt d7 d8 d9 e10) r) ∧
      (∀ r, Ev (fun k => evermoreref3_Least.l15 k (i : Int) A A s' N' M' 0 0 C' num1' (ints rows1') A 0 nxt' d7 d8 d9 e10) r → Ev (fun k => evermoreref3_Least.l15 k (i : Int) (a : Int) A s' N' M' 0 0 C' num' (ints rows') A 0 nxt d7 d8 d9 e10) r) := by
  have a1 := F.a1; have a4 := F.a4; have n3 := F.n3
  intro n
  induction n with
  | zero =>
    intro a L rows num L' rows' num' nxt hn ha T hi hr hr' hx hR hv
    have haa : a = A.toNat := by omega
    have : (a : Int) = A := by omega
    rw [this]
    exact ⟨L, rows, num, L', rows', num', nxt, T, Nat.le_refl _, fun j hj => rfl, hr, hr', hx, hR, fun j hj => hv j (by omega), fun r E => E, fun r E => E⟩
  | succ n ih =>
    intro a L rows num L' rows' num' nxt hn ha T hi hr hr' hx hR hv
    have haA : (a : Int) < A := by omega
    have he := F.ent p hp a haA
    have he' := F'.ent p' hp' a haA
    have hq : nx N p a < N.length := by rw [nx]; omega
    have hq' : nx N' p' a < N'.length := by rw [nx]; omega
    have hsn : Same A N M (nx N p a) N' M' (nx N' p' a) := hs.next a haA
    have hlen := T.len
    have hi' : i < L'.length := by omega
    have hset : ∀ (v : Int) j, j < a + 1 → (nxt.set a v).getD j 0 = if j = a then v else nxt.getD j 0 := by
      intro v j hj
      rw [getD_set_int]
      by_cases e : j = a
      · rw [if_pos ⟨e.symm, by omega⟩, if_pos e]
      · rw [if_neg (fun h => e h.1.symm), if_neg e]
    rcases T.k.cases S _ hq with ⟨j, h1, h2, h3⟩ | ⟨h1, h2⟩
    · -- known
      have hj := T.k.row j h1
      have hsj : Same A N M (rows.getD j 0) N M (nx N p a) := S.same F hj.1 hq (hj.2.trans h2)
      have hj' := T.k'.row j (by omega)
      have hc' : C'.getD (rows'.getD j 0) 0 = C'.getD (nx N' p' a) 0 := H' _ _ hj'.1 hq' (((T.same j h1).symm.trans hsj).trans hsn)
      have hnum' : num'.getD (C'.getD (nx N' p' a) 0).toNat 0 = (j : Int) := by
        rcases T.k'.cases S' _ hq' with ⟨j2, g1, g2, g3⟩ | ⟨g1, g2⟩
        · have : j2 = j := by
            have pw := List.pairwise_iff_getElem.1 T.k'.nd
            have e1 : L'.getD j2 0 = L'[j2] := by rw [List.getD_eq_getElem?_getD, List.getElem?_eq_getElem g1]; rfl
            have e2 : L'.getD j 0 = L'[j]'(by omega) := by rw [List.getD_eq_getElem?_getD, List.getElem?_eq_getElem (by omega)]; rfl
            have e3 : L'.getD j2 0 = L'.getD j 0 := by rw [g2, ← hc', hj'.2]
            rw [e1, e2] at e3
            rcases Nat.lt_trichotomy j2 j with h | h | h
            · exact absurd e3 (pw j2 j g1 (by omega) h)
            · exact h
            · exact absurd e3.symm (pw j j2 (by omega) g1 h)
          rw [g3, this]
        · exfalso; apply g1; rw [← hc', hj'.2]; exact getD_memN (by omega)
      obtain ⟨L1, rows1, num1, L1', rows1', num1', nxt', q1, q2, q3, q4, q5, q6, qR, q7, q8, q9⟩ := ih (a + 1) L rows num L' rows' num' (nxt.set a (j : Int)) (by omega) (by omega) T hi hr hr' (by rw [List.length_set]; exact hx) hR (fun b hb => by
        rw [hset _ _ hb]
        by_cases e : b = a
        · rw [if_pos e]; exact ⟨j, h1, rfl, by rw [e]; exact hsj⟩
        · rw [if_neg e]; exact hv b (by omega))
      exact ⟨L1, rows1, num1, L1', rows1', num1', nxt', q1, q2, q3, q4, q5, q6, qR, q7,
        fun r E => ls_known d7 d8 d9 e10 F S T.k i p a hp haA hi hr nxt hx (j : Int) h3 (by omega) r (q8 r E),
        fun r E => ls_known d7 d8 d9 e10 F' S' T.k' i p' a hp' haA hi' hr' nxt hx (j : Int) hnum' (by omega) r (q9 r E)⟩
    · -- new
      have hnum' : C'.getD (nx N' p' a) 0 ∉ L' ∧ num'.getD (C'.getD (nx N' p' a) 0).toNat 0 = -1 := by
        rcases T.k'.cases S' _ hq' with ⟨j, g1, g2, g3⟩ | h
        · exfalso
          have hj' := T.k'.row j g1
          have hj := T.k.row j (by omega)
          have hsj : Same A N' M' (rows'.getD j 0) N' M' (nx N' p' a) := S'.same F' hj'.1 hq' (hj'.2.trans g2)
          have := H _ _ hj.1 hq (((T.same j (by omega)).trans hsj).trans hsn.symm)
          apply h1; rw [← this, hj.2]; exact getD_memN (by omega)
        · exact h
      have K2 := T.k.push S _ hq h1
      have K2' := T.k'.push S' _ hq' hnum'.1
      have hrl := T.k.same
      have hrl' := T.k'.same
      have T2 : Twin A N M C (L ++ [C.getD (nx N p a) 0]) (rows ++ [nx N p a]) (num.set (C.getD (nx N p a) 0).toNat (L.length : Int)) N' M' C' (L' ++ [C'.getD (nx N' p' a) 0]) (rows' ++ [nx N' p' a]) (num'.set (C'.getD (nx N' p' a) 0).toNat (L'.length : Int)) := by
        refine ⟨K2, K2', by simp [hlen], fun j hj => ?_⟩
        rw [List.length_append, List.length_singleton] at hj
        by_cases h : j < L.length
        · rw [getD_app_left _ _ _ (by omega), getD_app_left _ _ _ (by omega)]; exact T.same j h
        · have e : j = rows.length := by omega
          have e' : j = rows'.length := by omega
          rw [show (rows ++ [nx N p a]).getD j 0 = nx N p a by rw [e, getD_app_last], show (rows' ++ [nx N' p' a]).getD j 0 = nx N' p' a by rw [e', getD_app_last]]
          exact hsn
      obtain ⟨L1, rows1, num1, L1', rows1', num1', nxt', q1, q2, q3, q4, q5, q6, qR, q7, q8, q9⟩ := ih (a + 1) _ _ _ _ _ _ (nxt.set a (L.length : Int)) (by omega) (by omega) T2 (by rw [List.length_append]; omega) (by rw [getD_app_left _ _ _ (by omega)]; exact hr) (by rw [getD_app_left _ _ _ (by omega)]; exact hr') (by rw [List.length_set]; exact hx) (fun j hj => by
        rw [List.length_append, List.length_singleton] at hj
        by_cases h : j < L.length
        · rw [getD_app_left _ _ _ (by omega)]; exact hR j h
        · have e : j = rows.length := by omega
          rw [show (rows ++ [nx N p a]).getD j 0 = nx N p a by rw [e, getD_app_last]]; exact hRp a haA) (fun b hb => by
        rw [hset _ _ hb, List.length_append, List.length_singleton]
        by_cases e : b = a
        · rw [if_pos e]; exact ⟨L.length, by omega, rfl, by rw [e, ← hrl, getD_app_last]; exact Same.refl _⟩
        · rw [if_neg e]
          obtain ⟨t, t1, t2, t3⟩ := hv b (by omega)
          exact ⟨t, by omega, t2, by rw [getD_app_left _ _ _ (by omega)]; exact t3⟩)
      rw [List.length_append, List.length_singleton] at q2 q3
      refine ⟨L1, rows1, num1, L1', rows1', num1', nxt', q1, by omega, fun j hj => by rw [q3 j (by omega), getD_app_left _ _ _ (by omega)], q4, q5, q6, qR, q7,
        fun r E => ls_new d7 d8 d9 e10 F S T.k i p a hp haA hi hr nxt hx (by omega) r (q8 r E),
        fun r E => ls_new d7 d8 d9 e10 F' S' T.k' i p' a hp' haA hi' hr' nxt hx (by omega) r ?_⟩
      rw [← hlen]
      have := q9 r E
      rw [← hlen] at this
      exact this
end Go.Proofs.YtiiioobebeaafaaSx.DC
namespace Go.Proofs.YtiiioobebeaafaaSx.DC
variable {A s : Int} {N : List (List Int)} {M : List Int} {C : List Int}
theorem ev_det {α : Type} {g : Nat → Option α} {r r' : α} (h : Ev g r) (h' : Ev g r') : r = r' := by
  obtain ⟨a, h⟩ := h
  obtain ⟨b, h'⟩ := h'
  have e1 := h (max a b) (by omega)
  have e2 := h' (max a b) (by omega)
  rw [e1] at e2; exact Option.some.inj e2
/-- What is known of the rows that are made: each row's state, and where its letters lead. -/
structure Led (A : Int) (N : List (List Int)) (M : List Int) (rows : List Nat) (m : Nat) (X : List (List Int)) (Y : List Int) : Prop where
  mark : ∀ j, j < X.length → Y.getD j 0 = M.getD (rows.getD j 0) 0
  row : ∀ j, j < X.length → ∀ a : Nat, (a : Int) < A → ∃ t : Nat, t < m ∧ (X.getD j []).getD a 0 = (t : Int) ∧ Same A N M (rows.getD t 0) N M (nx N (rows.getD j 0) a)
theorem getD_appW (l : List (List Int)) (b : List Int) (i : Nat) (h : i < l.length) : (l ++ [b]).getD i [] = l.getD i [] := by
  rw [List.getD_eq_getElem?_getD, List.getElem?_append_left h, ← List.getD_eq_getElem?_getD]
theorem getD_lastW (l : List (List Int)) (b : List Int) : (l ++ [b]).getD l.length [] = b := by
  rw [List.getD_eq_getElem?_getD, List.getElem?_append_right (Nat.le_refl _), Nat.sub_self]; rfl
theorem getD_appI (l : List Int) (b : Int) (i : Nat) (h : i < l.length) : (l ++ [b]).getD i 0 = l.getD i 0 := by
  rw [List.getD_eq_getElem?_getD, List.getElem?_append_left h, ← List.getD_eq_getElem?_getD]
theorem getD_lastI (l : List Int) (b : Int) : (l ++ [b]).getD l.length 0 = b := by
  rw [List.getD_eq_getElem?_getD, List.getElem?_append_right (Nat.le_refl _), Nat.sub_self]; rfl
theorem out2 {s' : Int} {N' : List (List Int)} {M' C' : List Int} (F : Fit A s N M) (S : Stable N M C) (H : Coarse A N M C) (F' : Fit A s' N' M') (S' : Stable N' M' C') (H' : Coarse A N' M' C') (Rch : Nat → Prop) (hRp : ∀ p a : Nat, p < N.length → (a : Int) < A → Rch p → Rch (nx N p a)) :
    ∀ n i L rows num L' rows' num' X Y, N.length - i = n → Twin A N M C L rows num N' M' C' L' rows' num' → i ≤ L.length → X.length = i → Y.length = i → Led A N M rows L.length X Y → (∀ j, j < L.length → Rch (rows.getD j 0)) →
    ∃ rf X1 Y1, ((∀ j, j < X1.length → Rch (rf.getD j 0)) ∧ ∀ j j', j < X1.length → j' < X1.length → C.getD (rf.getD j 0) 0 = C.getD (rf.getD j' 0) 0 → j = j') ∧ Led A N M rf X1.length X1 Y1 ∧ Y1.length = X1.length ∧ (∀ j, j < X1.length → rf.getD j 0 < N.length) ∧ L.length ≤ X1.length ∧ (∀ j, j < L.length → rf.getD j 0 = rows.getD j 0) ∧
      Ev (fun k => evermoreref3_Least.l11 k (i : Int) A s N M 0 0 C num (ints rows) A 0 [] [] X Y) (A, 0, X1, Y1) ∧
      Ev (fun k => evermoreref3_Least.l11 k (i : Int) A s' N' M' 0 0 C' num' (ints rows') A 0 [] [] X Y) (A, 0, X1, Y1) := by
  have a1 := F.a1; have a4 := F.a4; have n3 := F.n3; have n3' := F'.n3
  intro n
  have fin : ∀ i L rows num L' rows' num' X Y, Twin A N M C L rows num N' M' C' L' rows' num' → i = L.length → X.length = i → Y.length = i → Led A N M rows L.length X Y → (∀ j, j < L.length → Rch (rows.getD j 0)) →
    ∃ rf X1 Y1, ((∀ j, j < X1.length → Rch (rf.getD j 0)) ∧ ∀ j j', j < X1.length → j' < X1.length → C.getD (rf.getD j 0) 0 = C.getD (rf.getD j' 0) 0 → j = j') ∧ Led A N M rf X1.length X1 Y1 ∧ Y1.length = X1.length ∧ (∀ j, j < X1.length → rf.getD j 0 < N.length) ∧ L.length ≤ X1.length ∧ (∀ j, j < L.length → rf.getD j 0 = rows.getD j 0) ∧
      Ev (fun k => evermoreref3_Least.l11 k (i : Int) A s N M 0 0 C num (ints rows) A 0 [] [] X Y) (A, 0, X1, Y1) ∧
      Ev (fun k => evermoreref3_Least.l11 k (i : Int) A s' N' M' 0 0 C' num' (ints rows') A 0 [] [] X Y) (A, 0, X1, Y1) := by
    intro i L rows num L' rows' num' X Y T hi hX hY hL hR
    have h1 := T.k.same; have h2 := T.k'.same; have h3 := T.len
    refine ⟨rows, X, Y, ⟨fun j hj => hR j (by omega), fun j j' hj hj' e => ?_⟩, by rw [hX, hi]; exact hL, by omega, fun j hj => (T.k.row j (by omega)).1, by omega, fun j hj => rfl, Ev.step (h := fun _ => some (A, 0, X, Y)) (fun k => ?_) (Ev.now _), Ev.step (h := fun _ => some (A, 0, X, Y)) (fun k => ?_) (Ev.now _)⟩
    · rw [(T.k.row j (by omega)).2, (T.k.row j' (by omega)).2] at e
      have pw := List.pairwise_iff_getElem.1 T.k.nd
      have e1 : L.getD j 0 = L[j]'(by omega) := by rw [List.getD_eq_getElem?_getD, List.getElem?_eq_getElem (by omega)]; rfl
      have e2 : L.getD j' 0 = L[j']'(by omega) := by rw [List.getD_eq_getElem?_getD, List.getElem?_eq_getElem (by omega)]; rfl
      rw [e1, e2] at e
      rcases Nat.lt_trichotomy j j' with h | h | h
      · exact absurd e (pw j j' (by omega) (by omega) h)
      · exact h
      · exact absurd e.symm (pw j' j (by omega) (by omega) h)
    · rw [evermoreref3_Least.l11, if_neg (by rw [ints_len]; omega)]
    · rw [evermoreref3_Least.l11, if_neg (by rw [ints_len]; omega)]
  induction n with
  | zero =>
    intro i L rows num L' rows' num' X Y hn T hi hX hY hL hR
    have := T.k.bound S
    exact fin i L rows num L' rows' num' X Y T (by omega) hX hY hL hR
  | succ n ih =>
    intro i L rows num L' rows' num' X Y hn T hi hX hY hL hR
    by_cases hiL : i < L.length
    · have h3 := T.len
      obtain ⟨hp, hpe⟩ := T.k.row i hiL
      obtain ⟨hp', hpe'⟩ := T.k'.row i (by omega)
      have hs := T.k.same
      have hs' := T.k'.same
      have hb := T.k.bound S
      obtain ⟨L1, rows1, num1, L1', rows1', num1', nxt', q1, q2, q3, q4, q5, q6, qR, q7, q8, q9⟩ := tan2 F S H F' S' H' i (rows.getD i 0) (rows'.getD i 0) hp hp' (T.same i hiL) Rch (fun a ha => hRp _ a hp ha (hR i hiL)) [] [] X Y _ 0 L rows num L' rows' num' (List.replicate A.toNat 0) rfl (by omega) T hiL rfl rfl (by simp) hR (fun j hj => by omega)
      have hs1 := q1.k.same
      have hs1' := q1.k'.same
      have hb1 := q1.k.bound S
      have h31 := q1.len
      have hm := F.m
      have hm' := F'.m
      have hmm := (T.same i hiL).mark
      have hL2 : Led A N M rows1 L1.length (X ++ [nxt']) (Y ++ [M.getD (rows.getD i 0) 0]) := by
        refine ⟨fun j hj => ?_, fun j hj a ha => ?_⟩
        · rw [List.length_append, List.length_singleton] at hj
          by_cases h : j < X.length
          · rw [getD_appI _ _ _ (by omega), q3 j (by omega)]; exact hL.mark j h
          · have e : j = Y.length := by omega
            have e2 : j = i := by omega
            rw [show (Y ++ [M.getD (rows.getD i 0) 0]).getD j 0 = M.getD (rows.getD i 0) 0 by rw [e, getD_lastI], q3 j (by omega), e2]
        · rw [List.length_append, List.length_singleton] at hj
          by_cases h : j < X.length
          · rw [getD_appW _ _ _ h]
            obtain ⟨t, t1, t2, t3⟩ := hL.row j h a ha
            exact ⟨t, by omega, t2, by rw [q3 t t1, q3 j (by omega)]; exact t3⟩
          · have e : j = X.length := by omega
            have e2 : j = i := by omega
            rw [show (X ++ [nxt']).getD j [] = nxt' by rw [e, getD_lastW]]
            obtain ⟨t, t1, t2, t3⟩ := q7 a (by omega)
            exact ⟨t, t1, t2, by rw [e2, q4]; exact t3⟩
      obtain ⟨rf, X1, Y1, m0, m1, m2, m3, m4, m5, e1, e2⟩ := ih (i + 1) L1 rows1 num1 L1' rows1' num1' (X ++ [nxt']) (Y ++ [M.getD (rows.getD i 0) 0]) (by omega) q1 (by omega) (by simp [hX]) (by simp [hY]) hL2 qR
      have hb1' := q1.k'.bound S'
      refine ⟨rf, X1, Y1, m0, m1, m2, m3, by omega, fun j hj => by rw [m5 j (by omega), q3 j hj], Ev.step (fun k => ?_) (q8 _ (Ev.step (fun k => ?_) e1)), Ev.step (fun k => ?_) (q9 _ (Ev.step (fun k => ?_) e2))⟩
      · rw [evermoreref3_Least.l11, if_pos (by rw [ints_len]; omega), if_pos (by omega), if_pos (by omega), if_pos (by omega)]
        rfl
      · have hrp : (ints rows1).getD i (Int.ofNat 0) = ((rows.getD i 0 : Nat) : Int) := by rw [ints_getD rows1 i (by omega), q4]
        rw [evermoreref3_Least.l15, if_neg (by omega), if_pos (short _ (by simp; omega)), if_pos (by omega), if_pos (by rw [ints_len]; omega), Int.toNat_natCast, hrp, if_pos (by omega), if_pos (by omega), rd_nat]
        rw [wrSucc i (by omega)]
        exact if_pos (short _ (by simp; omega))
      · rw [evermoreref3_Least.l11, if_pos (by rw [ints_len]; omega), if_pos (by omega), if_pos (by omega), if_pos (by omega)]
        rfl
      · have hrp : (ints rows1').getD i (Int.ofNat 0) = ((rows'.getD i 0 : Nat) : Int) := by rw [ints_getD rows1' i (by omega), q5]
        rw [evermoreref3_Least.l15, if_neg (by omega), if_pos (short _ (by simp; omega)), if_pos (by omega), if_pos (by rw [ints_len]; omega), Int.toNat_natCast, hrp, if_pos (by omega), if_pos (by omega), rd_nat]
        rw [wrSucc i (by omega), hmm]
        exact if_pos (short _ (by simp; omega))
    · exact fin i L rows num L' rows' num' X Y T (by omega) hX hY hL hR
theorem LK.init (F : Fit A s N M) (S : Stable N M C) : LK N C [C.getD s.toNat 0] [s.toNat] ((List.replicate C.length (-1 : Int)).set (C.getD s.toNat 0).toNat 0) := by
  have hl := S.len
  have hs := F.s
  have hc := S.num s.toNat (by omega)
  refine ⟨rfl, fun i hi => ?_, by simp, by simp, fun c hcc => ?_⟩
  · have : i = 0 := by simp at hi; omega
    subst this; exact ⟨by show s.toNat < _; omega, rfl⟩
  · rw [getD_set_int]
    by_cases e : (C.getD s.toNat 0).toNat = c
    · rw [if_pos ⟨e, by simpa using hcc⟩]; exact .inl ⟨0, by simp, by show C.getD s.toNat 0 = _; omega, rfl⟩
    · rw [if_neg (fun h => e h.1)]
      refine .inr ⟨fun h => ?_, ?_⟩
      · rw [List.mem_singleton] at h; omega
      · rw [List.getD_eq_getElem?_getD, List.getElem?_replicate, if_pos hcc]; rfl
theorem least_start (F : Fit A s N M) (S : Stable N M C) (c2 : Ev (fun k => evermoreref3_Classes.f k (A, s, N, M, ())) C) {X : List (List Int)} {Y : List Int}
    (e2 : Ev (fun k => evermoreref3_Least.l11 k ((0 : Nat) : Int) A s N M 0 0 C ((List.replicate C.length (-1 : Int)).set (C.getD s.toNat 0).toNat 0) (ints [s.toNat]) A 0 [] [] [] []) (A, 0, X, Y)) : Ev (fun k => evermoreref3_Least.f k (A, s, N, M, ())) (A, 0, X, Y) := by
  have n3 := F.n3
  have hl := S.len
  have hs := F.s
  simp only [evermoreref3_Least.f]
  refine Ev.bind c2 ?_
  have e2' : Ev (fun k => evermoreref3_Least.l11 k 0 A s N M 0 0 C ((List.replicate C.length (-1 : Int)).set (C.getD s.toNat 0).toNat 0) [s] A 0 [] [] [] []) (A, 0, X, Y) := by
    have : ints [s.toNat] = [s] := by show [((s.toNat : Nat) : Int)] = [s]; rw [show ((s.toNat : Nat) : Int) = s by omega]
    rw [this] at e2; exact e2
  refine Ev_eq (fun k => ?_) (minus S F _ e2' _ 0 rfl (by omega))
  rw [if_pos (by omega), if_pos (by omega), if_pos (by omega), Int.toNat_natCast]
  rfl
/-- Least: words tell all states apart, and come to each. -/
structure Lst (A : Int) (X : List (List Int)) (Y : List Int) : Prop where
  min : ∀ j j', j < X.length → j' < X.length → Same A X Y j X Y j' → j = j'
  reach : ∀ j, j < X.length → ∃ w : List Nat, (∀ a ∈ w, (a : Int) < A) ∧ aft X 0 w = j
theorem aft_app (N : List (List Int)) : ∀ (w w' : List Nat) (q : Nat), aft N q (w ++ w') = aft N (aft N q w) w' := by
  intro w
  induction w with
  | nil => intro w' q; rfl
  | cons a w ih => intro w' q; exact ih w' _
/-- Two automata that no word tells apart have one least automaton, and it is as they are. -/
theorem least_same {s' : Int} {N' : List (List Int)} {M' : List Int} (F : Fit A s N M) (F' : Fit A s' N' M') (h : Same A N M s.toNat N' M' s'.toNat) :
    ∃ X Y, Ev (fun k => evermoreref3_Least.f k (A, s, N, M, ())) (A, 0, X, Y) ∧ Ev (fun k => evermoreref3_Least.f k (A, s', N', M', ())) (A, 0, X, Y) ∧ Same A X Y 0 N M s.toNat ∧ Lst A X Y := by
  obtain ⟨C, S, H, _, c2⟩ := classes_ev F
  obtain ⟨C', S', H', _, c2'⟩ := classes_ev F'
  obtain ⟨rf, X, Y, m0, m1, m2, m3, m4, m5, e1, e2⟩ := out2 F S H F' S' H' (fun p => ∃ w : List Nat, (∀ a ∈ w, (a : Int) < A) ∧ aft N s.toNat w = p) (fun p a hp ha h => by
    obtain ⟨w, hw, e⟩ := h
    refine ⟨w ++ [a], fun b hb => ?_, ?_⟩
    · rcases List.mem_append.1 hb with h | h
      · exact hw b h
      · rw [List.mem_singleton] at h; rw [h]; exact ha
    · rw [aft_app, e]; rfl) _ 0 _ _ _ _ _ _ [] [] rfl ⟨LK.init F S, LK.init F' S', rfl, fun j hj => by
    have : j = 0 := by simp at hj; omega
    subst this; exact h⟩ (by simp) rfl rfl ⟨fun j hj => by simp at hj, fun j hj => by simp at hj⟩ (fun j hj => by
    have : j = 0 := by simp at hj; omega
    subst this; exact ⟨[], fun a ha => by simp at ha, rfl⟩)
  have hs := F.s
  have sim : ∀ j q, j < X.length → Same A N M (rf.getD j 0) N M q → Same A X Y j N M q := by
    intro j q h1 h2
    refine Same.of (fun j q => j < X.length ∧ Same A N M (rf.getD j 0) N M q) (fun j q hjq => ?_) (fun j q a hjq ha => ?_) j q ⟨h1, h2⟩
    · rw [m1.mark j hjq.1]; exact hjq.2.mark
    · obtain ⟨t, t1, t2, t3⟩ := m1.row j hjq.1 a ha
      rw [t2, Int.toNat_natCast]
      exact ⟨t1, t3.trans (hjq.2.next a ha)⟩
  have h0 : 0 < X.length := by simp at m4; omega
  have hrf0 : rf.getD 0 0 = s.toNat := m5 0 (by simp)
  have walk : ∀ w : List Nat, (∀ a ∈ w, (a : Int) < A) → ∀ j q, j < X.length → Same A N M (rf.getD j 0) N M q → aft X j w < X.length ∧ Same A N M (rf.getD (aft X j w) 0) N M (aft N q w) := by
    intro w
    induction w with
    | nil => intro _ j q h1 h2; exact ⟨h1, h2⟩
    | cons a w ih =>
      intro hw j q h1 h2
      obtain ⟨t, t1, t2, t3⟩ := m1.row j h1 a (hw a List.mem_cons_self)
      have := ih (fun b hb => hw b (List.mem_cons_of_mem _ hb)) t (nx N q a) t1 (t3.trans (h2.next a (hw a List.mem_cons_self)))
      rw [aft, t2, Int.toNat_natCast]; exact this
  refine ⟨X, Y, least_start F S c2 e1, least_start F' S' c2' e2, sim 0 _ h0 (by rw [hrf0]; exact Same.refl _), ⟨fun j j' hj hj' h => ?_, fun j hj => ?_⟩⟩
  · refine m0.2 j j' hj hj' (H _ _ (m3 j hj) (m3 j' hj') ?_)
    exact ((sim j _ hj (Same.refl _)).symm.trans h).trans (sim j' _ hj' (Same.refl _))
  · obtain ⟨w, hw, e⟩ := m0.1 j hj
    obtain ⟨w1, w2⟩ := walk w hw 0 s.toNat h0 (by rw [hrf0]; exact Same.refl _)
    refine ⟨w, hw, m0.2 _ _ w1 hj (H _ _ (m3 _ w1) (m3 j hj) ?_)⟩
    rw [e] at w2; exact w2
/-- det.Smallest of one automaton is the reference's least of another one that no word tells from it. -/
theorem small_same {s' : Int} {N' : List (List Int)} {M' : List Int} (F : Fit A s N M) (F' : Fit A s' N' M') (h : Same A N M s.toNat N' M' s'.toNat) :
    ∃ X Y, Fit A 0 X Y ∧ Ev (fun k => det_Smallest.f k (A, s, N, M, ())) (A, 0, X, Y) ∧ Ev (fun k => evermoreref3_Least.f k (A, s', N', M', ())) (A, 0, X, Y) ∧ Same A X Y 0 N M s.toNat ∧ Lst A X Y := by
  obtain ⟨X, Y, m1, m2, m3, m4, e1, e2⟩ := least_ev F
  obtain ⟨X2, Y2, f1, f2, f3⟩ := least_same F F' h
  have := ev_det e2 f1
  have ex : X = X2 := congrArg (fun r : Int × Int × List (List Int) × List Int => r.2.2.1) this
  have ey : Y = Y2 := congrArg (fun r : Int × Int × List (List Int) × List Int => r.2.2.2) this
  subst ex; subst ey
  exact ⟨X, Y, fit_of F m1 m2 m3 m4, e1, f2, f3⟩
end Go.Proofs.YtiiioobebeaafaaSx.DC
namespace Go.Proofs.YtiiioobebeaafaaSx.DC
variable {A s : Int} {N : List (List Int)} {M : List Int}
/-- The state behind a word. -/
def afterN (N : List (List Int)) (q : Int) (w : List Int) : Int := w.foldl (fun q a => (N.getD q.toNat []).getD a.toNat 0) q
def WordOk (A : Int) (w : List Int) : Prop := ∀ x ∈ w, 0 ≤ x ∧ x < A
theorem step_ok (F : Fit A s N M) {q x : Int} (hq : 0 ≤ q ∧ q < (N.length : Int)) (hx : 0 ≤ x ∧ x < A) : 0 ≤ (N.getD q.toNat []).getD x.toNat 0 ∧ (N.getD q.toNat []).getD x.toNat 0 < (N.length : Int) :=
  F.ent q.toNat (by omega) x.toNat (by omega)
theorem after_l2 (F : Fit A s N M) (w : List Int) (hw : WordOk A w) (hl : w.length ≤ 100000) : ∀ n i q, w.length - i = n → i ≤ w.length → (0 ≤ q ∧ q < (N.length : Int)) →
    Ev (fun k => evermoreref3_After.l2 k q w (i : Int) A s N M) (afterN N q (w.drop i)) := by
  intro n
  induction n with
  | zero =>
    intro i q hn hi hq
    rw [List.drop_eq_nil_of_le (by omega)]
    refine Ev.step (h := fun _ => some q) (fun k => ?_) (Ev.now _)
    rw [evermoreref3_After.l2, if_neg (by omega)]
  | succ n ih =>
    intro i q hn hi hq
    have hx := hw _ (getD_memI w i (by omega))
    have hrow := F.row q.toNat (by omega)
    have hrd : rd [] N q = N.getD q.toNat [] := rfl
    have c1 : (0 : Int) ≤ w.getD i (Int.ofNat 0) := hx.1
    have c2 : w.getD i (Int.ofNat 0) < (((N.getD q.toNat []).length : Nat) : Int) := by rw [hrow]; exact hx.2
    have h1 := ih (i + 1) ((N.getD q.toNat []).getD (w.getD i 0).toNat 0) (by omega) (by omega) (step_ok F hq hx)
    rw [drop_getD 0 w i (by omega)]
    refine Ev.step (fun k => ?_) h1
    rw [evermoreref3_After.l2, if_pos (by omega), if_pos (by omega), if_pos (by omega), if_pos (by omega), if_pos (by omega), rd_nat, if_pos c1, hrd, if_pos c2, wrSucc i (by omega)]
    rfl
theorem after_ev (F : Fit A s N M) (w : List Int) (hw : WordOk A w) (hl : w.length ≤ 100000) (q : Int) (hq : 0 ≤ q ∧ q < (N.length : Int)) : Ev (fun k => evermoreref3_After.f k (A, s, N, M, ()) q w) (afterN N q w) := by
  have := after_l2 F w hw hl _ 0 q rfl (by omega) hq
  rw [List.drop_zero] at this; exact this
def doesN (N : List (List Int)) (w : List Int) : List Int := (List.range' 0 N.length).map fun q : Nat => afterN N (q : Int) w
theorem does_l3 (F : Fit A s N M) (w : List Int) (hw : WordOk A w) (hl : w.length ≤ 100000) : ∀ n q out, N.length - q = n → q ≤ N.length → out.length + n ≤ 10000 →
    Ev (fun k => evermoreref4_Does.l3 k w (q : Int) A s N M out) (out ++ (List.range' q n).map fun q : Nat => afterN N (q : Int) w) := by
  intro n
  induction n with
  | zero =>
    intro q out hn hq ho
    refine Ev.step (h := fun _ => some out) (fun k => ?_) ((Ev.now _).cast (by simp))
    rw [evermoreref4_Does.l3, if_neg (by omega)]
  | succ n ih =>
    intro q out hn hq ho
    have n3 := F.n3
    refine Ev.step (h := fun k => (evermoreref3_After.f k (A, s, N, M, ()) (q : Int) w).bind fun r3 => if (out ++ [r3]).length.blt 1000000000 = true then evermoreref4_Does.l3 k w ((q + 1 : Nat) : Int) A s N M (out ++ [r3]) else none) (fun k => ?_) (Ev.bind (after_ev F w hw hl (q : Int) ⟨by omega, by omega⟩) ?_)
    · rw [evermoreref4_Does.l3, if_pos (by omega), wrSucc q (by omega)]
    · simp only [if_pos (short (out ++ [afterN N (q : Int) w]).length (by simp; omega))]
      refine (ih (q + 1) (out ++ [afterN N (q : Int) w]) (by omega) (by omega) (by simp; omega)).cast ?_
      rw [List.range'_succ, List.map_cons, List.append_assoc, List.singleton_append]
theorem does_ev (F : Fit A s N M) (w : List Int) (hw : WordOk A w) (hl : w.length ≤ 100000) : Ev (fun k => evermoreref4_Does.f k (A, s, N, M, ()) w) (doesN N w) := by
  have n3 := F.n3
  exact (does_l3 F w hw hl _ 0 [] rfl (by omega) (by simp; omega)).cast (by simp [doesN])
theorem doesN_app (N : List (List Int)) (w : List Int) (a : Int) : doesN N (w ++ [a]) = (doesN N w).map fun q => (N.getD q.toNat []).getD a.toNat 0 := by
  rw [doesN, doesN, List.map_map]
  apply List.map_congr_left
  intro q _
  simp only [afterN, List.foldl_append, List.foldl_cons, List.foldl_nil, Function.comp]
end Go.Proofs.YtiiioobebeaafaaSx.DC
namespace Go.Proofs.YtiiioobebeaafaaSx.DC
variable {A s : Int} {N : List (List Int)} {M : List Int}
theorem key_l3 (w : List Int) (hw : w.length ≤ 1000) : ∀ n i acc, w.length - i = n → i ≤ w.length → acc.length + 2 * n ≤ 10000 →
    Ev (fun k => det_Key.l3 k w (w.length : Int) (i : Int) acc) (strOf (acc ++ (w.drop i).flatMap encB)) := by
  intro n
  induction n with
  | zero =>
    intro i acc hn hi ha
    refine Ev.step (fun k => by rw [det_Key.l3]) ?_
    simp only [if_neg (show ¬ (i : Int) < (w.length : Int) by omega)]
    rw [List.drop_eq_nil_of_le (by omega), List.flatMap_nil, List.append_nil]
    exact Ev.now _
  | succ n ih =>
    intro i acc hn hi ha
    refine Ev.step (fun k => by rw [det_Key.l3]) ?_
    have e : acc ++ [IntKind.u8.wrap (rd (Int.ofNat 0) w (i : Int)), IntKind.u8.wrap ((rd (Int.ofNat 0) w (i : Int)).fdiv (2 ^ min (Int.toNat 8) IntKind.i64.bits))] = acc ++ encB (w.getD i 0) := by rw [rd_nat]; rfl
    have hl : (acc ++ encB (w.getD i 0)).length = acc.length + 2 := by rw [List.length_append]; rfl
    simp only [if_pos (show (i : Int) < (w.length : Int) by omega), if_pos (show (0 : Int) ≤ (i : Int) by omega), e, if_pos (short (acc ++ encB (w.getD i 0)).length (by omega)), wrSucc i (by omega)]
    refine (ih (i + 1) _ (by omega) (by omega) (by omega)).cast ?_
    rw [drop_getD 0 w i (by omega), List.flatMap_cons, List.append_assoc]
theorem key_ev (w : List Int) (hw : w.length ≤ 1000) : Ev (fun k => det_Key.f k w) (text w) :=
  key_l3 w hw _ 0 [] rfl (by omega) (by simp; omega)

abbrev El := List Int × List Int × Unit
abbrev se (L : List El) : List (ByteArray × Int) := numb (K := .str) (fun e : El => text e.1) 1 L
/-- The program's row of what a word does. -/
theorem m17 (F : Fit A s N M) (i a : Nat) (ha : (a : Int) < A) (D w : List Int) (hD : D.length ≤ 1000) (hd : ∀ x ∈ D, 0 ≤ x ∧ x < (N.length : Int)) (se' : List (ByteArray × Int)) (L : List El) (r : List El)
    (H : Ev (fun k => (det_Key.f k (D.map fun q => (N.getD q.toNat []).getD a 0)).bind fun r3 =>
      if mget .str (.int .i64) se' r3 = 0 then
       if (L ++ [((D.map fun q => (N.getD q.toNat []).getD a 0), w, ())]).length.blt 1000000000 = true then
       monoid_elements.j25 k (i : Int) A (a : Int) A s N M (mput .str (.int .i64) se' r3 (((L ++ [((D.map fun q => (N.getD q.toNat []).getD a 0), w, ())]).length : Nat) : Int)) (L ++ [((D.map fun q => (N.getD q.toNat []).getD a 0), w, ())])
       else none
      else monoid_elements.j25 k (i : Int) A (a : Int) A s N M se' L) r) : ∀ n j, D.length - j = n → j ≤ D.length →
    Ev (fun k => monoid_elements.l17 k (i : Int) (a : Int) A (a : Int) D (D.length : Int) (j : Int) A s N M se' L ((D.take j).map fun q => (N.getD q.toNat []).getD a 0) w) r := by
  intro n
  induction n with
  | zero =>
    intro j hn hj
    rw [List.take_of_length_le (by omega)]
    refine Ev.step (fun k => ?_) H
    rw [monoid_elements.l17, if_neg (by omega)]
  | succ n ih =>
    intro j hn hj
    have hx := hd _ (getD_memI D j (by omega))
    have hrow := F.row (D.getD j 0).toNat (by omega)
    have c1 : (0 : Int) ≤ D.getD j (Int.ofNat 0) := hx.1
    have c2 : D.getD j (Int.ofNat 0) < (N.length : Int) := hx.2
    have hrd : rd [] N (D.getD j (Int.ofNat 0)) = N.getD (D.getD j 0).toNat [] := rfl
    have e : ((D.take j).map fun q => (N.getD q.toNat []).getD a 0) ++ [(N.getD (D.getD j 0).toNat []).getD a (Int.ofNat 0)] = (D.take (j + 1)).map fun q => (N.getD q.toNat []).getD a 0 := by
      rw [List.take_succ_eq_append_getElem (by omega), List.map_append, List.getD_eq_getElem?_getD (l := D), List.getElem?_eq_getElem (by omega)]; rfl
    refine Ev.step (fun k => ?_) (ih (j + 1) (by omega) (by omega))
    rw [monoid_elements.l17, if_pos (by omega), if_pos (by omega), if_pos (by omega), rd_nat, if_pos c1, if_pos c2, if_pos (by omega), hrd, if_pos (by omega), rd_nat, e, wrSucc j (by omega)]
    exact if_pos (short _ (by rw [List.length_map, List.length_take]; omega))
end Go.Proofs.YtiiioobebeaafaaSx.DC
namespace Go.Proofs.YtiiioobebeaafaaSx.DC
variable {A s : Int} {N : List (List Int)} {M : List Int}
theorem words_l4 (a b : List Int) (ha : a.length ≤ 1000) (hb : a.length = b.length) : ∀ n i, a.length - i = n → i ≤ a.length → Ev (fun k => evermoreref1_Words.l4 k a b (i : Int)) (decide (a.drop i = b.drop i)) := by
  intro n
  induction n with
  | zero =>
    intro i hn hi
    refine Ev.step (fun k => by rw [evermoreref1_Words.l4]) ?_
    simp only [if_neg (show ¬ (i : Int) < (a.length : Int) by omega)]
    rw [List.drop_eq_nil_of_le (by omega), List.drop_eq_nil_of_le (by omega)]; exact Ev.now _
  | succ n ih =>
    intro i hn hi
    refine Ev.step (fun k => by rw [evermoreref1_Words.l4]) ?_
    simp only [if_pos (show (i : Int) < (a.length : Int) by omega), if_pos (show (0 : Int) ≤ (i : Int) by omega), if_pos (show (i : Int) < (b.length : Int) by omega), rd_nat, wrSucc i (by omega)]
    rw [drop_getD (Int.ofNat 0) a i (by omega), drop_getD (Int.ofNat 0) b i (by omega)]
    by_cases h1 : a.getD i (Int.ofNat 0) = b.getD i (Int.ofNat 0)
    · simp only [if_pos h1]; refine (ih (i + 1) (by omega) (by omega)).cast ?_; simp only [List.cons.injEq, h1, true_and]
    · simp only [if_neg h1]; refine (Ev.now _).cast ?_; simp only [List.cons.injEq, h1, false_and, decide_false]
theorem words_ev (a b : List Int) (ha : a.length ≤ 1000) : Ev (fun k => evermoreref1_Words.f k a b) (decide (a = b)) := by
  by_cases h : a.length = b.length
  · simp only [evermoreref1_Words.f, if_pos (show (a.length : Int) = (b.length : Int) by omega)]
    exact words_l4 a b ha h _ 0 rfl (by omega)
  · simp only [evermoreref1_Words.f, if_neg (show ¬ (a.length : Int) = (b.length : Int) by omega)]
    exact (Ev.now _).cast (decide_eq_false (fun e => h (congrArg _ e))).symm

def add (L : List El) (x w : List Int) : List El := if x ∈ L.map (·.1) then L else L ++ [(x, w, ())]
def allB (b : Nat) : Nat → List (List Int)
  | 0 => [[]]
  | n + 1 => (allB b n).flatMap fun w => (List.range b).map fun a : Nat => (a : Int) :: w
theorem sum_b (b : Nat) (l : List (List Int)) : (l.map fun _ => b).sum = l.length * b := by
  induction l with
  | nil => simp
  | cons a l ih => rw [List.map_cons, List.sum_cons, ih, List.length_cons, Nat.succ_mul]; omega
theorem allB_len (b n : Nat) : (allB b n).length = b ^ n := by
  induction n with
  | zero => rfl
  | succ n ih => rw [allB, List.length_flatMap]; simp only [List.length_map, List.length_range]; rw [sum_b, ih, Nat.pow_succ]
theorem allB_mem (b : Nat) : ∀ (w : List Int), (∀ x ∈ w, 0 ≤ x ∧ x < (b : Int)) → w ∈ allB b w.length := by
  intro w
  induction w with
  | nil => intro _; simp [allB]
  | cons a w ih =>
    intro h
    rw [List.length_cons, allB, List.mem_flatMap]
    refine ⟨w, ih fun x hx => h x (List.mem_cons_of_mem _ hx), ?_⟩
    rw [List.mem_map]
    have := h a List.mem_cons_self
    exact ⟨a.toNat, by rw [List.mem_range]; omega, by rw [show ((a.toNat : Nat) : Int) = a by omega]⟩
end Go.Proofs.YtiiioobebeaafaaSx.DC
namespace Go.Proofs.YtiiioobebeaafaaSx.DC
variable {A s : Int} {N : List (List Int)} {M : List Int}
theorem after_ok (F : Fit A s N M) : ∀ (w : List Int) (q : Int), WordOk A w → 0 ≤ q ∧ q < (N.length : Int) → 0 ≤ afterN N q w ∧ afterN N q w < (N.length : Int) := by
  intro w
  induction w with
  | nil => intro q _ hq; exact hq
  | cons a w ih => intro q hw hq; exact ih _ (fun x hx => hw x (List.mem_cons_of_mem _ hx)) (step_ok F hq (hw a List.mem_cons_self))
theorem does_len (w : List Int) : (doesN N w).length = N.length := by simp [doesN]
theorem does_rng (F : Fit A s N M) (w : List Int) (hw : WordOk A w) : ∀ x ∈ doesN N w, 0 ≤ x ∧ x < (N.length : Int) := by
  intro x hx
  obtain ⟨q, hq, rfl⟩ := List.mem_map.1 hx
  rw [List.mem_range'_1] at hq
  exact after_ok F w _ hw ⟨by omega, by omega⟩
structure InvE (A : Int) (N : List (List Int)) (L : List El) : Prop where
  els : ∀ e ∈ L, e.1 = doesN N e.2.1 ∧ WordOk A e.2.1 ∧ e.2.1.length ≤ L.length
  nd : (L.map (·.1)).Nodup
theorem InvE.len (F : Fit A s N M) (h5 : N.length ≤ 5) {L : List El} (H : InvE A N L) : L.length ≤ 3125 := by
  have := nodup_sub (L.map (·.1)) (allB N.length N.length) H.nd (fun x hx => by
    obtain ⟨e, he, rfl⟩ := List.mem_map.1 hx
    obtain ⟨h1, h2, _⟩ := H.els e he
    have := allB_mem N.length e.1 (by rw [h1]; exact does_rng F _ h2)
    rw [h1, does_len] at this; rw [h1]; exact this)
  rw [List.length_map, allB_len] at this
  exact Nat.le_trans this (Nat.le_trans (Nat.pow_le_pow_left h5 _) (Nat.pow_le_pow_right (by omega) h5))
end Go.Proofs.YtiiioobebeaafaaSx.DC
namespace Go.Proofs.YtiiioobebeaafaaSx.DC
variable {A s : Int} {N : List (List Int)} {M : List Int}
/-! det.After, and the elements: each word does what some element does. -/
abbrev nats (w : List Int) : List Nat := w.map Int.toNat
theorem nats_ok {w : List Int} (h : WordOk A w) : ∀ a ∈ nats w, (a : Int) < A := by
  intro a ha
  obtain ⟨x, hx, rfl⟩ := List.mem_map.1 ha
  have := h x hx; omega
theorem afterN_aft (F : Fit A s N M) : ∀ (w : List Int) (q : Nat), WordOk A w → q < N.length → afterN N (q : Int) w = ((aft N q (nats w) : Nat) : Int) ∧ aft N q (nats w) < N.length := by
  intro w
  induction w with
  | nil => intro q _ hq; exact ⟨rfl, hq⟩
  | cons a w ih =>
    intro q hw hq
    have ha := hw a List.mem_cons_self
    have he := F.ent q hq a.toNat (by omega)
    have := ih ((N.getD q []).getD a.toNat 0).toNat (fun x hx => hw x (List.mem_cons_of_mem _ hx)) (by omega)
    rw [show (((N.getD q []).getD a.toNat 0).toNat : Int) = (N.getD q []).getD a.toNat 0 by omega] at this
    exact this
theorem det_after_l2 (F : Fit A s N M) (w : List Int) (hw : WordOk A w) (hl : w.length ≤ 100000) : ∀ n i q, w.length - i = n → i ≤ w.length → (0 ≤ q ∧ q < (N.length : Int)) →
    Ev (fun k => det_After.l2 k q w (w.length : Int) (i : Int) A s N M) (afterN N q (w.drop i)) := by
  intro n
  induction n with
  | zero =>
    intro i q hn hi hq
    rw [List.drop_eq_nil_of_le (by omega)]
    refine Ev.step (h := fun _ => some q) (fun k => ?_) (Ev.now _)
    rw [det_After.l2, if_neg (by omega)]
  | succ n ih =>
    intro i q hn hi hq
    have hx := hw _ (getD_memI w i (by omega))
    have hrow := F.row q.toNat (by omega)
    have hrd : rd [] N q = N.getD q.toNat [] := rfl
    have c1 : (0 : Int) ≤ w.getD i (Int.ofNat 0) := hx.1
    have c2 : w.getD i (Int.ofNat 0) < (((N.getD q.toNat []).length : Nat) : Int) := by rw [hrow]; exact hx.2
    have h1 := ih (i + 1) ((N.getD q.toNat []).getD (w.getD i 0).toNat 0) (by omega) (by omega) (step_ok F hq hx)
    rw [drop_getD 0 w i (by omega)]
    refine Ev.step (fun k => ?_) h1
    rw [det_After.l2, if_pos (by omega), if_pos (by omega), if_pos (by omega), if_pos hq.1, if_pos hq.2, rd_nat, if_pos c1, hrd, if_pos c2, wrSucc i (by omega)]
    rfl
theorem det_after (F : Fit A s N M) (w : List Int) (hw : WordOk A w) (hl : w.length ≤ 100000) (q : Nat) (hq : q < N.length) : Ev (fun k => det_After.f k (A, s, N, M, ()) (q : Int) w) ((aft N q (nats w) : Nat) : Int) := by
  have := det_after_l2 F w hw hl _ 0 (q : Int) rfl (by omega) ⟨by omega, by omega⟩
  rw [List.drop_zero] at this
  exact this.cast (afterN_aft F w q hw hq).1
theorem ref_after (F : Fit A s N M) (w : List Int) (hw : WordOk A w) (hl : w.length ≤ 100000) (q : Nat) (hq : q < N.length) : Ev (fun k => evermoreref3_After.f k (A, s, N, M, ()) (q : Int) w) ((aft N q (nats w) : Nat) : Int) :=
  (after_ev F w hw hl (q : Int) ⟨by omega, by omega⟩).cast (afterN_aft F w q hw hq).1
/-- The program's search: what is made of each element by each letter is there. -/
theorem innerP (F : Fit A s N M) (h5 : N.length ≤ 5) (i : Nat) : ∀ n a L, A.toNat - a = n → (a : Int) ≤ A → InvE A N L → (hi : i < L.length) →
    ∃ L', InvE A N (L ++ L') ∧ (∀ b, a ≤ b → (b : Int) < A → doesN N (L[i].2.1 ++ [(b : Int)]) ∈ (L ++ L').map (·.1)) ∧
      (∀ r, Ev (fun k => monoid_elements.l10 k ((i + 1 : Nat) : Int) A s N M (se (L ++ L')) (L ++ L')) r → Ev (fun k => monoid_elements.l13 k (i : Int) A (a : Int) A s N M (se L) L) r) := by
  have a4 := F.a4
  intro n
  induction n with
  | zero =>
    intro a L hn ha H hi
    have hL := H.len F h5
    refine ⟨[], by rw [List.append_nil]; exact H, fun b hb hb2 => by omega, fun r E => Ev.step (fun k => ?_) E⟩
    rw [monoid_elements.l13, if_neg (by omega), wrSucc i (by omega), List.append_nil]
  | succ n ih =>
    intro a L hn ha H hi
    have hL := H.len F h5
    have haA : (a : Int) < A := by omega
    have hmem : L[i] ∈ L := List.getElem_mem hi
    have hge : L.getD i ([], [], ()) = L[i] := by rw [List.getD_eq_getElem?_getD, List.getElem?_eq_getElem hi]; rfl
    obtain ⟨hd, hw, hwl⟩ := H.els _ hmem
    have hwa : WordOk A (L[i].2.1 ++ [(a : Int)]) := by
      intro x hx
      rcases List.mem_append.1 hx with h | h
      · exact hw x h
      · rw [List.mem_singleton] at h; omega
    have hxe : (L[i].1.map fun q => (N.getD q.toNat []).getD a 0) = doesN N (L[i].2.1 ++ [(a : Int)]) := by rw [doesN_app, ← hd]; rfl
    generalize hx : doesN N (L[i].2.1 ++ [(a : Int)]) = x at hxe
    have hxr : ∀ y ∈ x, 0 ≤ y ∧ y < (N.length : Int) := by rw [← hx]; exact does_rng F _ hwa
    have hxl : x.length = N.length := by rw [← hx]; exact does_len _
    have hkey : ∀ f ∈ L, (text f.1 = text x ↔ f.1 = x) := by
      intro f hf
      obtain ⟨h1, h2, _⟩ := H.els f hf
      refine text_inj (by rw [h1, does_len, hxl]) ?_ (fun y hy => by have := hxr y hy; omega)
      rw [h1]; intro y hy; have := does_rng F _ h2 y hy; omega
    have hidx : L.findIdx (fun f => (Ty.str).beq (text x) (text f.1)) < L.length ↔ x ∈ L.map (·.1) := by
      rw [List.findIdx_lt_length]
      constructor
      · rintro ⟨f, hf, h⟩
        have h' : text x = text f.1 := of_decide_eq_true h
        exact List.mem_map.2 ⟨f, hf, (hkey f hf).1 h'.symm⟩
      · intro h
        obtain ⟨f, hf, h'⟩ := List.mem_map.1 h
        exact ⟨f, hf, decide_eq_true (show text x = text f.1 by rw [h'])⟩
    have hget := numb_get (K := .str) (fun f : El => text f.1) (text x) L 1
    have prog : ∀ r, Ev (fun k => monoid_elements.j25 k (i : Int) A (a : Int) A s N M (se (add L x (L[i].2.1 ++ [(a : Int)]))) (add L x (L[i].2.1 ++ [(a : Int)]))) r → Ev (fun k => monoid_elements.l13 k (i : Int) A (a : Int) A s N M (se L) L) r := by
      intro r E
      refine Ev.step (h := fun k => monoid_elements.l17 k (i : Int) (a : Int) A (a : Int) L[i].1 (L[i].1.length : Int) 0 A s N M (se L) L [] (L[i].2.1 ++ [(a : Int)])) (fun k => ?_) ?_
      · rw [monoid_elements.l13, if_pos haA, if_pos (by omega), if_pos (by omega), Int.toNat_natCast, hge, slices_Clone___int_int_.f, if_pos (show Short L[i].2.1.length from short _ (by omega)), Option.bind_some, if_pos (short _ (by rw [List.length_append, List.length_singleton]; omega)), if_pos (by omega), if_pos (by omega)]
      · refine m17 F i a haA L[i].1 (L[i].2.1 ++ [(a : Int)]) (by rw [hd, does_len]; omega) (by rw [hd]; exact does_rng F _ hw) (se L) L r ?_ _ 0 rfl (by omega)
        rw [hxe]
        refine Ev.bind (key_ev x (by omega)) ?_
        by_cases hk : x ∈ L.map (·.1)
        · have hg : ¬ mget .str (.int .i64) (se L) (text x) = (0 : Int) := by
            have : mget .str (.int .i64) (se L) (text x) = _ := hget
            rw [if_pos (hidx.2 hk)] at this
            intro h0
            have h1 : ((1 + L.findIdx (fun f => (Ty.str).beq (text x) (text f.1)) : Nat) : Int) = 0 := this.symm.trans h0
            omega
          rw [add, if_pos hk] at E
          simp only [if_neg hg]; exact E
        · have hg : mget .str (.int .i64) (se L) (text x) = (0 : Int) := by
            have : mget .str (.int .i64) (se L) (text x) = _ := hget
            rw [if_neg (fun h => hk (hidx.1 h))] at this; exact this
          rw [add, if_neg hk] at E
          have hp : mput .str (.int .i64) (se L) (text x) (((L ++ [(x, L[i].2.1 ++ [(a : Int)], ())]).length : Nat) : Int) = se (L ++ [(x, L[i].2.1 ++ [(a : Int)], ())]) := by
            have := numb_put (K := .str) (fun f : El => text f.1) (x, L[i].2.1 ++ [(a : Int)], ()) L 1 (fun h => hk (hidx.1 h))
            rw [List.length_append, List.length_singleton, Nat.add_comm]; exact this
          simp only [if_pos hg, hp, if_pos (short (L ++ [(x, L[i].2.1 ++ [(a : Int)], ())]).length (by rw [List.length_append, List.length_singleton]; omega))]
          exact E
    have step : ∀ (L2 : List El) (r : List El), Ev (fun k => monoid_elements.l13 k (i : Int) A ((a + 1 : Nat) : Int) A s N M (se L2) L2) r → Ev (fun k => monoid_elements.j25 k (i : Int) A (a : Int) A s N M (se L2) L2) r := by
      intro L2 r E
      refine Ev.step (fun k => ?_) E
      rw [monoid_elements.j25, wrSucc a (by omega)]
    by_cases hk : x ∈ L.map (·.1)
    · obtain ⟨L', q1, q2, q3⟩ := ih (a + 1) L (by omega) (by omega) H hi
      rw [add, if_pos hk] at prog
      refine ⟨L', q1, fun b hb hb2 => ?_, fun r E => prog r (step L r (q3 r E))⟩
      by_cases e : b = a
      · rw [e, hx, List.map_append]; exact List.mem_append_left _ hk
      · exact q2 b (by omega) hb2
    · have H2 : InvE A N (L ++ [(x, L[i].2.1 ++ [(a : Int)], ())]) := by
        refine ⟨fun f hf => ?_, ?_⟩
        · rw [List.length_append, List.length_singleton]
          rcases List.mem_append.1 hf with h | h
          · obtain ⟨h1, h2, h3⟩ := H.els f h; exact ⟨h1, h2, by omega⟩
          · rw [List.mem_singleton] at h; rw [h]
            exact ⟨hx.symm, hwa, by rw [List.length_append, List.length_singleton]; omega⟩
        · rw [List.map_append, List.nodup_append]
          refine ⟨H.nd, by simp, fun y hy b hb => ?_⟩
          simp only [List.map_cons, List.map_nil, List.mem_singleton] at hb
          intro e; exact hk (hb ▸ e ▸ hy)
      obtain ⟨L', q1, q2, q3⟩ := ih (a + 1) _ (by omega) (by omega) H2 (by rw [List.length_append]; omega)
      rw [add, if_neg hk] at prog
      have eL : L ++ ((x, L[i].2.1 ++ [(a : Int)], ()) :: L') = L ++ [(x, L[i].2.1 ++ [(a : Int)], ())] ++ L' := by simp
      have hgi : (L ++ [(x, L[i].2.1 ++ [(a : Int)], ())])[i]'(by rw [List.length_append]; omega) = L[i] := List.getElem_append_left hi
      refine ⟨(x, L[i].2.1 ++ [(a : Int)], ()) :: L', by rw [eL]; exact q1, fun b hb hb2 => ?_, fun r E => prog r (step _ r (q3 r (by rw [eL] at E; exact E)))⟩
      rw [eL]
      by_cases e : b = a
      · rw [e, hx, List.map_append, List.map_append]; exact List.mem_append_left _ (List.mem_append_right _ (by simp))
      · have := q2 b (by omega) hb2
        rw [hgi] at this; exact this
/-- Each letter behind each of the first i elements. -/
def Clo (A : Int) (N : List (List Int)) (i : Nat) (L : List El) : Prop := ∀ e ∈ L.take i, ∀ b : Nat, (b : Int) < A → doesN N (e.2.1 ++ [(b : Int)]) ∈ L.map (·.1)
theorem outerP (F : Fit A s N M) (h5 : N.length ≤ 5) : ∀ n i L, 3126 - i = n → InvE A N L → Clo A N i L → i ≤ L.length → ∃ L', InvE A N (L ++ L') ∧ Clo A N (L ++ L').length (L ++ L') ∧ Ev (fun k => monoid_elements.l10 k (i : Int) A s N M (se L) L) (L ++ L') := by
  have a1 := F.a1
  intro n
  induction n with
  | zero => intro i L hn H hc hi; have := H.len F h5; omega
  | succ n ih =>
    intro i L hn H hc hi
    by_cases h : i < L.length
    · obtain ⟨L1, q1, q2, q3⟩ := innerP F h5 i _ 0 L rfl (by omega) H h
      have hc2 : Clo A N (i + 1) (L ++ L1) := by
        intro e he b hb
        rw [List.take_succ_eq_append_getElem (by rw [List.length_append]; omega), List.mem_append, List.mem_singleton, List.getElem_append_left h, List.take_append_of_le_length (by omega)] at he
        rcases he with he | he
        · rw [List.map_append]; exact List.mem_append_left _ (hc e he b hb)
        · rw [he]; exact q2 b (by omega) hb
      obtain ⟨L2, p1, p2, p3⟩ := ih (i + 1) (L ++ L1) (by omega) q1 hc2 (by rw [List.length_append]; omega)
      rw [List.append_assoc] at p1 p2 p3
      refine ⟨L1 ++ L2, p1, p2, Ev.step (fun k => ?_) (q3 _ p3)⟩
      rw [monoid_elements.l10, if_pos (by omega)]; rfl
    · have : i = L.length := by omega
      subst this
      refine ⟨[], by rw [List.append_nil]; exact H, by rw [List.append_nil]; exact hc, ?_⟩
      rw [List.append_nil]
      refine Ev.step (h := fun _ => some L) (fun k => ?_) (Ev.now _)
      rw [monoid_elements.l10, if_neg (by omega)]
theorem init3P (F : Fit A s N M) (h5 : N.length ≤ 5) (r : List El) (H : Ev (fun k => monoid_elements.l10 k 0 A s N M (se [(doesN N [], [], ())]) [(doesN N [], [], ())]) r) : ∀ n j, N.length - j = n → j ≤ N.length →
    Ev (fun k => monoid_elements.l3 k (N.length : Int) (j : Int) A s N M ((List.range' 0 j).map fun q : Nat => (q : Int)) []) r := by
  intro n
  induction n with
  | zero =>
    intro j hn hj
    have : j = N.length := by omega
    subst this
    have hd : (List.range' 0 N.length).map (fun q : Nat => (q : Int)) = doesN N [] := rfl
    rw [hd]
    refine Ev.step (h := fun k => (det_Key.f k (doesN N [])).bind fun r3 => monoid_elements.l10 k 0 A s N M (mput .str (.int .i64) [] r3 (Int.ofNat 1)) [(doesN N [], [], ())]) (fun k => ?_) (Ev.bind (key_ev (doesN N []) (by rw [does_len]; omega)) H)
    rw [monoid_elements.l3, if_neg (by omega)]
  | succ n ih =>
    intro j hn hj
    refine Ev.step (fun k => ?_) (ih (j + 1) (by omega) (by omega))
    rw [monoid_elements.l3, if_pos (by omega), wrSucc j (by omega), List.range'_1_concat, List.map_append]
    simp only [List.map_cons, List.map_nil, Nat.zero_add]
    exact if_pos (short _ (by simp; omega))
theorem elementsP (F : Fit A s N M) (h5 : N.length ≤ 5) : ∃ L, InvE A N L ∧ (∀ w, WordOk A w → doesN N w ∈ L.map (·.1)) ∧ Ev (fun k => monoid_elements.f k (A, s, N, M, ())) L := by
  have a1 := F.a1
  obtain ⟨L', p1, p2, p3⟩ := outerP F h5 _ 0 [(doesN N [], [], ())] rfl ⟨fun e he => by rw [List.mem_singleton] at he; rw [he]; exact ⟨rfl, fun x hx => by simp at hx, by simp⟩, by simp⟩ (fun e he => by simp at he) (by simp)
  refine ⟨_, p1, ?_, init3P F h5 _ p3 _ 0 rfl (by omega)⟩
  have hall : ∀ (n : Nat) (w : List Int), w.length = n → WordOk A w → doesN N w ∈ ([(doesN N [], [], ())] ++ L' : List El).map (·.1) := by
    intro n
    induction n with
    | zero => intro w hl _; rw [List.length_eq_zero_iff.1 hl]; simp
    | succ n ih =>
      intro w hl hw
      have hne : w ≠ [] := by intro h; rw [h] at hl; simp at hl
      have e := List.dropLast_concat_getLast hne
      have h1 := ih w.dropLast (by rw [List.length_dropLast]; omega) (fun x hx => hw x (by rw [← e]; exact List.mem_append_left _ hx))
      obtain ⟨f, hf, hfe⟩ := List.mem_map.1 h1
      obtain ⟨g1, g2, _⟩ := p1.els f hf
      have hlast := hw (w.getLast hne) (List.getLast_mem hne)
      have := p2 f (by rw [List.take_length]; exact hf) (w.getLast hne).toNat (by omega)
      rw [show (((w.getLast hne).toNat : Nat) : Int) = w.getLast hne by omega, doesN_app, ← g1, hfe, ← doesN_app, e] at this
      exact this
  exact fun w hw => hall _ w rfl hw
end Go.Proofs.YtiiioobebeaafaaSx.DC
namespace Go.Proofs.YtiiioobebeaafaaSx.DC
/-! States that are told by keys, numbered as they are come to. -/
section
variable {κ R : Type} (A : Nat) (nf : κ → Nat → κ) (mf : κ → Int) (V : κ → Prop) (B : Nat)
/-- What holds of the keys that were come to. -/
structure KOk (V : κ → Prop) (B : Nat) (L : List κ) : Prop where
  nd : L.Nodup
  v : ∀ k ∈ L, V k
  le : L.length ≤ B
/-- A search by keys: g8 is the loop over letters (keys, the key, what the letters so far lead to, rows, marks), g4 the loop over keys. -/
structure Sys (R : Type) where
  g8 : Nat → List κ → κ → List Int → List (List Int) → List Int → Nat → Option R
  g4 : List κ → List (List Int) → List Int → Nat → Option R
  fin : List (List Int) → List Int → R
  known : ∀ a L k row X Y r i, a < A → KOk V B L → k ∈ L → row.length = a → X.length < L.length → (h : i < L.length) → L[i] = nf k a → Ev (g8 (a + 1) L k (row ++ [(i : Int)]) X Y) r → Ev (g8 a L k row X Y) r
  new : ∀ a L k row X Y r, a < A → KOk V B L → k ∈ L → row.length = a → X.length < L.length → nf k a ∉ L → KOk V B (L ++ [nf k a]) → Ev (g8 (a + 1) (L ++ [nf k a]) k (row ++ [(L.length : Int)]) X Y) r → Ev (g8 a L k row X Y) r
  done : ∀ L k row X Y r, KOk V B L → k ∈ L → row.length = A → X.length < L.length → Y.length = X.length → Ev (g4 L (X ++ [row]) (Y ++ [mf k])) r → Ev (g8 A L k row X Y) r
  start : ∀ L X Y r (h : X.length < L.length), KOk V B L → Y.length = X.length → Ev (g8 0 L L[X.length] [] X Y) r → Ev (g4 L X Y) r
  stop : ∀ L X Y, KOk V B L → X.length = L.length → Y.length = X.length → Ev (g4 L X Y) (fin X Y)
variable {A nf mf V B}
/-- What a search has made: of each key a row, and where its letters lead. -/
structure Rows (A : Nat) (nf : κ → Nat → κ) (mf : κ → Int) (L : List κ) (X : List (List Int)) (Y : List Int) : Prop where
  len : Y.length = X.length
  le : X.length ≤ L.length
  row : ∀ i (h : i < X.length), (X.getD i []).length = A ∧ Y.getD i 0 = mf (L[i]'(by omega)) ∧ ∀ a, a < A → ∃ j, ∃ hj : j < L.length, (X.getD i []).getD a 0 = (j : Int) ∧ L[j] = nf (L[i]'(by omega)) a
variable {R' : Type} (hV : ∀ k a, V k → a < A → V (nf k a)) (hB : ∀ L : List κ, L.Nodup → (∀ k ∈ L, V k) → L.length ≤ B)
include hV hB
theorem KOk.push {L : List κ} (K : KOk V B L) {k : κ} (hk : k ∈ L) {a : Nat} (ha : a < A) (hn : nf k a ∉ L) : KOk V B (L ++ [nf k a]) := by
  have h1 : (L ++ [nf k a]).Nodup := by
    rw [List.nodup_append]
    refine ⟨K.nd, by simp, fun x hx b hb => ?_⟩
    rw [List.mem_singleton] at hb
    intro e; exact hn (hb ▸ e ▸ hx)
  have h2 : ∀ x ∈ L ++ [nf k a], V x := by
    intro x hx
    rcases List.mem_append.1 hx with h | h
    · exact K.v x h
    · rw [List.mem_singleton] at h; rw [h]; exact hV k a (K.v k hk) ha
  exact ⟨h1, h2, hB _ h1 h2⟩
theorem sys_inner (S : Sys A nf mf V B R) (S' : Sys A nf mf V B R') (k : κ) (X : List (List Int)) (Y : List Int) : ∀ n a L row, A - a = n → a ≤ A → KOk V B L → k ∈ L → row.length = a → X.length < L.length →
    (∀ b, b < a → ∃ j, ∃ hj : j < L.length, row.getD b 0 = (j : Int) ∧ L[j] = nf k b) →
    ∃ L' row', KOk V B (L ++ L') ∧ row'.length = A ∧ (∀ b, b < A → ∃ j, ∃ hj : j < (L ++ L').length, row'.getD b 0 = (j : Int) ∧ (L ++ L')[j] = nf k b) ∧
      (∀ r, Ev (S.g8 A (L ++ L') k row' X Y) r → Ev (S.g8 a L k row X Y) r) ∧ (∀ r, Ev (S'.g8 A (L ++ L') k row' X Y) r → Ev (S'.g8 a L k row X Y) r) := by
  intro n
  induction n with
  | zero =>
    intro a L row hn ha K hk hr hx hv
    have : a = A := by omega
    subst this
    refine ⟨[], row, by rw [List.append_nil]; exact K, hr, fun b hb => ?_, fun r E => ?_, fun r E => ?_⟩
    · obtain ⟨j, hj, e1, e2⟩ := hv b hb
      exact ⟨j, by rw [List.append_nil]; exact hj, e1, by simpa using e2⟩
    · rw [List.append_nil] at E; exact E
    · rw [List.append_nil] at E; exact E
  | succ n ih =>
    intro a L row hn ha K hk hr hx hv
    have haA : a < A := by omega
    by_cases hm : nf k a ∈ L
    · obtain ⟨i, hi, e⟩ := List.getElem_of_mem hm
      obtain ⟨L', row', q1, q2, q3, q4, q5⟩ := ih (a + 1) L (row ++ [(i : Int)]) (by omega) (by omega) K hk (by simp [hr]) hx (fun b hb => by
        by_cases h : b < a
        · obtain ⟨j, hj, e1, e2⟩ := hv b h
          exact ⟨j, hj, by rw [getD_appI _ _ _ (by omega)]; exact e1, e2⟩
        · have : b = a := by omega
          subst this
          exact ⟨i, hi, by rw [← hr, getD_lastI], e⟩)
      exact ⟨L', row', q1, q2, q3, fun r E => S.known a L k row X Y r i haA K hk hr hx hi e (q4 r E), fun r E => S'.known a L k row X Y r i haA K hk hr hx hi e (q5 r E)⟩
    · have K2 := K.push hV hB hk haA hm
      obtain ⟨L', row', q1, q2, q3, q4, q5⟩ := ih (a + 1) (L ++ [nf k a]) (row ++ [(L.length : Int)]) (by omega) (by omega) K2 (List.mem_append_left _ hk) (by simp [hr]) (by simp; omega) (fun b hb => by
        by_cases h : b < a
        · obtain ⟨j, hj, e1, e2⟩ := hv b h
          exact ⟨j, by simp; omega, by rw [getD_appI _ _ _ (by omega)]; exact e1, by rw [List.getElem_append_left hj]; exact e2⟩
        · have : b = a := by omega
          subst this
          exact ⟨L.length, by simp, by rw [← hr, getD_lastI], by simp⟩)
      have e : L ++ (nf k a :: L') = L ++ [nf k a] ++ L' := by simp
      refine ⟨nf k a :: L', row', by rw [e]; exact q1, q2, fun b hb => ?_, fun r E => ?_, fun r E => ?_⟩
      · obtain ⟨j, hj, e1, e2⟩ := q3 b hb
        exact ⟨j, by rw [e]; exact hj, e1, by simpa only [e] using e2⟩
      · rw [e] at E; exact S.new a L k row X Y r haA K hk hr hx hm K2 (q4 r E)
      · rw [e] at E; exact S'.new a L k row X Y r haA K hk hr hx hm K2 (q5 r E)
theorem sys_outer (S : Sys A nf mf V B R) (S' : Sys A nf mf V B R') : ∀ n L X Y, B - X.length = n → KOk V B L → Rows A nf mf L X Y →
    ∃ L' X' Y', KOk V B (L ++ L') ∧ X'.length = (L ++ L').length ∧ Rows A nf mf (L ++ L') X' Y' ∧ Ev (S.g4 L X Y) (S.fin X' Y') ∧ Ev (S'.g4 L X Y) (S'.fin X' Y') := by
  intro n
  have stop : ∀ L X Y, KOk V B L → Rows A nf mf L X Y → X.length = L.length → ∃ L' X' Y', KOk V B (L ++ L') ∧ X'.length = (L ++ L').length ∧ Rows A nf mf (L ++ L') X' Y' ∧ Ev (S.g4 L X Y) (S.fin X' Y') ∧ Ev (S'.g4 L X Y) (S'.fin X' Y') := by
    intro L X Y K H h
    exact ⟨[], X, Y, by rw [List.append_nil]; exact K, by rw [List.append_nil]; exact h, by rw [List.append_nil]; exact H, S.stop L X Y K h H.len, S'.stop L X Y K h H.len⟩
  induction n with
  | zero => intro L X Y hn K H; have := K.le; have := H.le; exact stop L X Y K H (by omega)
  | succ n ih =>
    intro L X Y hn K H
    by_cases h : X.length < L.length
    · have hk : L[X.length] ∈ L := List.getElem_mem h
      obtain ⟨L1, row, q1, q2, q3, q4, q5⟩ := sys_inner hV hB S S' L[X.length] X Y _ 0 L [] rfl (by omega) K hk rfl h (fun b hb => by omega)
      have hll := H.len
      have H2 : Rows A nf mf (L ++ L1) (X ++ [row]) (Y ++ [mf L[X.length]]) := by
        refine ⟨by simp [hll], by simp; omega, fun i hi => ?_⟩
        rw [List.length_append, List.length_singleton] at hi
        have hL : (L ++ L1)[i]'(by rw [List.length_append]; omega) = L[i]'(by omega) := List.getElem_append_left (by omega)
        by_cases hi2 : i < X.length
        · obtain ⟨r1, r2, r3⟩ := H.row i hi2
          rw [getD_appW _ _ _ hi2, getD_appI _ _ _ (by omega), hL]
          refine ⟨r1, r2, fun a ha => ?_⟩
          obtain ⟨j, hj, e1, e2⟩ := r3 a ha
          exact ⟨j, by rw [List.length_append]; omega, e1, (List.getElem_append_left hj).trans (e2.trans (by rw [hL]))⟩
        · have e : i = X.length := by omega
          subst e
          have ey := getD_lastI Y (mf L[X.length])
          rw [hll] at ey
          rw [getD_lastW, ey, hL]
          refine ⟨q2, rfl, fun b hb => ?_⟩
          obtain ⟨j, hj, e1, e2⟩ := q3 b hb
          exact ⟨j, hj, e1, e2.trans (by rw [hL])⟩
      obtain ⟨L2, X', Y', p1, p2, p3, p4, p5⟩ := ih (L ++ L1) (X ++ [row]) (Y ++ [mf L[X.length]]) (by simp; omega) q1 H2
      have hm : L[X.length] ∈ L ++ L1 := List.mem_append_left _ hk
      refine ⟨L1 ++ L2, X', Y', by rw [← List.append_assoc]; exact p1, by rw [← List.append_assoc]; exact p2, by rw [← List.append_assoc]; exact p3, ?_, ?_⟩
      · exact S.start L X Y _ h K hll (q4 _ (S.done (L ++ L1) _ row X Y _ q1 hm q2 (by rw [List.length_append]; omega) hll p4))
      · exact S'.start L X Y _ h K hll (q5 _ (S'.done (L ++ L1) _ row X Y _ q1 hm q2 (by rw [List.length_append]; omega) hll p5))
    · have := H.le; exact stop L X Y K H (by omega)
/-- Both searches make the same. -/
theorem sys_run (S : Sys A nf mf V B R) (S' : Sys A nf mf V B R') (first : κ) (hf : V first) :
    ∃ L X Y, KOk V B (first :: L) ∧ X.length = L.length + 1 ∧ Rows A nf mf (first :: L) X Y ∧ Ev (S.g4 [first] [] []) (S.fin X Y) ∧ Ev (S'.g4 [first] [] []) (S'.fin X Y) := by
  have h1 : ∀ k ∈ [first], V k := fun k hk => by rw [List.mem_singleton] at hk; rw [hk]; exact hf
  have K : KOk V B [first] := ⟨by simp, h1, hB _ (by simp) h1⟩
  obtain ⟨L, X, Y, p1, p2, p3, p4, p5⟩ := sys_outer hV hB S S' _ [first] [] [] rfl K ⟨rfl, by simp, fun i hi => by simp at hi⟩
  exact ⟨L, X, Y, p1, by simpa [Nat.add_comm] using p2, p3, p4, p5⟩
end
end Go.Proofs.YtiiioobebeaafaaSx.DC
namespace Go.Proofs.YtiiioobebeaafaaSx.DC
section
variable {K : Ty} (hb : ∀ x y : K.den, K.beq x y = true ↔ x = y)
/-- The map from keys to their numbers. -/
abbrev nmk (K : Ty) (L : List K.den) : List (K.den × Int) := numb (K := K) (fun x => x) 0 L
include hb
theorem nmk_idx (L : List K.den) (k : K.den) : L.findIdx (fun x => K.beq k x) < L.length ↔ k ∈ L := by
  rw [List.findIdx_lt_length]
  constructor
  · rintro ⟨x, hx, e⟩; rw [(hb k x).1 e]; exact hx
  · intro h; exact ⟨k, h, (hb k k).2 rfl⟩
theorem nmk_hit {L : List K.den} {k : K.den} (h : k ∈ L) : mhas K (.int .i64) (nmk K L) k = true := by
  rw [numb_has, decide_eq_true_iff]; exact (nmk_idx hb L k).2 h
theorem nmk_miss {L : List K.den} {k : K.den} (h : k ∉ L) : mhas K (.int .i64) (nmk K L) k = false := by
  rw [numb_has]; exact decide_eq_false fun h' => h ((nmk_idx hb L k).1 h')
theorem nmk_get {L : List K.den} (hn : L.Nodup) {k : K.den} {i : Nat} (hi : i < L.length) (e : L[i] = k) : mget K (.int .i64) (nmk K L) k = (i : Int) := by
  have hm : k ∈ L := e ▸ List.getElem_mem hi
  have hx := (nmk_idx hb L k).2 hm
  have := numb_get (K := K) (fun x => x) k L 0
  rw [if_pos hx, Nat.zero_add] at this
  have hk := (hb _ _).1 (List.findIdx_getElem (w := hx))
  have pw := List.pairwise_iff_getElem.1 hn
  refine this.trans ?_
  obtain ⟨j, hj⟩ : ∃ j, L.findIdx (fun x => K.beq k x) = j := ⟨_, rfl⟩
  have hj2 : j < L.length := hj ▸ hx
  have hk2 : k = L[j] := by subst hj; exact hk
  rw [hj]
  rcases Nat.lt_trichotomy j i with h | h | h
  · exact absurd (hk2.symm.trans e.symm) (pw j i hj2 hi h)
  · rw [h]
  · exact absurd (e.trans hk2) (pw i j hi hj2 h)
theorem nmk_put {L : List K.den} {k : K.den} (h : k ∉ L) : mput K (.int .i64) (nmk K L) k (L.length : Int) = nmk K (L ++ [k]) := by
  have := numb_put (K := K) (fun x => x) k L 0 (fun h' => h ((nmk_idx hb L k).1 h'))
  rw [Nat.zero_add] at this; exact this
end
/-! Rows that are filled letter by letter. -/
def padI (A : Nat) (row : List Int) : List Int := row ++ List.replicate (A - row.length) 0
theorem pad_len {A : Nat} {row : List Int} (h : row.length ≤ A) : (padI A row).length = A := by rw [padI, List.length_append, List.length_replicate]; omega
theorem pad_set {A : Nat} {row : List Int} (v : Int) (h : row.length < A) : (padI A row).set row.length v = padI A (row ++ [v]) := by
  rw [padI, padI, List.set_append_right _ _ (Nat.le_refl _), Nat.sub_self, List.length_append, List.length_singleton, show A - row.length = (A - (row.length + 1)) + 1 by omega, List.replicate_succ, List.set_cons_zero, List.append_assoc]; rfl
theorem pad_full {A : Nat} {row : List Int} (h : row.length = A) : padI A row = row := by rw [padI, h, Nat.sub_self, List.replicate_zero, List.append_nil]
theorem pad_nil (A : Nat) : padI A [] = List.replicate A 0 := rfl

/-! Couples. -/
abbrev K2 : Ty := .pair (.int .i64) (.pair (.int .i64) .unit)
abbrev Co := Int × Int × Unit
instance : DecidableEq K2.den := inferInstanceAs (DecidableEq (Int × Int × Unit))
theorem k2_beq (x y : K2.den) : K2.beq x y = true ↔ x = y := by
  obtain ⟨a, b, ⟨⟩⟩ := x
  obtain ⟨c, d, ⟨⟩⟩ := y
  have e : K2.beq (a, b, ()) (c, d, ()) = bif decide (a = c) then (bif decide (b = d) then true else false) else false := rfl
  rw [e]
  by_cases h1 : a = c
  · by_cases h2 : b = d
    · subst h1; subst h2; simp
    · simp [h1, h2]
  · simp [h1]
def allCo (n m : Nat) : List Co := (List.range n).flatMap fun p : Nat => (List.range m).map fun q : Nat => ((p : Int), (q : Int), ())
theorem sum_c (b : Nat) (l : List Nat) : (l.map fun _ => b).sum = l.length * b := by
  induction l with
  | nil => simp
  | cons a l ih => rw [List.map_cons, List.sum_cons, ih, List.length_cons, Nat.succ_mul]; omega
theorem allCo_len (n m : Nat) : (allCo n m).length = n * m := by
  rw [allCo, List.length_flatMap]; simp only [List.length_map, List.length_range]; rw [sum_c, List.length_range]
def VCo (n m : Nat) (k : Co) : Prop := (0 ≤ k.1 ∧ k.1 < (n : Int)) ∧ (0 ≤ k.2.1 ∧ k.2.1 < (m : Int))
theorem co_bound (n m : Nat) (L : List Co) (h1 : L.Nodup) (h2 : ∀ k ∈ L, VCo n m k) : L.length ≤ n * m := by
  rw [← allCo_len]
  refine nodup_sub L _ h1 fun k hk => ?_
  obtain ⟨h3, h4⟩ := h2 k hk
  obtain ⟨p, q, ⟨⟩⟩ := k
  rw [allCo, List.mem_flatMap]
  exact ⟨p.toNat, List.mem_range.2 (by simp at h3 h4; omega), List.mem_map.2 ⟨q.toNat, List.mem_range.2 (by simp at h3 h4; omega), by
    simp at h3 h4
    rw [show ((p.toNat : Nat) : Int) = p by omega, show ((q.toNat : Nat) : Int) = q by omega]⟩⟩
def nfCo (N P : List (List Int)) (k : Co) (a : Nat) : Co := ((N.getD k.1.toNat []).getD a 0, (P.getD k.2.1.toNat []).getD a 0, ())
variable {A s t : Int} {N P : List (List Int)} {M Q : List Int}
theorem vco_step (F : Fit A s N M) (G : Fit A t P Q) {k : Co} {a : Nat} (hk : VCo N.length P.length k) (ha : (a : Int) < A) : VCo N.length P.length (nfCo N P k a) := by
  obtain ⟨h1, h2⟩ := hk
  exact ⟨F.ent k.1.toNat (by omega) a ha, G.ent k.2.1.toNat (by omega) a ha⟩
end Go.Proofs.YtiiioobebeaafaaSx.DC
namespace Go.Proofs.YtiiioobebeaafaaSx.DC
variable {A s t T : Int} {N P : List (List Int)} {M Q : List Int}
theorem divmod {m p q : Nat} (h : q < m) : (p * m + q) / m = p ∧ (p * m + q) % m = q := by
  have hm : 0 < m := by omega
  constructor
  · rw [Nat.mul_comm, Nat.mul_add_div hm, Nat.div_eq_of_lt h]; rfl
  · rw [Nat.mul_comm, Nat.mul_add_mod, Nat.mod_eq_of_lt h]
theorem lt_prod {n m p q : Nat} (hp : p < n) (hq : q < m) : p * m + q < n * m := by
  have : (p + 1) * m ≤ n * m := Nat.mul_le_mul_right _ hp
  rw [Nat.succ_mul] at this; omega
theorem lt_prodI {n m : Nat} {x y : Int} (h1 : 0 ≤ x) (h2 : x < (n : Int)) (h3 : 0 ≤ y) (h4 : y < (m : Int)) : 0 ≤ x * (m : Int) + y ∧ x * (m : Int) + y < ((n * m : Nat) : Int) ∧ (x * (m : Int) + y).toNat = x.toNat * m + y.toNat := by
  obtain ⟨a, rfl⟩ : ∃ a : Nat, x = (a : Int) := ⟨x.toNat, by omega⟩
  obtain ⟨b, rfl⟩ : ∃ b : Nat, y = (b : Int) := ⟨y.toNat, by omega⟩
  have := lt_prod (n := n) (m := m) (p := a) (q := b) (by omega) (by omega)
  have e : (a : Int) * (m : Int) + (b : Int) = ((a * m + b : Nat) : Int) := by simp
  rw [e]
  exact ⟨by omega, by omega, by rw [Int.toNat_natCast, Int.toNat_natCast, Int.toNat_natCast]⟩
/-! The first word that tells two apart. -/
abbrev SE := Co × List Int
abbrev VW : Ty := .slice (.int .i64)
theorem ways_has (k : Co) : ∀ L : List SE, mhas K2 VW L k = decide (k ∈ L.map (·.1)) := by
  intro L
  induction L with
  | nil => rfl
  | cons e L ih =>
    obtain ⟨k', w⟩ := e
    show (bif K2.beq k k' then true else mhas K2 VW L k) = _
    by_cases h : k = k'
    · rw [(k2_beq k k').2 h, cond_true, List.map_cons]; exact (decide_eq_true (by rw [h]; exact List.mem_cons_self)).symm
    · have hb : K2.beq k k' = false := by rw [← Bool.not_eq_true]; exact fun h' => h ((k2_beq k k').1 h')
      rw [hb, cond_false, ih, List.map_cons]
      simp only [List.mem_cons, h, false_or]
theorem ways_get (k : Co) (w : List Int) : ∀ L : List SE, (L.map (·.1)).Nodup → (k, w) ∈ L → mget K2 VW L k = w := by
  intro L
  induction L with
  | nil => intro _ h; simp at h
  | cons e L ih =>
    intro hn h
    obtain ⟨k', w'⟩ := e
    rw [List.map_cons, List.nodup_cons] at hn
    show (bif K2.beq k k' then w' else mget K2 VW L k) = _
    by_cases hk : k = k'
    · rw [(k2_beq k k').2 hk, cond_true]
      rcases List.mem_cons.1 h with e | e
      · exact (Prod.mk.inj e).2.symm
      · exact absurd (List.mem_map.2 ⟨_, e, rfl⟩) (by rw [← hk] at hn; exact hn.1)
    · have hb : K2.beq k k' = false := by rw [← Bool.not_eq_true]; exact fun h' => hk ((k2_beq k k').1 h')
      rw [hb, cond_false]
      rcases List.mem_cons.1 h with e | e
      · exact absurd (Prod.mk.inj e).1 hk
      · exact ih hn.2 e
theorem ways_put (k : Co) (w : List Int) : ∀ L : List SE, k ∉ L.map (·.1) → mput K2 VW L k w = L ++ [(k, w)] := by
  intro L
  induction L with
  | nil => intro _; rfl
  | cons e L ih =>
    intro h
    obtain ⟨k', w'⟩ := e
    rw [List.map_cons, List.mem_cons] at h
    show (bif K2.beq k k' then _ else _) = _
    have hb : K2.beq k k' = false := by rw [← Bool.not_eq_true]; exact fun h' => h (.inl ((k2_beq k k').1 h'))
    rw [hb, cond_false]
    exact congrArg (List.cons (k', w')) (ih fun h' => h (.inr h'))
structure InvS (n m : Nat) (L : List SE) : Prop where
  nd : (L.map (·.1)).Nodup
  v : ∀ e ∈ L, VCo n m e.1
  w : ∀ e ∈ L, e.2.length ≤ L.length
theorem InvS.le {n m : Nat} {L : List SE} (H : InvS n m L) : L.length ≤ n * m := by
  have := co_bound n m (L.map (·.1)) H.nd (fun k hk => by obtain ⟨e, he, rfl⟩ := List.mem_map.1 hk; exact H.v e he)
  rw [List.length_map] at this; exact this
theorem InvS.push {n m : Nat} {L : List SE} (H : InvS n m L) {k : Co} {w : List Int} (hk : VCo n m k) (hn : k ∉ L.map (·.1)) (hw : w.length ≤ L.length + 1) : InvS n m (L ++ [(k, w)]) := by
  refine ⟨?_, fun e he => ?_, fun e he => ?_⟩
  · rw [List.map_append, List.nodup_append]
    refine ⟨H.nd, by simp, fun x hx b hb => ?_⟩
    simp only [List.map_cons, List.map_nil, List.mem_singleton] at hb
    intro e; exact hn (hb ▸ e ▸ hx)
  · rcases List.mem_append.1 he with h | h
    · exact H.v e h
    · rw [List.mem_singleton] at h; rw [h]; exact hk
  · rw [List.length_append, List.length_singleton]
    rcases List.mem_append.1 he with h | h
    · have := H.w e h; omega
    · rw [List.mem_singleton] at h; rw [h]; exact hw
end Go.Proofs.YtiiioobebeaafaaSx.DC
namespace Go.Proofs.YtiiioobebeaafaaSx.DC
/-- What may be passes the check. -/
theorem fit_check {A s : Int} {N : List (List Int)} {M : List Int} (F : Fit A s N M) : Ev (fun k => det_Check.f k (A, s, N, M, ())) 0 := by
  have a1 := F.a1; have a4 := F.a4; have n1 := F.n1; have n3 := F.n3; have hs := F.s; have hm := F.m
  have g1 : N.any (badW A) = false := by
    rw [List.any_eq_false]
    intro x hx
    obtain ⟨j, hj, e⟩ := List.getElem_of_mem hx
    have := F.row j hj
    rw [List.getD_eq_getElem?_getD, List.getElem?_eq_getElem hj, Option.getD_some, e] at this
    rw [badW, decide_eq_true this]; decide
  have g2 : bad (N.length : Int) s = false := by rw [bad, decide_eq_false (by omega), decide_eq_false (by omega)]; rfl
  have g3 : N.any (fun w => w.any (bad (N.length : Int))) = false := by
    rw [List.any_eq_false]
    intro x hx
    rw [Bool.not_eq_true, List.any_eq_false]
    intro y hy
    obtain ⟨j, hj, e⟩ := List.getElem_of_mem hx
    obtain ⟨i, hi, e2⟩ := List.getElem_of_mem hy
    have h1 := F.row j hj
    have h2 := F.ent j hj i
    rw [List.getD_eq_getElem?_getD, List.getElem?_eq_getElem hj, Option.getD_some, e] at h1
    rw [List.getD_eq_getElem?_getD (l := N), List.getElem?_eq_getElem hj, Option.getD_some, e] at h2
    have h3 := h2 (by omega)
    rw [List.getD_eq_getElem?_getD, List.getElem?_eq_getElem hi, Option.getD_some, e2] at h3
    rw [bad, decide_eq_false (by omega), decide_eq_false (by omega)]; decide
  have g4 : M.any badM = false := by
    rw [List.any_eq_false]
    intro y hy
    obtain ⟨i, hi, e2⟩ := List.getElem_of_mem hy
    have h3 := F.mark i (by omega)
    rw [List.getD_eq_getElem?_getD, List.getElem?_eq_getElem hi, Option.getD_some, e2] at h3
    rw [badM]; rcases h3 with h | h <;> rw [h] <;> decide
  have C1 := con1 A s N M N n3
  have C3 := con3 (N.length : Int) N n3 (fun q hq => by have := F.row q hq; omega)
  have C4 := con4 M (by omega)
  simp only [det_Check.f, if_neg (show ¬ A < 1 by omega), if_neg (show ¬ 4 < A by omega), if_neg (show ¬ (N.length : Int) < 1 by omega), if_neg (show ¬ 3000 < (N.length : Int) by omega), if_pos (show (M.length : Int) = (N.length : Int) by omega)]
  refine Ev.bind C1 ?_
  simp only [g1, Bool.false_eq_true, if_false]
  refine Ev.bind (.all fun k => check2 k s _) ?_
  simp only [g2, Bool.false_eq_true, if_false]
  refine Ev.bind C3 ?_
  simp only [g3, Bool.false_eq_true, if_false]
  refine Ev.bind C4 ?_
  simp only [g4, Bool.false_eq_true, if_false]
  exact Ev.now _
end Go.Proofs.YtiiioobebeaafaaSx.DC
namespace Go.Proofs.YtiiioobebeaafaaSx.DC
variable {A s : Int} {N : List (List Int)} {M : List Int}
abbrev ks (L : List SE) : List Co := L.map fun e => e.1
theorem getD_dropK (L : List SE) (i : Nat) (h : i < L.length) : ((ks L).drop i).getD 0 (Int.ofNat 0, Int.ofNat 0, ()) = L[i].1 := by
  rw [List.getD_eq_getElem?_getD, List.getElem?_drop, Nat.add_zero, List.getElem?_map, List.getElem?_eq_getElem h]; rfl
def differs (M Q : List Int) (k : Co) : Bool := !decide (M.getD k.1.toNat 0 = Q.getD k.2.1.toNat 0)
theorem ap1 (F : Fit A s N M) {k : Co} {a : Nat} (hk : VCo N.length N.length k) (ha : (a : Int) < A) (n : Nat) :
    det_Apart_1.f n k (a : Int) A s N M = some (nfCo N N k a, A, s, N, M) := by
  obtain ⟨⟨h1, h2⟩, h3, h4⟩ := hk
  have r1 := F.row k.1.toNat (by omega)
  have r2 := F.row k.2.1.toNat (by omega)
  have e1 : rd [] N k.1 = N.getD k.1.toNat [] := rfl
  have e2 : rd [] N k.2.1 = N.getD k.2.1.toNat [] := rfl
  rw [det_Apart_1.f, if_pos h1, if_pos h2, if_pos (by omega), e1, e2, if_pos (by omega), if_pos h3, if_pos h4, if_pos (by omega), if_pos (by omega), rd_nat, rd_nat]
  rfl
theorem ap2 (F : Fit A s N M) {k : Co} (hk : VCo N.length N.length k) (n : Nat) :
    det_Apart_2.f n k A s N M = some (differs M M k, A, s, N, M) := by
  obtain ⟨⟨h3, h4⟩, h5, h6⟩ := hk
  have m1 := F.m
  rw [det_Apart_2.f, if_pos h3, if_pos (by omega), if_pos h5, if_pos (by omega)]
  rfl
abbrev RAp := List Int × Bool × Int × Int × List (List Int) × List Int
/-- Each couple with a word that leads there. -/
def SemS (A : Int) (N : List (List Int)) (p q : Nat) (L : List SE) : Prop := ∀ e ∈ L, WordOk A e.2 ∧ e.1.1.toNat = aft N p (nats e.2) ∧ e.1.2.1.toNat = aft N q (nats e.2)
theorem sem_step (F : Fit A s N M) {p q : Nat} {e : SE} (he : WordOk A e.2 ∧ e.1.1.toNat = aft N p (nats e.2) ∧ e.1.2.1.toNat = aft N q (nats e.2)) (a : Nat) (ha : (a : Int) < A) :
    WordOk A (e.2 ++ [(a : Int)]) ∧ (nfCo N N e.1 a).1.toNat = aft N p (nats (e.2 ++ [(a : Int)])) ∧ (nfCo N N e.1 a).2.1.toNat = aft N q (nats (e.2 ++ [(a : Int)])) := by
  obtain ⟨h1, h2, h3⟩ := he
  refine ⟨fun x hx => ?_, ?_, ?_⟩
  · rcases List.mem_append.1 hx with h | h
    · exact h1 x h
    · rw [List.mem_singleton] at h; omega
  · rw [nats, List.map_append, aft_app, ← nats, ← h2]; rfl
  · rw [nats, List.map_append, aft_app, ← nats, ← h3]; rfl
theorem ap_inner (F : Fit A s N M) (h5 : N.length ≤ 100) (p q i : Nat) : ∀ n a L, A.toNat - a = n → (a : Int) ≤ A → InvS N.length N.length L → SemS A N p q L → (hi : i < L.length) →
    ∃ L', InvS N.length N.length (L ++ L') ∧ SemS A N p q (L ++ L') ∧ (∀ b : Nat, a ≤ b → (b : Int) < A → nfCo N N L[i].1 b ∈ ks (L ++ L')) ∧
      (∀ r : RAp, Ev (fun n => det_seeks.l3 n A A s N M (L ++ L') ((ks (L ++ L')).drop (i + 1))) r → Ev (fun n => det_seeks.l8 n A A (a : Int) A s N M L ((ks L).drop i)) r) := by
  have a4 := F.a4; have a1 := F.a1; have n3 := F.n3
  have hB : N.length * N.length ≤ 10000 := Nat.le_trans (Nat.mul_le_mul h5 h5) (by omega)
  intro n
  induction n with
  | zero =>
    intro a L hn ha H HS hi
    have haa : (a : Int) = A := by omega
    have hle := H.le
    refine ⟨[], by rw [List.append_nil]; exact H, by rw [List.append_nil]; exact HS, fun b hb hb2 => by omega, fun r E => Ev.step (fun n => ?_) E⟩
    have hd : ((ks L).drop i).length = L.length - i := by simp
    have ht : List.take ((((ks L).drop i).length : Int).toNat - Int.toNat 1) (List.drop (Int.toNat 1) ((ks L).drop i)) = (ks (L ++ [])).drop (i + 1) := by
      rw [Int.toNat_natCast, List.append_nil, show Int.toNat 1 = 1 from rfl, List.drop_drop, List.take_of_length_le (by simp; omega)]
    rw [det_seeks.l8, if_neg (by omega), if_pos (by omega), if_pos (by rw [hd]; omega), if_pos (by omega), ht, List.append_nil]
  | succ n ih =>
    intro a L hn ha H HS hi
    have hle := H.le
    have haA : (a : Int) < A := by omega
    have hmem : L[i] ∈ L := List.getElem_mem hi
    have hv := H.v _ hmem
    have hw := H.w _ hmem
    have hd : ((ks L).drop i).length = L.length - i := by simp
    have hv2 := vco_step F F hv haA
    have hway := ways_has (nfCo N N L[i].1 a) L
    have pstep : ∀ (n : Nat), det_seeks.l8 (n + 1) A A (a : Int) A s N M L ((ks L).drop i) =
        if nfCo N N L[i].1 a ∈ ks L then det_seeks.j15 n A A (a : Int) A s N M L ((ks L).drop i)
        else det_seeks.j15 n A A (a : Int) A s N M (L ++ [(nfCo N N L[i].1 a, L[i].2 ++ [(a : Int)])]) ((ks L).drop i ++ [nfCo N N L[i].1 a]) := by
      intro n
      rw [det_seeks.l8, if_pos haA, if_pos (by omega), if_pos (by rw [hd]; omega)]
      rw [show Int.toNat 0 = 0 from rfl, getD_dropK L i hi]
      refine Eq.trans (congrArg (fun o => Option.bind o _) (ap1 F hv haA n)) ?_
      rw [Option.bind_some]
      by_cases hm : nfCo N N L[i].1 a ∈ ks L
      · rw [if_pos hm]
        rw [decide_eq_true hm] at hway
        exact if_pos hway
      · rw [if_neg hm]
        rw [decide_eq_false hm] at hway
        refine Eq.trans (if_neg (by rw [show mhas K2 VW L ((nfCo N N L[i].1 a).fst, (nfCo N N L[i].1 a).snd.fst, ()) = false from hway]; decide)) ?_
        have hg : mget K2 VW L L[i].1 = L[i].2 := ways_get _ _ L H.nd hmem
        have hp : mput K2 VW L (nfCo N N L[i].1 a) (L[i].2 ++ [(a : Int)]) = L ++ [(nfCo N N L[i].1 a, L[i].2 ++ [(a : Int)])] := ways_put _ _ L hm
        rw [if_pos (by omega), if_pos (by rw [hd]; omega)]
        rw [show mget (Ty.pair (Ty.int .i64) (Ty.pair (Ty.int .i64) Ty.unit)) (Ty.int .i64).slice L L[i].1 = L[i].2 from hg, slices_Clone___int_int_.f, if_pos (show Short L[i].2.length from short _ (by omega)), Option.bind_some]
        refine Eq.trans (if_pos (short _ (by rw [List.length_append, List.length_singleton]; omega))) ?_
        refine Eq.trans (if_pos (short _ (by rw [List.length_append, hd, List.length_singleton]; omega))) ?_
        exact congrArg (fun z => det_seeks.j15 n A A (a : Int) A s N M z ((ks L).drop i ++ [nfCo N N L[i].1 a])) hp
    by_cases hm : nfCo N N L[i].1 a ∈ ks L
    · obtain ⟨L', q1, qs, q2, q3⟩ := ih (a + 1) L (by omega) (by omega) H HS hi
      refine ⟨L', q1, qs, fun b hb hb2 => ?_, fun r E => Ev.step (fun n => by rw [pstep, if_pos hm]) (Ev.step (fun n => ?_) (q3 r E))⟩
      · by_cases e : b = a
        · rw [e, ks, List.map_append]; exact List.mem_append_left _ hm
        · exact q2 b (by omega) hb2
      · rw [det_seeks.j15, wrSucc a (by omega)]
    · have H2 := H.push (w := L[i].2 ++ [(a : Int)]) hv2 hm (by rw [List.length_append, List.length_singleton]; omega)
      have HS2 : SemS A N p q (L ++ [(nfCo N N L[i].1 a, L[i].2 ++ [(a : Int)])]) := by
        intro e he
        rcases List.mem_append.1 he with h | h
        · exact HS e h
        · rw [List.mem_singleton] at h; rw [h]; exact sem_step F (HS _ hmem) a haA
      obtain ⟨L', q1, qs, q2, q3⟩ := ih (a + 1) _ (by omega) (by omega) H2 HS2 (by rw [List.length_append]; omega)
      have hgi : (L ++ [(nfCo N N L[i].1 a, L[i].2 ++ [(a : Int)])])[i]'(by rw [List.length_append]; omega) = L[i] := List.getElem_append_left hi
      refine ⟨(nfCo N N L[i].1 a, L[i].2 ++ [(a : Int)]) :: L', by rw [List.append_cons]; exact q1, by rw [List.append_cons]; exact qs, fun b hb hb2 => ?_, fun r E => Ev.step (fun n => by rw [pstep, if_neg hm]) (Ev.step (fun n => ?_) (q3 r (by rw [List.append_cons] at E; exact E)))⟩
      · rw [List.append_cons]
        by_cases e : b = a
        · rw [e, ks, List.map_append, List.map_append]; exact List.mem_append_left _ (List.mem_append_right _ (by simp))
        · have := q2 b (by omega) hb2
          rw [hgi] at this; exact this
      · rw [det_seeks.j15, wrSucc a (by omega)]
        rw [show (ks L).drop i ++ [nfCo N N L[i].1 a] = (ks (L ++ [(nfCo N N L[i].1 a, L[i].2 ++ [(a : Int)])])).drop i by
          show (ks L).drop i ++ [nfCo N N L[i].1 a] = ((L ++ [(nfCo N N L[i].1 a, L[i].2 ++ [(a : Int)])]).map fun e => e.1).drop i
          rw [List.map_append, List.drop_append_of_le_length (by simp; omega)]; rfl]
theorem ap_outer (F : Fit A s N M) (h5 : N.length ≤ 100) (p q : Nat) : ∀ n i L, N.length * N.length + 1 - i = n → InvS N.length N.length L → SemS A N p q L → i ≤ L.length →
    (∀ e ∈ L.take i, differs M M e.1 = false ∧ ∀ b : Nat, (b : Int) < A → nfCo N N e.1 b ∈ ks L) →
    ∃ w b, w.length ≤ N.length * N.length ∧ Ev (fun n => det_seeks.l3 n A A s N M L ((ks L).drop i)) (w, b, A, s, N, M) ∧
      (b = true → WordOk A w ∧ M.getD (aft N p (nats w)) 0 ≠ M.getD (aft N q (nats w)) 0) ∧
      (b = false → ∃ L1, InvS N.length N.length (L ++ L1) ∧ ∀ e ∈ L ++ L1, differs M M e.1 = false ∧ ∀ b : Nat, (b : Int) < A → nfCo N N e.1 b ∈ ks (L ++ L1)) := by
  have a1 := F.a1
  intro n
  induction n with
  | zero => intro i L hn H HS hi hc; have := H.le; omega
  | succ n ih =>
    intro i L hn H HS hi hc
    have hd : ((ks L).drop i).length = L.length - i := by simp
    by_cases h : i < L.length
    · have hmem : L[i] ∈ L := List.getElem_mem h
      have hv := H.v _ hmem
      have hle := H.le
      have hg : mget K2 VW L L[i].1 = L[i].2 := ways_get _ _ L H.nd hmem
      have step : ∀ n, det_seeks.l3 (n + 1) A A s N M L ((ks L).drop i) = if differs M M L[i].1 = true then some (L[i].2, true, A, s, N, M) else det_seeks.l8 n A A 0 A s N M L ((ks L).drop i) := by
        intro n
        rw [det_seeks.l3, if_pos (by rw [hd]; omega), if_pos (by omega), if_pos (by rw [hd]; omega)]
        rw [show Int.toNat 0 = 0 from rfl, getD_dropK L i h, ap2 F hv, Option.bind_some]
        by_cases hx : differs M M L[i].1 = true
        · rw [if_pos hx, if_pos (show (differs M M L[i].1, A, s, N, M).fst = true from hx), if_pos (by omega), if_pos (by rw [hd]; omega)]
          rw [show mget (Ty.pair (Ty.int .i64) (Ty.pair (Ty.int .i64) Ty.unit)) (Ty.int .i64).slice L L[i].1 = L[i].2 from hg]
        · rw [if_neg hx, if_neg (show ¬ (differs M M L[i].1, A, s, N, M).fst = true from hx)]
      by_cases hx : differs M M L[i].1 = true
      · obtain ⟨s1, s2, s3⟩ := HS _ hmem
        refine ⟨L[i].2, true, by have := H.w _ hmem; omega, Ev.step (h := fun _ => some (L[i].2, true, A, s, N, M)) (fun n => by rw [step, if_pos hx]) (Ev.now _), fun _ => ⟨s1, fun he => ?_⟩, fun h => by simp at h⟩
        rw [differs, s2, s3, decide_eq_true he] at hx
        simp at hx
      · obtain ⟨L1, q1, qs, q2, q3⟩ := ap_inner F h5 p q i _ 0 L rfl (by omega) H HS h
        obtain ⟨w, b, p0, p1, p2, p3⟩ := ih (i + 1) (L ++ L1) (by omega) q1 qs (by rw [List.length_append]; omega) (fun e he => by
          rw [List.take_succ_eq_append_getElem (by rw [List.length_append]; omega), List.mem_append, List.mem_singleton, List.getElem_append_left h, List.take_append_of_le_length (by omega)] at he
          rcases he with he | he
          · obtain ⟨c1, c2⟩ := hc e he
            refine ⟨c1, fun b hb => ?_⟩
            rw [ks, List.map_append]; exact List.mem_append_left _ (c2 b hb)
          · rw [he]; exact ⟨by rw [Bool.not_eq_true] at hx; exact hx, fun b hb => q2 b (by omega) hb⟩)
        refine ⟨w, b, p0, Ev.step (fun n => by rw [step, if_neg hx]; rfl) (q3 _ p1), p2, fun hb => ?_⟩
        obtain ⟨L2, r1, r2⟩ := p3 hb
        rw [List.append_assoc] at r1 r2
        exact ⟨L1 ++ L2, r1, r2⟩
    · have : i = L.length := by omega
      subst this
      refine ⟨[], false, by simp, ?_, fun h => by simp at h, fun _ => ⟨[], by rw [List.append_nil]; exact H, by rw [List.append_nil]; rw [List.take_length] at hc; exact hc⟩⟩
      refine Ev.step (h := fun _ => some ([], false, A, s, N, M)) (fun n => ?_) (Ev.now _)
      rw [det_seeks.l3, if_neg (by rw [hd]; omega)]
/-- det.Apart finds a word that tells two states apart just where there is one. -/
theorem apart_ev (F : Fit A s N M) (h5 : N.length ≤ 100) (p q : Nat) (hp : p < N.length) (hq : q < N.length) : ∃ w b, w.length ≤ 10000 ∧ Ev (fun n => det_Apart.f n (A, s, N, M, ()) (p : Int) (q : Int)) (w, b, 0) ∧
    (b = true → WordOk A w ∧ M.getD (aft N p (nats w)) 0 ≠ M.getD (aft N q (nats w)) 0) ∧ (b = false → Same A N M p N M q) := by
  have hB : N.length * N.length ≤ 10000 := Nat.le_trans (Nat.mul_le_mul h5 h5) (by omega)
  have H : InvS N.length N.length [(((p : Int), (q : Int), ()), [])] := ⟨by simp, fun e he => by rw [List.mem_singleton] at he; rw [he]; exact ⟨⟨by simp, by simpa using hp⟩, by simp, by simpa using hq⟩, fun e he => by rw [List.mem_singleton] at he; rw [he]; simp⟩
  obtain ⟨w, b, p0, p1, p2, p3⟩ := ap_outer F h5 p q _ 0 [(((p : Int), (q : Int), ()), [])] rfl H (fun e he => by
    rw [List.mem_singleton] at he; rw [he]
    exact ⟨fun x hx => by simp at hx, by simp [nats, aft], by simp [nats, aft]⟩) (by simp) (fun e he => by simp at he)
  refine ⟨w, b, by omega, ?_, p2, fun hb => ?_⟩
  · have c1 := fit_check F
    simp only [det_Apart.f]
    refine Ev.bind c1 ?_
    simp only [if_true, if_neg (show ¬ (p : Int) < 0 by omega), if_neg (show ¬ (q : Int) < 0 by omega), if_neg (show ¬ (N.length : Int) ≤ (p : Int) by omega), if_neg (show ¬ (N.length : Int) ≤ (q : Int) by omega)]
    refine Ev.bind (x := (w, b, A, s, N, M)) ?_ (Ev.now _)
    exact p1
  · obtain ⟨L1, r1, r2⟩ := p3 hb
    refine Same.of (fun x y => ((x : Int), (y : Int), ()) ∈ ks ([(((p : Int), (q : Int), ()), [])] ++ L1)) (fun x y h => ?_) (fun x y a h ha => ?_) p q (by simp)
    · obtain ⟨e, he, hk⟩ := List.mem_map.1 h
      have := (r2 e he).1
      rw [hk, differs] at this
      simpa using this
    · obtain ⟨e, he, hk⟩ := List.mem_map.1 h
      have := (r2 e he).2 a ha
      rw [hk] at this
      obtain ⟨f, hf, hk2⟩ := List.mem_map.1 this
      have hv := r1.v f hf
      rw [hk2] at hv
      obtain ⟨⟨v1, v2⟩, v3, v4⟩ := hv
      simp only [nfCo, Int.toNat_natCast] at v1 v2 v3 v4 this
      rw [show ((((N.getD x []).getD a 0).toNat : Nat) : Int) = (N.getD x []).getD a 0 by omega, show ((((N.getD y []).getD a 0).toNat : Nat) : Int) = (N.getD y []).getD a 0 by omega]
      exact this
end Go.Proofs.YtiiioobebeaafaaSx.DC
namespace Go.Proofs.YtiiioobebeaafaaSx.DC
/-- The small one of both, and what it is. -/
theorem small_ev2 (A s : Int) (N : List (List Int)) (M : List Int) : ∃ e X Y, Ev (fun k => monoid_small.f k (A, s, N, M, ())) (if e = 0 then (A, 0, 0, X, Y) else (0, 0, e, [], [])) ∧
    Ev (fun k => evermorelaw_small.f k (A, s, N, M, ())) (if e = 0 then (A, 0, 0, X, Y) else (0, 0, e, [], [])) ∧ (e = 0 → Fit A 0 X Y ∧ X.length ≤ 5 ∧ Fit A s N M ∧ Same A X Y 0 N M s.toNat ∧ Lst A X Y) := by
  obtain ⟨e, X, Y, h1, h2, h3⟩ := detLeast_ev A s N M
  by_cases h : e = 0
  · rw [if_pos h] at h2
    obtain ⟨F, F2, h4⟩ := h3 h
    by_cases h5 : 5 < (X.length : Int)
    · refine ⟨1, X, Y, ?_, ?_, fun h' => absurd h' (by decide)⟩
      · simp only [monoid_small.f]
        refine Ev.bind h2 ?_
        simp only [if_true, if_pos h5]; exact Ev.now _
      · simp only [evermorelaw_small.f]
        refine Ev.bind h1 ?_
        simp only [if_pos h]
        refine Ev.bind h4 ?_
        simp only [if_pos h5]; exact Ev.now _
    · obtain ⟨X2, Y2, f1, _, f3, f4⟩ := least_same F F (Same.refl _)
      have hh := ev_det h4 f1
      have ex : X = X2 := congrArg (fun r : Int × Int × List (List Int) × List Int => r.2.2.1) hh
      have ey : Y = Y2 := congrArg (fun r : Int × Int × List (List Int) × List Int => r.2.2.2) hh
      subst ex; subst ey
      refine ⟨0, X, Y, ?_, ?_, fun _ => ⟨F2, by omega, F, f3, f4⟩⟩
      · simp only [monoid_small.f]
        refine Ev.bind h2 ?_
        simp only [if_true, if_neg h5]; exact Ev.now _
      · simp only [evermorelaw_small.f]
        refine Ev.bind h1 ?_
        simp only [if_pos h]
        refine Ev.bind h4 ?_
        simp only [if_neg h5, if_true]; exact Ev.now _
  · rw [if_neg h] at h2
    refine ⟨e, [], [], ?_, ?_, fun h' => absurd h' h⟩
    · simp only [monoid_small.f]
      refine Ev.bind h2 ?_
      simp only [if_neg h]; exact Ev.now _
    · simp only [evermorelaw_small.f]
      refine Ev.bind h1 ?_
      simp only [if_neg h]; exact Ev.now _
theorem may_l6 (A : Int) (w : List Int) (hw : w.length ≤ 60) : ∀ n i, w.length - i = n → i ≤ w.length → ∃ e, Ev (fun k => word_May.l6 k A w (w.length : Int) (i : Int)) e ∧ Ev (fun k => evermoreref1_May.l6 k A w (i : Int)) e ∧ (e = 0 → ∀ x ∈ w.drop i, 0 ≤ x ∧ x < A) := by
  intro n
  induction n with
  | zero =>
    intro i hn hi
    refine ⟨0, Ev.step (h := fun _ => some 0) (fun k => ?_) (Ev.now _), Ev.step (h := fun _ => some 0) (fun k => ?_) (Ev.now _), fun _ x hx => ?_⟩
    · rw [word_May.l6, if_neg (by omega)]
    · rw [evermoreref1_May.l6, if_neg (by omega)]
    · rw [List.drop_eq_nil_of_le (by omega)] at hx; simp at hx
  | succ n ih =>
    intro i hn hi
    obtain ⟨e, h1, h2, h3⟩ := ih (i + 1) (by omega) (by omega)
    have hr : rd (Int.ofNat 0) w (i : Int) = w.getD i 0 := rd_nat _ _ _
    by_cases c1 : w.getD i 0 < 0
    · refine ⟨2, Ev.step (h := fun _ => some 2) (fun k => ?_) (Ev.now _), Ev.step (h := fun _ => some 2) (fun k => ?_) (Ev.now _), fun h => absurd h (by decide)⟩
      · rw [word_May.l6, if_pos (by omega), if_pos (by omega), if_pos (by omega), hr, if_pos c1]
      · rw [evermoreref1_May.l6, if_pos (by omega), if_pos (by omega), if_pos (by omega), hr, if_pos c1]
    · by_cases c2 : A ≤ w.getD i 0
      · refine ⟨2, Ev.step (h := fun _ => some 2) (fun k => ?_) (Ev.now _), Ev.step (h := fun _ => some 2) (fun k => ?_) (Ev.now _), fun h => absurd h (by decide)⟩
        · rw [word_May.l6, if_pos (by omega), if_pos (by omega), if_pos (by omega), hr, if_neg c1, if_pos c2]
        · rw [evermoreref1_May.l6, if_pos (by omega), if_pos (by omega), if_pos (by omega), hr, if_neg c1, if_pos (by omega), if_pos (by omega), if_pos c2]
      · refine ⟨e, Ev.step (fun k => ?_) h1, Ev.step (fun k => ?_) h2, fun he x hx => ?_⟩
        · rw [word_May.l6, if_pos (by omega), if_pos (by omega), if_pos (by omega), hr, if_neg c1, if_neg c2, wrSucc i (by omega)]
        · rw [evermoreref1_May.l6, if_pos (by omega), if_pos (by omega), if_pos (by omega), hr, if_neg c1, if_pos (by omega), if_pos (by omega), if_neg c2, wrSucc i (by omega)]
        · rw [drop_getD 0 w i (by omega)] at hx
          rcases List.mem_cons.1 hx with h | h
          · rw [h]; omega
          · exact h3 he x h
theorem may_ev (A : Int) (w : List Int) : ∃ e, Ev (fun k => word_May.f k A w) e ∧ Ev (fun k => evermoreref1_May.f k A w) e ∧ (e = 0 → WordOk A w ∧ w.length ≤ 60) := by
  by_cases h1 : A < 1
  · exact ⟨2, .all fun k => by rw [word_May.f, if_pos h1], .all fun k => by rw [evermoreref1_May.f, if_pos h1], fun h => absurd h (by decide)⟩
  by_cases h2 : 4 < A
  · exact ⟨2, .all fun k => by rw [word_May.f, if_neg h1, if_pos h2], .all fun k => by rw [evermoreref1_May.f, if_neg h1, if_pos h2], fun h => absurd h (by decide)⟩
  by_cases h3 : 60 < (w.length : Int)
  · exact ⟨1, .all fun k => by rw [word_May.f, if_neg h1, if_neg h2, if_pos h3], .all fun k => by rw [evermoreref1_May.f, if_neg h1, if_neg h2, if_pos h3], fun h => absurd h (by decide)⟩
  obtain ⟨e, q1, q2, q3⟩ := may_l6 A w (by omega) _ 0 rfl (by omega)
  refine ⟨e, ?_, ?_, fun he => ⟨fun x hx => q3 he x (by rw [List.drop_zero]; exact hx), by omega⟩⟩
  · simp only [word_May.f, if_neg h1, if_neg h2, if_neg h3]; exact q1
  · simp only [evermoreref1_May.f, if_neg h1, if_neg h2, if_neg h3]; exact q2
theorem do2 : @evermoreref4_Does_2.f = @evermoreref4_Does.f := by kernel_rfl
variable {A s : Int} {N X : List (List Int)} {M Y : List Int}
/-- Two words do the same to each state. -/
theorem does_eq (F : Fit A 0 X Y) {u v : List Int} (hu : WordOk A u) (hv : WordOk A v) : doesN X u = doesN X v ↔ ∀ q, q < X.length → aft X q (nats u) = aft X q (nats v) := by
  constructor
  · intro h q hq
    have h1 : (doesN X u).getD q 0 = (doesN X v).getD q 0 := by rw [h]
    have g : ∀ w, WordOk A w → (doesN X w).getD q 0 = ((aft X q (nats w) : Nat) : Int) := by
      intro w hw
      rw [← (afterN_aft F w q hw hq).1, doesN, List.getD_eq_getElem?_getD, List.getElem?_map, List.getElem?_range' (by omega)]
      simp
    rw [g u hu, g v hv] at h1; omega
  · intro h
    rw [doesN, doesN]
    apply List.map_congr_left
    intro q hq
    rw [List.mem_range'_1] at hq
    rw [(afterN_aft F u q hu (by omega)).1, (afterN_aft F v q hv (by omega)).1, h q (by omega)]
theorem aft_lt (F : Fit A s X Y) {w : List Int} (hw : WordOk A w) {q : Nat} (hq : q < X.length) : aft X q (nats w) < X.length := (afterN_aft F w q hw hq).2
/-- The program's search of an element that shows it. -/
theorem alike_l12 (F : Fit A 0 X Y) (h5 : X.length ≤ 5) (Ls : Lst A X Y) (u v : List Int) (hu : WordOk A u) (hv : WordOk A v) (lu : u.length ≤ 60) (lv : v.length ≤ 60) (L : List El) (H : InvE A X L) : ∀ n i, L.length - i = n → i ≤ L.length →
    ∃ before behind b, before.length ≤ 10000 ∧ behind.length ≤ 10000 ∧ Ev (fun k => monoid_Alike.l12 k u v (L.length : Int) (i : Int) A 0 X Y L) (before, behind, b, 0) ∧
      (b = true → before = [] ∧ behind = [] ∧ ∀ e ∈ L.drop i, aft X (aft X 0 (nats e.2.1)) (nats u) = aft X (aft X 0 (nats e.2.1)) (nats v)) ∧
      (b = false → WordOk A before ∧ WordOk A behind ∧ Y.getD (aft X (aft X (aft X 0 (nats before)) (nats u)) (nats behind)) 0 ≠ Y.getD (aft X (aft X (aft X 0 (nats before)) (nats v)) (nats behind)) 0) := by
  have hle := H.len F h5
  have n1 := F.n1
  intro n
  induction n with
  | zero =>
    intro i hn hi
    refine ⟨[], [], true, by simp, by simp, Ev.step (h := fun _ => some ([], [], true, 0)) (fun k => ?_) (Ev.now _), fun _ => ⟨rfl, rfl, fun e he => ?_⟩, fun h => by simp at h⟩
    · rw [monoid_Alike.l12, if_neg (by omega)]
    · rw [List.drop_eq_nil_of_le (by omega)] at he; simp at he
  | succ n ih =>
    intro i hn hi
    have h : i < L.length := by omega
    have hge : L.getD i ([], [], ()) = L[i] := by rw [List.getD_eq_getElem?_getD, List.getElem?_eq_getElem h]; rfl
    obtain ⟨e1, e2, e3⟩ := H.els _ (List.getElem_mem h)
    have q0 : aft X 0 (nats L[i].2.1) < X.length := aft_lt F e2 (by omega)
    have qu := aft_lt F hu q0
    have qv := aft_lt F hv q0
    have A1 := det_after F L[i].2.1 e2 (by omega) 0 (by omega)
    have A2 := det_after F u hu (by omega) _ q0
    have A3 := det_after F v hv (by omega) _ q0
    obtain ⟨w, b, w0, w1, w2, w3⟩ := apart_ev F (by omega) _ _ qu qv
    have step : ∀ r, Ev (fun k => if b = true then some (L[i].2.1, w, false, 0) else monoid_Alike.l12 k u v (L.length : Int) ((i + 1 : Nat) : Int) A 0 X Y L) r → Ev (fun k => monoid_Alike.l12 k u v (L.length : Int) (i : Int) A 0 X Y L) r := by
      intro r E
      refine Ev.step (h := fun k => (det_After.f k (A, 0, X, Y, ()) 0 L[i].2.1).bind fun r5 => (det_After.f k (A, 0, X, Y, ()) r5 u).bind fun r6 => (det_After.f k (A, 0, X, Y, ()) r5 v).bind fun r7 => (det_Apart.f k (A, 0, X, Y, ()) r6 r7).bind fun r8 => if r8.snd.fst = true then some (L[i].2.1, r8.fst, false, 0) else monoid_Alike.l12 k u v (L.length : Int) ((i + 1 : Nat) : Int) A 0 X Y L) (fun k => ?_) (Ev.bind A1 (Ev.bind A2 (Ev.bind A3 (Ev.bind w1 E))))
      rw [monoid_Alike.l12, if_pos (by omega), if_pos (by omega), if_pos (by omega), Int.toNat_natCast, hge, wrSucc i (by omega)]
    cases b with
    | true =>
      obtain ⟨g1, g2⟩ := w2 rfl
      refine ⟨L[i].2.1, w, false, by omega, w0, step _ ?_, fun h => by simp at h, fun _ => ⟨e2, g1, g2⟩⟩
      simp only [if_true]; exact Ev.now _
    | false =>
      obtain ⟨before, behind, b, p1, p2, p3, p4, p5⟩ := ih (i + 1) (by omega) (by omega)
      refine ⟨before, behind, b, p1, p2, step _ ?_, fun hb => ?_, p5⟩
      · simp only [Bool.false_eq_true, if_false]; exact p3
      · obtain ⟨r1, r2, r3⟩ := p4 hb
        refine ⟨r1, r2, fun e he => ?_⟩
        rw [List.drop_eq_getElem_cons h] at he
        rcases List.mem_cons.1 he with h' | h'
        · rw [h']; exact Ls.min _ _ qu qv (w3 rfl)
        · exact r3 e h'
theorem letters_l19 (F : Fit A s N M) (u v before behind : List Int) (hb : WordOk A before) (hh : WordOk A behind) (lb : before.length ≤ 10000) (lh : behind.length ≤ 10000)
    (E : Ev (fun k => (evermoreref3_After.f k (A, s, N, M, ()) s before).bind fun r3 => (evermoreref3_After.f k (A, s, N, M, ()) r3 u).bind fun r4 => (evermoreref3_After.f k (A, s, N, M, ()) r3 v).bind fun r5 => (evermoreref3_After.f k (A, s, N, M, ()) r4 behind).bind fun r6 => (evermoreref3_After.f k (A, s, N, M, ()) r5 behind).bind fun r7 =>
        if 0 ≤ r6 then if r6 < (M.length : Int) then if 0 ≤ r7 then if r7 < (M.length : Int) then some (!decide (rd (Int.ofNat 0) M r6 = rd (Int.ofNat 0) M r7)) else none else none else none else none) true) :
    ∀ n i, before.length + behind.length - i = n → i ≤ before.length + behind.length → Ev (fun k => evermorelaw_MonoidAlike.l19 k u v before behind (i : Int) A s N M) true := by
  have hw : Go.IntKind.i64.wrap ((before.length : Int) + (behind.length : Int)) = ((before.length + behind.length : Nat) : Int) := by rw [wr64 _ (by omega) (by omega)]; simp
  intro n
  induction n with
  | zero =>
    intro i hn hi
    refine Ev.step (fun k => ?_) E
    rw [evermorelaw_MonoidAlike.l19, hw, if_neg (by omega)]
  | succ n ih =>
    intro i hn hi
    have j25 : ∀ (x : Int), 0 ≤ x → x < A → ∀ k, evermorelaw_MonoidAlike.j25 (k + 1) u v before behind (i : Int) x A s N M = evermorelaw_MonoidAlike.l19 k u v before behind ((i + 1 : Nat) : Int) A s N M := by
      intro x h1 h2 k
      rw [evermorelaw_MonoidAlike.j25, if_neg (by omega), if_neg (by omega), wrSucc i (by omega)]
    by_cases hlt : i < before.length
    · have hx := hb _ (getD_memI before i hlt)
      refine Ev.step (h := fun k => evermorelaw_MonoidAlike.j25 k u v before behind (i : Int) (before.getD i 0) A s N M) (fun k => ?_) (Ev.step (fun k => j25 _ hx.1 hx.2 k) (ih (i + 1) (by omega) (by omega)))
      rw [evermorelaw_MonoidAlike.l19, hw, if_pos (by omega), if_pos (by omega), if_pos (by omega), if_pos (by omega), rd_nat]
      rfl
    · have hj : i - before.length < behind.length := by omega
      have hx := hh _ (getD_memI behind (i - before.length) hj)
      have hw2 : Go.IntKind.i64.wrap ((i : Int) - (before.length : Int)) = ((i - before.length : Nat) : Int) := by rw [wr64 _ (by omega) (by omega)]; omega
      refine Ev.step (h := fun k => evermorelaw_MonoidAlike.j25 k u v before behind (i : Int) (behind.getD (i - before.length) 0) A s N M) (fun k => ?_) (Ev.step (fun k => j25 _ hx.1 hx.2 k) (ih (i + 1) (by omega) (by omega)))
      rw [evermorelaw_MonoidAlike.l19, hw, if_pos (by omega), if_neg (by omega), hw2, if_pos (by omega), if_pos (by omega), rd_nat]
      rfl
theorem MonoidAlike : evermorelaw_MonoidAlike.PureH := by
  rintro ⟨A, s, N, M, ⟨⟩⟩ u v _ _ _
  suffices H : Ev (fun k => evermorelaw_MonoidAlike.f k (A, s, N, M, ()) u v) true from H.get
  obtain ⟨e, X, Y, h1, h2, h3⟩ := small_ev2 A s N M
  obtain ⟨mu, u1, u2, u3⟩ := may_ev A u
  obtain ⟨mv, v1, v2, v3⟩ := may_ev A v
  -- a fault
  have fault : ∀ no : Int, no ≠ 0 → ∀ (a b : Int) (P : List (List Int)) (Q : List Int), Ev (fun k => evermorelaw_MonoidAlike.j7 k u v [] [] false no no A s N M a b P Q) true := by
    intro no hz a b P Q
    refine Ev.step (h := fun _ => some true) (fun k => ?_) (Ev.now _)
    rw [evermorelaw_MonoidAlike.j7, if_neg hz, if_pos rfl]; rfl
  by_cases h : e = 0
  · rw [if_pos h] at h1 h2
    obtain ⟨F, h5, F0, hS, Ls⟩ := h3 h
    -- the program's checks of both words
    have l5a : ∀ r, Ev (fun k => (word_May.f k A u).bind fun r5 => if r5 = 0 then monoid_Alike.l5 k u v 2 1 A s N M A 0 [u, v] X Y else some ([], [], false, r5)) r → Ev (fun k => monoid_Alike.f k (A, s, N, M, ()) u v) r := by
      intro r E
      simp only [monoid_Alike.f]
      refine Ev.bind h1 ?_
      simp only [if_true]
      refine Ev.step (fun k => ?_) E
      rw [monoid_Alike.l5, if_pos (by simp), if_pos (by omega), if_pos (by simp)]; rfl
    have l5b : ∀ r, Ev (fun k => (word_May.f k A v).bind fun r5 => if r5 = 0 then monoid_Alike.l5 k u v 2 2 A s N M A 0 [u, v] X Y else some ([], [], false, r5)) r → Ev (fun k => monoid_Alike.l5 k u v 2 1 A s N M A 0 [u, v] X Y) r := by
      intro r E
      refine Ev.step (fun k => ?_) E
      rw [monoid_Alike.l5, if_pos (by omega), if_pos (by omega), if_pos (by simp)]; rfl
    by_cases hu : mu = 0
    · obtain ⟨wu, lu⟩ := u3 hu
      by_cases hv : mv = 0
      · obtain ⟨wv, lv⟩ := v3 hv
        obtain ⟨L, p1, p2, p3⟩ := elementsP F h5
        have hL := p1.len F h5
        have n1 := F.n1
        obtain ⟨before, behind, b, b1, b2, b3, b4, b5⟩ := alike_l12 F h5 Ls u v wu wv lu lv L p1 _ 0 rfl (by omega)
        have hal : Ev (fun k => monoid_Alike.f k (A, s, N, M, ()) u v) (before, behind, b, 0) := by
          refine l5a _ (Ev.bind u1 ?_)
          simp only [if_pos hu]
          refine l5b _ (Ev.bind v1 ?_)
          simp only [if_pos hv]
          refine Ev.step (h := fun k => (monoid_elements.f k (A, 0, X, Y, ())).bind fun r3 => monoid_Alike.l12 k u v (r3.length : Int) 0 A 0 X Y r3) (fun k => ?_) (Ev.bind p3 b3)
          rw [monoid_Alike.l5, if_neg (by omega)]
        simp only [evermorelaw_MonoidAlike.f]
        refine Ev.bind hal (Ev.bind h2 ?_)
        simp only [if_true]
        refine Ev.bind u2 ?_
        refine Ev.step (h := fun k => (evermoreref1_May.f k A v).bind fun r3 => evermorelaw_MonoidAlike.j7 k u v before behind b 0 r3 A s N M A 0 X Y) (fun k => by rw [evermorelaw_MonoidAlike.j5, if_pos hu]) (Ev.bind v2 ?_)
        have hdu := does_ev F u wu (by omega)
        have hdv := does_ev F v wv (by omega)
        refine Ev.step (h := fun k => (evermoreref4_Does.f k (A, 0, X, Y, ()) u).bind fun r4 => (evermoreref4_Does_2.f k (A, 0, X, Y, ()) v).bind fun r5 => (evermoreref1_Words.f k r4 r5).bind fun r6 => if r6 = true then if b = true then some (decide (Go.IntKind.i64.wrap ((before.length : Int) + (behind.length : Int)) = 0)) else some false else if b = true then some false else evermorelaw_MonoidAlike.l19 k u v before behind 0 A s N M) (fun k => ?_) (Ev.bind hdu (Ev.bind (x := doesN X v) (by rw [do2]; exact hdv) (Ev.bind (words_ev _ _ (by rw [does_len]; omega)) ?_)))
        · rw [evermorelaw_MonoidAlike.j7, if_pos hv, if_pos rfl]
        by_cases hd : doesN X u = doesN X v
        · simp only [decide_eq_true hd, if_true]
          have hb : b = true := by
            cases b with
            | true => rfl
            | false =>
              exfalso
              obtain ⟨c1, c2, c3⟩ := b5 rfl
              apply c3
              rw [(does_eq F wu wv).1 hd _ (aft_lt F c1 (by omega))]
          obtain ⟨c1, c2, _⟩ := b4 hb
          rw [hb, c1, c2]; exact Ev.now _
        · simp only [decide_eq_false hd, Bool.false_eq_true, if_false]
          have hb : b = false := by
            cases b with
            | false => rfl
            | true =>
              exfalso
              obtain ⟨c1, c2, c3⟩ := b4 rfl
              apply hd
              refine (does_eq F wu wv).2 fun q hq => ?_
              obtain ⟨w, hw, hwq⟩ := Ls.reach q hq
              have hwz : WordOk A (w.map fun a : Nat => (a : Int)) := by
                intro x hx
                obtain ⟨a, ha, rfl⟩ := List.mem_map.1 hx
                have := hw a ha; omega
              have hnw : nats (w.map fun a : Nat => (a : Int)) = w := by
                rw [nats, List.map_map]
                conv => rhs; rw [← List.map_id w]
                apply List.map_congr_left
                intro a _; simp
              obtain ⟨f, hf, hfe⟩ := List.mem_map.1 (p2 _ hwz)
              obtain ⟨g1, g2, _⟩ := p1.els f hf
              have h0 := (does_eq F g2 hwz).1 (by rw [← g1, hfe]) 0 (by omega)
              rw [hnw, hwq] at h0
              have := c3 f (by rw [List.drop_zero]; exact hf)
              rw [h0] at this; exact this
          obtain ⟨c1, c2, c3⟩ := b5 hb
          rw [hb]
          simp only [Bool.false_eq_true, if_false]
          have hs := F0.s
          have q0 : aft N s.toNat (nats before) < N.length := aft_lt F0 c1 (by omega)
          have qu := aft_lt F0 wu q0
          have qv := aft_lt F0 wv q0
          have A1 := ref_after F0 before c1 (by omega) s.toNat (by omega)
          rw [show ((s.toNat : Nat) : Int) = s by omega] at A1
          have A2 := ref_after F0 u wu (by omega) _ q0
          have A3 := ref_after F0 v wv (by omega) _ q0
          have A4 := ref_after F0 behind c2 (by omega) _ qu
          have A5 := ref_after F0 behind c2 (by omega) _ qv
          have qu2 := aft_lt F0 c2 qu
          have qv2 := aft_lt F0 c2 qv
          have hm := F0.m
          refine letters_l19 F0 u v before behind c1 c2 b1 b2 (Ev.bind A1 (Ev.bind A2 (Ev.bind A3 (Ev.bind A4 (Ev.bind A5 ?_))))) _ 0 rfl (by omega)
          have key : ∀ w, WordOk A w → M.getD (aft N (aft N (aft N s.toNat (nats before)) (nats w)) (nats behind)) 0 = Y.getD (aft X (aft X (aft X 0 (nats before)) (nats w)) (nats behind)) 0 := by
            intro w hw
            have := hS (nats before ++ (nats w ++ nats behind)) (fun a ha => by
              rcases List.mem_append.1 ha with h | h
              · exact nats_ok c1 a h
              · rcases List.mem_append.1 h with h | h
                · exact nats_ok hw a h
                · exact nats_ok c2 a h)
            rw [aft_app, aft_app, aft_app, aft_app] at this
            exact this.symm
          refine (Ev_eq (h := fun _ => some true) (fun k => ?_) (Ev.now _))
          rw [if_pos (by omega), if_pos (by omega), if_pos (by omega), if_pos (by omega), rd_nat, rd_nat]
          congr 1
          rw [Bool.not_eq_true', decide_eq_false_iff_not]
          intro he
          apply c3
          rw [← key u wu, ← key v wv]; exact he
      · have hal : Ev (fun k => monoid_Alike.f k (A, s, N, M, ()) u v) ([], [], false, mv) := by
          refine l5a _ (Ev.bind u1 ?_)
          simp only [if_pos hu]
          refine l5b _ (Ev.bind v1 ?_)
          simp only [if_neg hv]; exact Ev.now _
        simp only [evermorelaw_MonoidAlike.f]
        refine Ev.bind hal (Ev.bind h2 ?_)
        simp only [if_true]
        refine Ev.bind u2 (Ev.step (h := fun k => (evermoreref1_May.f k A v).bind fun r3 => evermorelaw_MonoidAlike.j7 k u v [] [] false mv r3 A s N M A 0 X Y) (fun k => by rw [evermorelaw_MonoidAlike.j5, if_pos hu]) (Ev.bind v2 (fault mv hv _ _ _ _)))
    · have hal : Ev (fun k => monoid_Alike.f k (A, s, N, M, ()) u v) ([], [], false, mu) := by
        refine l5a _ (Ev.bind u1 ?_)
        simp only [if_neg hu]; exact Ev.now _
      simp only [evermorelaw_MonoidAlike.f]
      refine Ev.bind hal (Ev.bind h2 ?_)
      simp only [if_true]
      refine Ev.bind u2 (Ev.step (h := fun k => evermorelaw_MonoidAlike.j7 k u v [] [] false mu mu A s N M A 0 X Y) (fun k => by rw [evermorelaw_MonoidAlike.j5, if_neg hu]) (fault mu hu _ _ _ _))
  · rw [if_neg h] at h1 h2
    simp only [evermorelaw_MonoidAlike.f, monoid_Alike.f]
    refine Ev.bind (x := ([], [], false, e)) (Ev.bind h1 ?_) (Ev.bind h2 ?_)
    · simp only [if_neg h]; exact Ev.now _
    · simp only [if_neg h]
      exact Ev.step (h := fun k => evermorelaw_MonoidAlike.j7 k u v [] [] false e e A s N M 0 0 [] []) (fun k => by rw [evermorelaw_MonoidAlike.j5, if_neg h]) (fault e h _ _ _ _)
end Go.Proofs.YtiiioobebeaafaaSx.DC
namespace Go.Proofs.Ytiiioobebeaafaa
theorem Pure.MonoidAlike : Go.Proofs.YtiiioobebeaafaaSx.evermorelaw_MonoidAlike.PureH := Go.Proofs.YtiiioobebeaafaaSx.DC.MonoidAlike
end Go.Proofs.Ytiiioobebeaafaa
