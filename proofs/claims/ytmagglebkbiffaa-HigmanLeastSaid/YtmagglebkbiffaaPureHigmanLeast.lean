import Derived.Test.YtmagglebkbiffaaGHigmanLeast
import Derived.Test.YtmagglebkbiffaaSxW
import Derived.Test.YtmagglebkbiffaaSxV2
set_option linter.unusedVariables false
set_option linter.unusedSimpArgs false
namespace Go.Proofs.YtmagglebkbiffaaSx
/-- With enough fuel. -/
def Ev {α : Type} (g : Nat → Option α) (r : α) : Prop := ∃ k0, ∀ k, k0 ≤ k → g k = some r
theorem Ev.now {α : Type} (r : α) : Ev (fun _ => some r) r := ⟨0, fun _ _ => rfl⟩
theorem Ev.all {α : Type} {g : Nat → Option α} {r : α} (h : ∀ k, g k = some r) : Ev g r := ⟨0, fun k _ => h k⟩
theorem Ev.step {α : Type} {g h : Nat → Option α} {r : α} (e : ∀ k, g (k + 1) = h k) (H : Ev h r) : Ev g r := by
  obtain ⟨k0, H⟩ := H
  refine ⟨k0 + 1, fun k hk => ?_⟩
  obtain ⟨k, rfl⟩ : ∃ j, k = j + 1 := ⟨k - 1, by omega⟩
  rw [e]; exact H _ (by omega)
theorem Ev.bind {α β : Type} {g : Nat → Option α} {h : Nat → α → Option β} {x : α} {r : β} (G : Ev g x) (H : Ev (fun k => h k x) r) : Ev (fun k => (g k).bind (h k)) r := by
  obtain ⟨a, G⟩ := G
  obtain ⟨b, H⟩ := H
  refine ⟨max a b, fun k hk => ?_⟩
  show (g k).bind (h k) = some r
  rw [G k (by omega)]; exact H k (by omega)
theorem Ev.get {α : Type} {g : Nat → Option α} {r : α} (H : Ev g r) : ∃ k, g k = some r := H.elim fun k0 H => ⟨k0, H k0 (Nat.le_refl _)⟩
theorem Ev.cast {α : Type} {g : Nat → Option α} {r r' : α} (H : Ev g r) (e : r = r') : Ev g r' := e ▸ H

theorem wr64 (n : Int) (h0 : -9223372036854775808 ≤ n) (h1 : n < 9223372036854775808) : IntKind.i64.wrap n = n := by rw [IntKind.wrap_i64]; omega
theorem wrSucc (i : Nat) (h : i < 1000000000) : IntKind.i64.wrap ((i : Int) + 1) = ((i + 1 : Nat) : Int) := by rw [wr64] <;> omega
theorem rd_nat {α : Type} (d : α) (w : List α) (i : Nat) : rd d w (i : Int) = w.getD i d := by simp [rd]
theorem drop_getD {α : Type} (d : α) (w : List α) (i : Nat) (h : i < w.length) : w.drop i = w.getD i d :: w.drop (i + 1) := by
  rw [List.drop_eq_getElem_cons h]; simp [List.getD, h]
theorem short (n : Nat) (h : n < 1000000000) : Nat.blt n 1000000000 = true := Nat.ble_eq_true_of_le (by omega)
theorem fits (n b : Nat) (hb : b ≤ 1000) (h : n < 100000000000) : fitsIn n b = true := by
  have h1 : n * b ≤ 100000000000 * 1000 := Nat.mul_le_mul (by omega) hb
  exact Nat.ble_eq_true_of_le (by omega)
theorem fit1 {b : Nat} (n : Nat) (h : n < 1000000000) (hb : b ≤ 4096 := by decide) : fitsIn n b = true := by
  have h1 : n * b ≤ 1000000000 * 4096 := Nat.mul_le_mul (by omega) hb
  exact Nat.ble_eq_true_of_le (by omega)
end Go.Proofs.YtmagglebkbiffaaSx
namespace Go.Proofs.YtmagglebkbiffaaSx.DC
def bad (N : Int) (b : Int) : Bool := decide (b < 0) || decide (N ≤ b)
def badW (B : Int) (w : List Int) : Bool := !decide ((w.length : Int) = B)
def badM (m : Int) : Bool := !(decide (m = 0) || decide (m = 1))
/-- An automaton that may be. -/
structure Fit (A s : Int) (N : List (List Int)) (M : List Int) : Prop where
  a1 : 1 ≤ A
  a4 : A ≤ 4
  n1 : 1 ≤ N.length
  n3 : N.length ≤ 3000
  m : M.length = N.length
  row : ∀ q, q < N.length → ((N.getD q []).length : Int) = A
  s : 0 ≤ s ∧ s < (N.length : Int)
  ent : ∀ q, q < N.length → ∀ a : Nat, (a : Int) < A → 0 ≤ (N.getD q []).getD a 0 ∧ (N.getD q []).getD a 0 < (N.length : Int)
  mark : ∀ q, q < N.length → M.getD q 0 = 0 ∨ M.getD q 0 = 1

theorem idx1 (A s : Int) (N' : List (List Int)) (M : List Int) (N : List (List Int)) (hN : N.length ≤ 3000) : ∀ n i, N.length - i = n → i ≤ N.length →
    ∃ r, Ev (fun k => slices_IndexFunc_____int___int_.l2 k N (N.length : Int) (i : Int) A s N' M) (r, A, s, N', M) ∧ decide (0 ≤ r) = (N.drop i).any (badW A) := by
  intro n
  induction n with
  | zero =>
    intro i hn hi
    refine ⟨-1, Ev.step (h := fun _ => some (-1, A, s, N', M)) (fun k => ?_) (Ev.now _), ?_⟩
    · rw [slices_IndexFunc_____int___int_.l2, if_neg (by omega)]
    · rw [List.drop_eq_nil_of_le (by omega)]; rfl
  | succ n ih =>
    intro i hn hi
    obtain ⟨r, h1, h2⟩ := ih (i + 1) (by omega) (by omega)
    by_cases hb : badW A (N.getD i []) = true
    · refine ⟨i, Ev.step (h := fun _ => some ((i : Int), A, s, N', M)) (fun k => ?_) (Ev.now _), ?_⟩
      · rw [slices_IndexFunc_____int___int_.l2, if_pos (by omega), if_pos (by omega), if_pos (by omega), det_Check_1.f, rd_nat, Option.bind_some]
        rw [badW] at hb; simp only [hb, if_true]
      · rw [drop_getD [] N i (by omega), List.any_cons, hb, Bool.true_or, decide_eq_true (by omega)]
    · refine ⟨r, Ev.step (h := fun k => slices_IndexFunc_____int___int_.l2 k N (N.length : Int) ((i + 1 : Nat) : Int) A s N' M) (fun k => ?_) h1, ?_⟩
      · rw [slices_IndexFunc_____int___int_.l2, if_pos (by omega), if_pos (by omega), if_pos (by omega), det_Check_1.f, rd_nat, Option.bind_some, wrSucc i (by omega)]
        rw [Bool.not_eq_true, badW] at hb; simp only [hb, Bool.false_eq_true, if_false]
      · rw [drop_getD [] N i (by omega), List.any_cons, h2, show badW A (N.getD i []) = false from (Bool.not_eq_true _).mp hb, Bool.false_or]
theorem con1 (A s : Int) (N' : List (List Int)) (M : List Int) (N : List (List Int)) (hN : N.length ≤ 3000) :
    Ev (fun k => slices_ContainsFunc_____int___int_.f k N A s N' M) (N.any (badW A), A, s, N', M) := by
  obtain ⟨r, h1, h2⟩ := idx1 A s N' M N hN _ 0 rfl (by omega)
  rw [List.drop_zero] at h2
  refine (Ev.bind (g := fun k => slices_IndexFunc_____int___int_.f k N A s N' M) (x := (r, A, s, N', M)) (h := fun k r1 => some (decide (0 ≤ r1.fst), r1.snd.fst, r1.snd.snd.fst, r1.snd.snd.snd.fst, r1.snd.snd.snd.snd)) h1 (Ev.now _)).cast ?_
  exact congrArg (fun b => (b, A, s, N', M)) h2

theorem check2 (k : Nat) (b n : Int) : det_Check_2.f k b n = some (bad n b, n) := by
  rw [det_Check_2.f, bad]
  by_cases h : b < 0
  · rw [if_pos h]; simp [h]
  · rw [if_neg h]; simp [h]
theorem idx2 (n0 : Int) (w : List Int) (hw : w.length ≤ 10000) : ∀ n i, w.length - i = n → i ≤ w.length →
    ∃ r, Ev (fun k => slices_IndexFunc___int_int_.l2 k w (w.length : Int) (i : Int) n0) (r, n0) ∧ decide (0 ≤ r) = (w.drop i).any (bad n0) := by
  intro n
  induction n with
  | zero =>
    intro i hn hi
    refine ⟨-1, Ev.step (h := fun _ => some (-1, n0)) (fun k => ?_) (Ev.now _), ?_⟩
    · rw [slices_IndexFunc___int_int_.l2, if_neg (by omega)]
    · rw [List.drop_eq_nil_of_le (by omega)]; rfl
  | succ n ih =>
    intro i hn hi
    obtain ⟨r, h1, h2⟩ := ih (i + 1) (by omega) (by omega)
    by_cases hb : bad n0 (w.getD i (Int.ofNat 0)) = true
    · refine ⟨i, Ev.step (h := fun _ => some ((i : Int), n0)) (fun k => ?_) (Ev.now _), ?_⟩
      · rw [slices_IndexFunc___int_int_.l2, if_pos (by omega), if_pos (by omega), if_pos (by omega), check2, rd_nat, Option.bind_some]
        simp only [hb, if_true]
      · rw [drop_getD (Int.ofNat 0) w i (by omega), List.any_cons, hb, Bool.true_or, decide_eq_true (by omega)]
    · refine ⟨r, Ev.step (h := fun k => slices_IndexFunc___int_int_.l2 k w (w.length : Int) ((i + 1 : Nat) : Int) n0) (fun k => ?_) h1, ?_⟩
      · rw [slices_IndexFunc___int_int_.l2, if_pos (by omega), if_pos (by omega), if_pos (by omega), check2, rd_nat, Option.bind_some, wrSucc i (by omega)]
        simp only [hb]; rfl
      · rw [drop_getD (Int.ofNat 0) w i (by omega), List.any_cons, h2, show bad n0 (w.getD i (Int.ofNat 0)) = false from (Bool.not_eq_true _).mp hb, Bool.false_or]
theorem con2 (n0 : Int) (w : List Int) (hw : w.length ≤ 10000) : Ev (fun k => slices_ContainsFunc___int_int_.f k w n0) (w.any (bad n0), n0) := by
  obtain ⟨r, h1, h2⟩ := idx2 n0 w hw _ 0 rfl (by omega)
  rw [List.drop_zero] at h2
  refine (Ev.bind (g := fun k => slices_IndexFunc___int_int_.f k w n0) (x := (r, n0)) (h := fun k r1 => some (decide (0 ≤ r1.fst), r1.snd)) h1 (Ev.now _)).cast ?_
  exact congrArg (fun b => (b, n0)) h2
theorem check3 (n0 : Int) (w : List Int) (hw : w.length ≤ 10000) : Ev (fun k => det_Check_3.f k w n0) (w.any (bad n0), n0) := by
  show Ev (fun k => (slices_ContainsFunc___int_int_.f k w n0).bind fun r1 => some (r1.fst, r1.snd)) _
  exact Ev.bind (x := (w.any (bad n0), n0)) (con2 n0 w hw) (Ev.now _)
theorem idx3 (n0 : Int) (N : List (List Int)) (hN : N.length ≤ 3000) (hw : ∀ q, q < N.length → (N.getD q []).length ≤ 10000) : ∀ n i, N.length - i = n → i ≤ N.length →
    ∃ r, Ev (fun k => slices_IndexFunc_____int___int__2.l2 k N (N.length : Int) (i : Int) n0) (r, n0) ∧ decide (0 ≤ r) = (N.drop i).any (fun w => w.any (bad n0)) := by
  intro n
  induction n with
  | zero =>
    intro i hn hi
    refine ⟨-1, Ev.step (h := fun _ => some (-1, n0)) (fun k => ?_) (Ev.now _), ?_⟩
    · rw [slices_IndexFunc_____int___int__2.l2, if_neg (by omega)]
    · rw [List.drop_eq_nil_of_le (by omega)]; rfl
  | succ n ih =>
    intro i hn hi
    obtain ⟨r, h1, h2⟩ := ih (i + 1) (by omega) (by omega)
    have c3 := check3 n0 (N.getD i []) (hw i (by omega))
    by_cases hb : (N.getD i []).any (bad n0) = true
    · refine ⟨i, Ev.step (h := fun k => (det_Check_3.f k (N.getD i []) n0).bind fun r5 => if r5.fst = true then some ((i : Int), r5.snd) else slices_IndexFunc_____int___int__2.l2 k N (N.length : Int) ((i + 1 : Nat) : Int) r5.snd) (fun k => ?_) (Ev.bind c3 ?_), ?_⟩
      · rw [slices_IndexFunc_____int___int__2.l2, if_pos (by omega), if_pos (by omega), if_pos (by omega), rd_nat, wrSucc i (by omega)]
      · simp only [hb, if_true]; exact Ev.now _
      · rw [drop_getD [] N i (by omega), List.any_cons, hb, Bool.true_or, decide_eq_true (by omega)]
    · refine ⟨r, Ev.step (h := fun k => (det_Check_3.f k (N.getD i []) n0).bind fun r5 => if r5.fst = true then some ((i : Int), r5.snd) else slices_IndexFunc_____int___int__2.l2 k N (N.length : Int) ((i + 1 : Nat) : Int) r5.snd) (fun k => ?_) (Ev.bind c3 ?_), ?_⟩
      · rw [slices_IndexFunc_____int___int__2.l2, if_pos (by omega), if_pos (by omega), if_pos (by omega), rd_nat, wrSucc i (by omega)]
      · simp only [if_neg hb]; exact h1
      · rw [drop_getD [] N i (by omega), List.any_cons, h2, show (N.getD i []).any (bad n0) = false from (Bool.not_eq_true _).mp hb, Bool.false_or]
theorem con3 (n0 : Int) (N : List (List Int)) (hN : N.length ≤ 3000) (hw : ∀ q, q < N.length → (N.getD q []).length ≤ 10000) : Ev (fun k => slices_ContainsFunc_____int___int__2.f k N n0) (N.any (fun w => w.any (bad n0)), n0) := by
  obtain ⟨r, h1, h2⟩ := idx3 n0 N hN hw _ 0 rfl (by omega)
  rw [List.drop_zero] at h2
  refine (Ev.bind (g := fun k => slices_IndexFunc_____int___int__2.f k N n0) (x := (r, n0)) (h := fun k r1 => some (decide (0 ≤ r1.fst), r1.snd)) h1 (Ev.now _)).cast ?_
  exact congrArg (fun b => (b, n0)) h2
theorem check4 (k : Nat) (m : Int) : det_Check_4.f k m = some (badM m) := by
  rw [det_Check_4.f, badM]
  by_cases h : m = 0
  · rw [if_pos h]; simp [h]
  · rw [if_neg h]; simp [h]
theorem idx4 (w : List Int) (hw : w.length ≤ 3000) : ∀ n i, w.length - i = n → i ≤ w.length →
    ∃ r, Ev (fun k => slices_IndexFunc___int_int__2.l2 k w (w.length : Int) (i : Int)) r ∧ decide (0 ≤ r) = (w.drop i).any badM := by
  intro n
  induction n with
  | zero =>
    intro i hn hi
    refine ⟨-1, Ev.step (h := fun _ => some (-1)) (fun k => ?_) (Ev.now _), ?_⟩
    · rw [slices_IndexFunc___int_int__2.l2, if_neg (by omega)]
    · rw [List.drop_eq_nil_of_le (by omega)]; rfl
  | succ n ih =>
    intro i hn hi
    obtain ⟨r, h1, h2⟩ := ih (i + 1) (by omega) (by omega)
    by_cases hb : badM (w.getD i (Int.ofNat 0)) = true
    · refine ⟨i, Ev.step (h := fun _ => some (i : Int)) (fun k => ?_) (Ev.now _), ?_⟩
      · rw [slices_IndexFunc___int_int__2.l2, if_pos (by omega), if_pos (by omega), if_pos (by omega), check4, rd_nat, Option.bind_some, if_pos hb]
      · rw [drop_getD (Int.ofNat 0) w i (by omega), List.any_cons, hb, Bool.true_or, decide_eq_true (by omega)]
    · refine ⟨r, Ev.step (h := fun k => slices_IndexFunc___int_int__2.l2 k w (w.length : Int) ((i + 1 : Nat) : Int)) (fun k => ?_) h1, ?_⟩
      · rw [slices_IndexFunc___int_int__2.l2, if_pos (by omega), if_pos (by omega), if_pos (by omega), check4, rd_nat, Option.bind_some, wrSucc i (by omega), if_neg hb]
      · rw [drop_getD (Int.ofNat 0) w i (by omega), List.any_cons, h2, show badM (w.getD i (Int.ofNat 0)) = false from (Bool.not_eq_true _).mp hb, Bool.false_or]
theorem con4 (w : List Int) (hw : w.length ≤ 3000) : Ev (fun k => slices_ContainsFunc___int_int__2.f k w) (w.any badM) := by
  obtain ⟨r, h1, h2⟩ := idx4 w hw _ 0 rfl (by omega)
  rw [List.drop_zero] at h2
  refine (Ev.bind (g := fun k => slices_IndexFunc___int_int__2.f k w) (x := r) (h := fun k r1 => some (decide (0 ≤ r1))) h1 (Ev.now _)).cast ?_
  exact h2
end Go.Proofs.YtmagglebkbiffaaSx.DC
namespace Go.Proofs.YtmagglebkbiffaaSx.DC
variable {A s : Int} {N : List (List Int)} {M : List Int}
theorem r24 (hN : N.length ≤ 3000) (hM : M.length = N.length) : ∀ n i, N.length - i = n → i ≤ N.length → Ev (fun k => evermoreref3_Check.l24 k (N.length : Int) (i : Int) A s N M) (if (M.drop i).any badM = true then 2 else 0) := by
  intro n
  induction n with
  | zero =>
    intro i hn hi
    rw [List.drop_eq_nil_of_le (by omega)]
    refine Ev.step (h := fun _ => some 0) (fun k => ?_) (Ev.now _)
    rw [evermoreref3_Check.l24, if_neg (by omega)]
  | succ n ih =>
    intro i hn hi
    have h1 := ih (i + 1) (by omega) (by omega)
    rw [drop_getD (Int.ofNat 0) M i (by omega), List.any_cons]
    by_cases c0 : M.getD i (Int.ofNat 0) = 0
    · rw [show badM (M.getD i (Int.ofNat 0)) = false by rw [badM, decide_eq_true c0]; rfl, Bool.false_or]
      refine Ev.step (h := fun k => evermoreref3_Check.l24 k (N.length : Int) ((i + 1 : Nat) : Int) A s N M) (fun k => ?_) h1
      rw [evermoreref3_Check.l24, if_pos (by omega), if_pos (by omega), if_pos (by omega), rd_nat, if_pos c0, wrSucc i (by omega)]
    · by_cases c1 : M.getD i (Int.ofNat 0) = 1
      · rw [show badM (M.getD i (Int.ofNat 0)) = false by rw [badM, decide_eq_true c1, Bool.or_true]; rfl, Bool.false_or]
        refine Ev.step (h := fun k => evermoreref3_Check.l24 k (N.length : Int) ((i + 1 : Nat) : Int) A s N M) (fun k => ?_) h1
        rw [evermoreref3_Check.l24, if_pos (by omega), if_pos (by omega), if_pos (by omega), rd_nat, if_neg c0, if_pos (by omega), if_pos (by omega), if_pos c1, wrSucc i (by omega)]
      · rw [show badM (M.getD i (Int.ofNat 0)) = true by rw [badM, decide_eq_false c1, decide_eq_false c0]; rfl, Bool.true_or, if_pos rfl]
        refine Ev.step (h := fun _ => some 2) (fun k => ?_) (Ev.now _)
        rw [evermoreref3_Check.l24, if_pos (by omega), if_pos (by omega), if_pos (by omega), rd_nat, if_neg c0, if_pos (by omega), if_pos (by omega), if_neg c1]

theorem r19 (hN : N.length ≤ 3000) (hA : A ≤ 4) (q : Nat) (hq : q < N.length) (hrow : ((N.getD q []).length : Int) = A) : ∀ n a, (N.getD q []).length - a = n → a ≤ (N.getD q []).length →
    (((N.getD q []).drop a).any (bad (N.length : Int)) = true → Ev (fun k => evermoreref3_Check.l19 k (N.length : Int) (q : Int) (a : Int) A s N M) 2) ∧
    (((N.getD q []).drop a).any (bad (N.length : Int)) = false → ∀ e, Ev (fun k => evermoreref3_Check.l16 k (N.length : Int) ((q + 1 : Nat) : Int) A s N M) e → Ev (fun k => evermoreref3_Check.l19 k (N.length : Int) (q : Int) (a : Int) A s N M) e) := by
  intro n
  induction n with
  | zero =>
    intro a hn ha
    rw [List.drop_eq_nil_of_le (by omega)]
    refine ⟨fun h => by simp at h, fun _ e he => Ev.step (fun k => ?_) he⟩
    rw [evermoreref3_Check.l19, if_neg (by omega), wrSucc q (by omega)]
  | succ n ih =>
    intro a hn ha
    obtain ⟨h1, h2⟩ := ih (a + 1) (by omega) (by omega)
    rw [drop_getD (Int.ofNat 0) (N.getD q []) a (by omega), List.any_cons]
    by_cases c0 : (N.getD q []).getD a (Int.ofNat 0) < 0
    · rw [show bad (N.length : Int) ((N.getD q []).getD a (Int.ofNat 0)) = true by rw [bad, decide_eq_true c0]; rfl, Bool.true_or]
      refine ⟨fun _ => Ev.step (h := fun _ => some 2) (fun k => ?_) (Ev.now _), fun h => by simp at h⟩
      rw [evermoreref3_Check.l19, if_pos (by omega), if_pos (by omega), if_pos (by omega), if_pos (by omega), rd_nat, if_pos (by omega), rd_nat, if_pos c0]
    · by_cases c1 : (N.length : Int) ≤ (N.getD q []).getD a (Int.ofNat 0)
      · rw [show bad (N.length : Int) ((N.getD q []).getD a (Int.ofNat 0)) = true by rw [bad, decide_eq_true c1, Bool.or_true], Bool.true_or]
        refine ⟨fun _ => Ev.step (h := fun _ => some 2) (fun k => ?_) (Ev.now _), fun h => by simp at h⟩
        rw [evermoreref3_Check.l19, if_pos (by omega), if_pos (by omega), if_pos (by omega), if_pos (by omega), rd_nat, if_pos (by omega), rd_nat, if_neg c0, if_pos (by omega), if_pos (by omega), if_pos (by omega), if_pos (by omega), if_pos c1]
      · rw [show bad (N.length : Int) ((N.getD q []).getD a (Int.ofNat 0)) = false by rw [bad, decide_eq_false c1, decide_eq_false c0]; rfl, Bool.false_or]
        refine ⟨fun h => Ev.step (fun k => ?_) (h1 h), fun h e he => Ev.step (fun k => ?_) (h2 h e he)⟩
        · rw [evermoreref3_Check.l19, if_pos (by omega), if_pos (by omega), if_pos (by omega), if_pos (by omega), rd_nat, if_pos (by omega), rd_nat, if_neg c0, if_pos (by omega), if_pos (by omega), if_pos (by omega), if_pos (by omega), if_neg c1, wrSucc a (by omega)]
        · rw [evermoreref3_Check.l19, if_pos (by omega), if_pos (by omega), if_pos (by omega), if_pos (by omega), rd_nat, if_pos (by omega), rd_nat, if_neg c0, if_pos (by omega), if_pos (by omega), if_pos (by omega), if_pos (by omega), if_neg c1, wrSucc a (by omega)]

theorem r16 (hN : N.length ≤ 3000) (hA : A ≤ 4) (hrow : ∀ q, q < N.length → ((N.getD q []).length : Int) = A) : ∀ n q, N.length - q = n → q ≤ N.length →
    ((N.drop q).any (fun w => w.any (bad (N.length : Int))) = true → Ev (fun k => evermoreref3_Check.l16 k (N.length : Int) (q : Int) A s N M) 2) ∧
    ((N.drop q).any (fun w => w.any (bad (N.length : Int))) = false → ∀ e, Ev (fun k => evermoreref3_Check.l24 k (N.length : Int) 0 A s N M) e → Ev (fun k => evermoreref3_Check.l16 k (N.length : Int) (q : Int) A s N M) e) := by
  intro n
  induction n with
  | zero =>
    intro q hn hq
    rw [List.drop_eq_nil_of_le (by omega)]
    refine ⟨fun h => by simp at h, fun _ e he => Ev.step (fun k => ?_) he⟩
    rw [evermoreref3_Check.l16, if_neg (by omega)]
  | succ n ih =>
    intro q hn hq
    obtain ⟨h1, h2⟩ := ih (q + 1) (by omega) (by omega)
    have R := r19 (M := M) (s := s) hN hA q (by omega) (hrow q (by omega)) _ 0 rfl (by omega)
    rw [List.drop_zero] at R
    rw [drop_getD [] N q (by omega), List.any_cons]
    by_cases hb : (N.getD q []).any (bad (N.length : Int)) = true
    · rw [hb, Bool.true_or]
      refine ⟨fun _ => Ev.step (fun k => ?_) (R.1 hb), fun h => by simp at h⟩
      rw [evermoreref3_Check.l16, if_pos (by omega)]; rfl
    · have hb' := (Bool.not_eq_true _).mp hb
      rw [hb', Bool.false_or]
      refine ⟨fun h => Ev.step (fun k => ?_) (R.2 hb' 2 (h1 h)), fun h e he => Ev.step (fun k => ?_) (R.2 hb' e (h2 h e he))⟩
      · rw [evermoreref3_Check.l16, if_pos (by omega)]; rfl
      · rw [evermoreref3_Check.l16, if_pos (by omega)]; rfl

theorem r9 (hN : N.length ≤ 3000) : ∀ n q, N.length - q = n → q ≤ N.length →
    ((N.drop q).any (badW A) = true → Ev (fun k => evermoreref3_Check.l9 k (N.length : Int) (q : Int) A s N M) 3) ∧
    ((N.drop q).any (badW A) = false → ∀ e, Ev (fun k => if s < 0 then some 2 else if (N.length : Int) ≤ s then some 2 else evermoreref3_Check.l16 k (N.length : Int) 0 A s N M) e → Ev (fun k => evermoreref3_Check.l9 k (N.length : Int) (q : Int) A s N M) e) := by
  intro n
  induction n with
  | zero =>
    intro q hn hq
    rw [List.drop_eq_nil_of_le (by omega)]
    refine ⟨fun h => by simp at h, fun _ e he => Ev.step (fun k => ?_) he⟩
    rw [evermoreref3_Check.l9, if_neg (by omega)]
  | succ n ih =>
    intro q hn hq
    obtain ⟨h1, h2⟩ := ih (q + 1) (by omega) (by omega)
    rw [drop_getD [] N q (by omega), List.any_cons]
    by_cases hb : ((N.getD q []).length : Int) = A
    · rw [show badW A (N.getD q []) = false by rw [badW, decide_eq_true hb]; rfl, Bool.false_or]
      refine ⟨fun h => Ev.step (fun k => ?_) (h1 h), fun h e he => Ev.step (fun k => ?_) (h2 h e he)⟩
      · rw [evermoreref3_Check.l9, if_pos (by omega), if_pos (by omega), if_pos (by omega), rd_nat, if_pos hb, wrSucc q (by omega)]
      · rw [evermoreref3_Check.l9, if_pos (by omega), if_pos (by omega), if_pos (by omega), rd_nat, if_pos hb, wrSucc q (by omega)]
    · rw [show badW A (N.getD q []) = true by rw [badW, decide_eq_false hb]; rfl, Bool.true_or]
      refine ⟨fun _ => Ev.step (h := fun _ => some 3) (fun k => ?_) (Ev.now _), fun h => by simp at h⟩
      rw [evermoreref3_Check.l9, if_pos (by omega), if_pos (by omega), if_pos (by omega), rd_nat, if_neg hb]

theorem any_at {α : Type} (d : α) (f : α → Bool) (w : List α) (h : w.any f = false) (j : Nat) (hj : j < w.length) : f (w.getD j d) = false := by
  rw [List.any_eq_false] at h
  have : w.getD j d ∈ w := by rw [List.getD_eq_getElem?_getD, List.getElem?_eq_getElem hj]; exact List.getElem_mem hj
  exact (Bool.not_eq_true _).mp (h _ this)
theorem bad_false {N b : Int} (h : bad N b = false) : 0 ≤ b ∧ b < N := by
  rw [bad, Bool.or_eq_false_iff, decide_eq_false_iff_not, decide_eq_false_iff_not] at h; omega

/-- Both say the same of an automaton. -/
theorem check_ev (A s : Int) (N : List (List Int)) (M : List Int) : ∃ e, Ev (fun k => det_Check.f k (A, s, N, M, ())) e ∧ Ev (fun k => evermoreref3_Check.f k (A, s, N, M, ())) e ∧ (e = 0 → Fit A s N M) := by
  by_cases h1 : A < 1
  · exact ⟨2, .all fun k => by rw [det_Check.f, if_pos h1], .all fun k => by rw [evermoreref3_Check.f, if_pos h1], fun h => absurd h (by decide)⟩
  by_cases h2 : 4 < A
  · exact ⟨2, .all fun k => by rw [det_Check.f, if_neg h1, if_pos h2], .all fun k => by rw [evermoreref3_Check.f, if_neg h1, if_pos h2], fun h => absurd h (by decide)⟩
  by_cases h3 : (N.length : Int) < 1
  · exact ⟨1, .all fun k => by rw [det_Check.f, if_neg h1, if_neg h2, if_pos h3], .all fun k => by rw [evermoreref3_Check.f, if_neg h1, if_neg h2, if_pos h3], fun h => absurd h (by decide)⟩
  by_cases h4 : 3000 < (N.length : Int)
  · exact ⟨1, .all fun k => by rw [det_Check.f, if_neg h1, if_neg h2, if_neg h3, if_pos h4], .all fun k => by rw [evermoreref3_Check.f, if_neg h1, if_neg h2, if_neg h3, if_pos h4], fun h => absurd h (by decide)⟩
  by_cases h5 : ¬ (M.length : Int) = (N.length : Int)
  · exact ⟨3, .all fun k => by rw [det_Check.f, if_neg h1, if_neg h2, if_neg h3, if_neg h4, if_neg h5], .all fun k => by rw [evermoreref3_Check.f, if_neg h1, if_neg h2, if_neg h3, if_neg h4, if_neg h5], fun h => absurd h (by decide)⟩
  have h5 := Decidable.not_not.1 h5
  have hN : N.length ≤ 3000 := by omega
  have R9 := r9 (A := A) (s := s) (M := M) hN _ 0 rfl (by omega)
  rw [List.drop_zero] at R9
  have C1 := con1 A s N M N hN
  by_cases hb : N.any (badW A) = true
  · refine ⟨3, ?_, ?_, fun h => absurd h (by decide)⟩
    · simp only [det_Check.f, if_neg h1, if_neg h2, if_neg h3, if_neg h4, if_pos h5]
      refine Ev.bind C1 ?_
      simp only [if_pos hb]; exact Ev.now _
    · simp only [evermoreref3_Check.f, if_neg h1, if_neg h2, if_neg h3, if_neg h4, if_pos h5]
      exact R9.1 hb
  have hb' := (Bool.not_eq_true _).mp hb
  have hrow : ∀ q, q < N.length → ((N.getD q []).length : Int) = A := by
    intro q hq
    have := any_at [] _ _ hb' q hq
    rw [badW, Bool.not_eq_false', decide_eq_true_iff] at this; exact this
  by_cases hs : bad (N.length : Int) s = true
  · refine ⟨2, ?_, ?_, fun h => absurd h (by decide)⟩
    · simp only [det_Check.f, if_neg h1, if_neg h2, if_neg h3, if_neg h4, if_pos h5]
      refine Ev.bind C1 ?_
      simp only [if_neg hb]
      refine Ev.bind (.all fun k => check2 k s _) ?_
      simp only [if_pos hs]; exact Ev.now _
    · simp only [evermoreref3_Check.f, if_neg h1, if_neg h2, if_neg h3, if_neg h4, if_pos h5]
      refine R9.2 hb' 2 ?_
      rw [bad, Bool.or_eq_true, decide_eq_true_iff, decide_eq_true_iff] at hs
      by_cases c0 : s < 0
      · simp only [if_pos c0]; exact Ev.now _
      · have c1 : (N.length : Int) ≤ s := hs.resolve_left c0
        simp only [if_neg c0, if_pos c1]; exact Ev.now _
  have hs' := bad_false ((Bool.not_eq_true _).mp hs)
  have hs0 : ¬ s < 0 := by omega
  have hs1 : ¬ (N.length : Int) ≤ s := by omega
  have C3 := con3 (N.length : Int) N hN (fun q hq => by have := hrow q hq; omega)
  have R16 := r16 (s := s) (M := M) hN (by omega) hrow _ 0 rfl (by omega)
  rw [List.drop_zero] at R16
  by_cases he : N.any (fun w => w.any (bad (N.length : Int))) = true
  · refine ⟨2, ?_, ?_, fun h => absurd h (by decide)⟩
    · simp only [det_Check.f, if_neg h1, if_neg h2, if_neg h3, if_neg h4, if_pos h5]
      refine Ev.bind C1 ?_
      simp only [if_neg hb]
      refine Ev.bind (.all fun k => check2 k s _) ?_
      simp only [if_neg hs]
      refine Ev.bind C3 ?_
      simp only [if_pos he]; exact Ev.now _
    · simp only [evermoreref3_Check.f, if_neg h1, if_neg h2, if_neg h3, if_neg h4, if_pos h5]
      refine R9.2 hb' 2 ?_
      simp only [if_neg hs0, if_neg hs1]
      exact R16.1 he
  have he' := (Bool.not_eq_true _).mp he
  have C4 := con4 M (by omega)
  have R24 := r24 (A := A) (s := s) hN (show M.length = N.length by omega) _ 0 rfl (by omega)
  rw [List.drop_zero] at R24
  refine ⟨if M.any badM = true then 2 else 0, ?_, ?_, fun h => ?_⟩
  · simp only [det_Check.f, if_neg h1, if_neg h2, if_neg h3, if_neg h4, if_pos h5]
    refine Ev.bind C1 ?_
    simp only [if_neg hb]
    refine Ev.bind (.all fun k => check2 k s _) ?_
    simp only [if_neg hs]
    refine Ev.bind C3 ?_
    simp only [if_neg he]
    refine Ev.bind C4 ?_
    by_cases hm : M.any badM = true
    · simp only [if_pos hm]; exact Ev.now _
    · simp only [if_neg hm]; exact Ev.now _
  · simp only [evermoreref3_Check.f, if_neg h1, if_neg h2, if_neg h3, if_neg h4, if_pos h5]
    refine R9.2 hb' _ ?_
    simp only [if_neg hs0, if_neg hs1]
    exact R16.2 he' _ R24
  · by_cases hm : M.any badM = true
    · rw [if_pos hm] at h; exact absurd h (by decide)
    · have hm' := (Bool.not_eq_true _).mp hm
      refine ⟨by omega, by omega, by omega, hN, by omega, hrow, hs', fun q hq a ha => ?_, fun q hq => ?_⟩
      · have := any_at [] _ _ he' q hq
        have hr := hrow q hq
        exact bad_false (any_at 0 _ _ this a (by omega))
      · have := any_at 0 _ _ hm' q (by omega)
        rw [badM, Bool.not_eq_false', Bool.or_eq_true, decide_eq_true_iff, decide_eq_true_iff] at this
        exact this
end Go.Proofs.YtmagglebkbiffaaSx.DC
namespace Go.Proofs.YtmagglebkbiffaaSx.DC
theorem wrS (i : Nat) (h : i < 9223372036854775807) : Go.IntKind.i64.wrap ((i : Int) + 1) = ((i + 1 : Nat) : Int) := by rw [wr64] <;> omega
theorem getD_memI (w : List Int) (j : Nat) (h : j < w.length) : w.getD j 0 ∈ w := by
  rw [List.getD_eq_getElem?_getD, List.getElem?_eq_getElem h]; exact List.getElem_mem h
theorem getD_memW (w : List (List Int)) (j : Nat) (h : j < w.length) : w.getD j [] ∈ w := by
  rw [List.getD_eq_getElem?_getD, List.getElem?_eq_getElem h]; exact List.getElem_mem h
def afterN (N : List (List Int)) (q : Int) (w : List Int) : Int := w.foldl (fun q a => (N.getD q.toNat []).getD a.toNat 0) q
def WordOk (A : Int) (w : List Int) : Prop := ∀ x ∈ w, 0 ≤ x ∧ x < A
variable {A s : Int} {N : List (List Int)} {M : List Int}
theorem step_ok (F : Fit A s N M) {q x : Int} (hq : 0 ≤ q ∧ q < (N.length : Int)) (hx : 0 ≤ x ∧ x < A) : 0 ≤ (N.getD q.toNat []).getD x.toNat 0 ∧ (N.getD q.toNat []).getD x.toNat 0 < (N.length : Int) :=
  F.ent q.toNat (by omega) x.toNat (by omega)
theorem afterN_ok (F : Fit A s N M) : ∀ (w : List Int) (q : Int), WordOk A w → (0 ≤ q ∧ q < (N.length : Int)) → 0 ≤ afterN N q w ∧ afterN N q w < (N.length : Int)
  | [], q, _, hq => hq
  | a :: w, q, hw, hq => afterN_ok F w _ (fun x hx => hw x (List.mem_cons_of_mem _ hx)) (step_ok F hq (hw a List.mem_cons_self))
theorem afterN_app (q : Int) (u v : List Int) : afterN N q (u ++ v) = afterN N (afterN N q u) v := by rw [afterN, List.foldl_append]; rfl
theorem rafter_l2 (F : Fit A s N M) (w : List Int) (hw : WordOk A w) (hl : w.length ≤ 100000) : ∀ n i q, w.length - i = n → i ≤ w.length → (0 ≤ q ∧ q < (N.length : Int)) →
    Ev (fun k => evermoreref3_After.l2 k q w (i : Int) A s N M) (afterN N q (w.drop i)) := by
  intro n
  induction n with
  | zero =>
    intro i q hn hi hq
    rw [List.drop_eq_nil_of_le (by omega)]
    refine Ev.step (h := fun _ => some q) (fun k => ?_) (Ev.now _)
    rw [evermoreref3_After.l2, if_neg (by omega)]
  | succ n ih =>
    intro i q hn hi hq
    have hx := hw _ (getD_memI w i (by omega))
    have hrow := F.row q.toNat (by omega)
    have hrd : rd [] N q = N.getD q.toNat [] := rfl
    have c1 : (0 : Int) ≤ w.getD i (Int.ofNat 0) := hx.1
    have c2 : w.getD i (Int.ofNat 0) < (((N.getD q.toNat []).length : Nat) : Int) := by rw [hrow]; exact hx.2
    have h1 := ih (i + 1) ((N.getD q.toNat []).getD (w.getD i 0).toNat 0) (by omega) (by omega) (step_ok F hq hx)
    rw [drop_getD 0 w i (by omega)]
    refine Ev.step (fun k => ?_) h1
    rw [evermoreref3_After.l2, if_pos (by omega), if_pos (by omega), if_pos (by omega), if_pos (by omega), if_pos (by omega), rd_nat, if_pos c1, hrd, if_pos c2, wrSucc i (by omega)]
    rfl
theorem pafter_l2 (F : Fit A s N M) (w : List Int) (hw : WordOk A w) (hl : w.length ≤ 100000) : ∀ n i q, w.length - i = n → i ≤ w.length → (0 ≤ q ∧ q < (N.length : Int)) →
    Ev (fun k => det_After.l2 k q w (w.length : Int) (i : Int) A s N M) (afterN N q (w.drop i)) := by
  intro n
  induction n with
  | zero =>
    intro i q hn hi hq
    rw [List.drop_eq_nil_of_le (by omega)]
    refine Ev.step (h := fun _ => some q) (fun k => ?_) (Ev.now _)
    rw [det_After.l2, if_neg (by omega)]
  | succ n ih =>
    intro i q hn hi hq
    have hx := hw _ (getD_memI w i (by omega))
    have hrow := F.row q.toNat (by omega)
    have hrd : rd [] N q = N.getD q.toNat [] := rfl
    have c1 : (0 : Int) ≤ w.getD i (Int.ofNat 0) := hx.1
    have c2 : w.getD i (Int.ofNat 0) < (((N.getD q.toNat []).length : Nat) : Int) := by rw [hrow]; exact hx.2
    have h1 := ih (i + 1) ((N.getD q.toNat []).getD (w.getD i 0).toNat 0) (by omega) (by omega) (step_ok F hq hx)
    rw [drop_getD 0 w i (by omega)]
    refine Ev.step (fun k => ?_) h1
    rw [det_After.l2, if_pos (by omega), if_pos (by omega), if_pos (by omega), if_pos (by omega), if_pos (by omega), rd_nat, if_pos c1, hrd, if_pos c2, wrSucc i (by omega)]
    rfl
/-- Accepted. -/
def acc (s : Int) (N : List (List Int)) (M : List Int) (w : List Int) : Bool := decide (M.getD (afterN N s w).toNat 0 = 1)
theorem pafter_ev (F : Fit A s N M) (w : List Int) (hw : WordOk A w) (hl : w.length ≤ 100000) : Ev (fun k => det_After.f k (A, s, N, M, ()) s w) (afterN N s w) := by
  have := pafter_l2 F w hw hl _ 0 s rfl (by omega) F.s
  rw [List.drop_zero] at this; exact this
theorem racc_ev (F : Fit A s N M) (w : List Int) (hw : WordOk A w) (hl : w.length ≤ 100000) : Ev (fun k => evermoreref3_Accepts.f k (A, s, N, M, ()) w) (acc s N M w) := by
  have := rafter_l2 F w hw hl _ 0 s rfl (by omega) F.s
  rw [List.drop_zero] at this
  have hk := afterN_ok F w s hw F.s
  have hm := F.m
  simp only [evermoreref3_Accepts.f]
  refine Ev.bind this ?_
  simp only [if_pos hk.1, if_pos (show afterN N s w < (M.length : Int) by omega)]
  exact Ev.now _
theorem may_l6 (w : List Int) (hw : WordOk 4 w) (hl : w.length ≤ 60) : ∀ n i, w.length - i = n → i ≤ w.length → Ev (fun k => word_May.l6 k 4 w (w.length : Int) (i : Int)) 0 := by
  intro n
  induction n with
  | zero =>
    intro i hn hi
    refine Ev.step (h := fun _ => some 0) (fun k => ?_) (Ev.now _)
    rw [word_May.l6, if_neg (by omega)]
  | succ n ih =>
    intro i hn hi
    have hx := hw _ (getD_memI w i (by omega))
    have hr : rd (Int.ofNat 0) w (i : Int) = w.getD i 0 := rd_nat _ _ _
    refine Ev.step (fun k => ?_) (ih (i + 1) (by omega) (by omega))
    rw [word_May.l6, if_pos (by omega), if_pos (by omega), if_pos (by omega), hr, if_neg (by omega), if_neg (by omega), wrS i (by omega)]
theorem may4_ev (w : List Int) (hw : WordOk 4 w) (hl : w.length ≤ 60) : Ev (fun k => word_May.f k (Int.ofNat 4) w) 0 := by
  simp only [word_May.f, if_neg (show ¬ Int.ofNat 4 < 1 by decide), if_neg (show ¬ 4 < Int.ofNat 4 by decide), if_neg (show ¬ 60 < (w.length : Int) by omega)]
  exact may_l6 w hw hl _ 0 rfl (by omega)
/-! Within. -/
theorem sub_nil (v : List Int) : ([] : List Int).isSublist v = true := by cases v <;> rfl
theorem sub_none (a : Int) (u : List Int) : (a :: u).isSublist [] = false := rfl
theorem sub_cons (a b : Int) (u v : List Int) : (a :: u).isSublist (b :: v) = if a = b then u.isSublist v else (a :: u).isSublist v := by
  rw [List.isSublist]
  by_cases h : a = b
  · subst h; simp
  · simp [h]
theorem stands_l9 (u v : List Int) (hu : u.length ≤ 60) (hv : v.length ≤ 60) : ∀ n i pl, v.length - i = n → i ≤ v.length → pl.length ≤ i → pl.length ≤ u.length →
    ∃ e pl', Ev (fun k => higman_Stands.l9 k u v (v.length : Int) (i : Int) pl) ((u.drop pl.length).isSublist (v.drop i), e, pl') := by
  intro n
  induction n with
  | zero =>
    intro i pl hn hi hp hq
    rw [show v.drop i = [] from List.drop_eq_nil_of_le (by omega)]
    by_cases h : pl.length < u.length
    · refine ⟨0, [], Ev.step (h := fun _ => some (false, 0, [])) (fun k => ?_) ((Ev.now _).cast ?_)⟩
      · rw [higman_Stands.l9, if_neg (by omega), if_pos (by omega)]
      · rw [drop_getD 0 u _ h]; rfl
    · refine ⟨0, pl, Ev.step (h := fun _ => some (true, 0, pl)) (fun k => ?_) ((Ev.now _).cast ?_)⟩
      · rw [higman_Stands.l9, if_neg (by omega), if_neg (by omega)]
      · rw [List.drop_eq_nil_of_le (by omega)]; rfl
  | succ n ih =>
    intro i pl hn hi hp hq
    have e2 : rd (Int.ofNat 0) v (i : Int) = v.getD i 0 := rd_nat _ _ _
    have j13 : ∀ (p2 : List Int) k, higman_Stands.j13 (k + 1) u v (v.length : Int) (i : Int) p2 = higman_Stands.l9 k u v (v.length : Int) ((i + 1 : Nat) : Int) p2 := by
      intro p2 k; rw [higman_Stands.j13, wrS i (by omega)]
    rw [drop_getD 0 v i (by omega)]
    by_cases h : pl.length < u.length
    · have e1 : rd (Int.ofNat 0) u (pl.length : Int) = u.getD pl.length 0 := rd_nat _ _ _
      rw [drop_getD 0 u pl.length h, sub_cons]
      by_cases hc : u.getD pl.length 0 = v.getD i 0
      · have hl : (pl ++ [(i : Int)]).length = pl.length + 1 := by rw [List.length_append]; rfl
        obtain ⟨e, pl', h1⟩ := ih (i + 1) (pl ++ [(i : Int)]) (by omega) (by omega) (by omega) (by omega)
        rw [hl] at h1
        refine ⟨e, pl', Ev.step (h := fun k => higman_Stands.j13 k u v (v.length : Int) (i : Int) (pl ++ [(i : Int)])) (fun k => ?_) (Ev.step (j13 _) (h1.cast ?_))⟩
        · rw [higman_Stands.l9, if_pos (by omega), if_pos (by omega), if_pos (by omega), if_pos (by omega), if_pos (by omega), if_pos (by omega), e1, e2, if_pos hc, if_pos (fit1 _ (by omega))]
        · rw [if_pos hc]
      · obtain ⟨e, pl', h1⟩ := ih (i + 1) pl (by omega) (by omega) (by omega) (by omega)
        refine ⟨e, pl', Ev.step (h := fun k => higman_Stands.j13 k u v (v.length : Int) (i : Int) pl) (fun k => ?_) (Ev.step (j13 _) (h1.cast ?_))⟩
        · rw [higman_Stands.l9, if_pos (by omega), if_pos (by omega), if_pos (by omega), if_pos (by omega), if_pos (by omega), if_pos (by omega), e1, e2, if_neg hc]
        · rw [if_neg hc, drop_getD 0 u pl.length h]
    · obtain ⟨e, pl', h1⟩ := ih (i + 1) pl (by omega) (by omega) (by omega) (by omega)
      refine ⟨e, pl', Ev.step (h := fun k => higman_Stands.j13 k u v (v.length : Int) (i : Int) pl) (fun k => ?_) (Ev.step (j13 _) (h1.cast ?_))⟩
      · rw [higman_Stands.l9, if_pos (by omega), if_pos (by omega), if_pos (by omega), if_neg (by omega)]
      · rw [List.drop_eq_nil_of_le (by omega), sub_nil, sub_nil]
theorem pwithin_ev (u v : List Int) (hu : WordOk 4 u) (hv : WordOk 4 v) (lu : u.length ≤ 60) (lv : v.length ≤ 60) : Ev (fun k => higman_within.f k u v) (u.isSublist v) := by
  obtain ⟨e, pl, h⟩ := stands_l9 u v lu lv _ 0 [] rfl (by omega) (by simp) (by simp)
  simp only [higman_within.f, higman_Stands.f]
  refine Ev.bind (x := (u.isSublist v, e, pl)) ?_ (Ev.now _)
  have g0 : ([u, v] : List (List Int)).getD (((0 : Nat) : Int)).toNat [] = u := rfl
  have g1 : ([u, v] : List (List Int)).getD (((1 : Nat) : Int)).toNat [] = v := rfl
  have hl : (([u, v] : List (List Int)).length : Int) = 2 := rfl
  have m0 := may4_ev u hu lu
  have m1 := may4_ev v hv lv
  rw [hl]
  refine Ev.step (fun k => by rw [show (0 : Int) = ((0 : Nat) : Int) from rfl, higman_Stands.l2, if_pos (by decide), if_pos (by decide), if_pos (by rw [hl]; decide), g0]) (Ev.bind m0 ?_)
  simp only [if_true, show Go.IntKind.i64.wrap (((0 : Nat) : Int) + 1) = ((1 : Nat) : Int) from wrS 0 (by omega)]
  refine Ev.step (fun k => by rw [higman_Stands.l2, if_pos (by decide), if_pos (by decide), if_pos (by rw [hl]; decide), g1]) (Ev.bind m1 ?_)
  simp only [if_true, show Go.IntKind.i64.wrap (((1 : Nat) : Int) + 1) = ((2 : Nat) : Int) from wrS 1 (by omega)]
  refine Ev.step (fun k => by rw [higman_Stands.l2, if_neg (by decide)]) ?_
  exact h
theorem rwithin (u v : List Int) (hu : u.length ≤ 60) (hv : v.length ≤ 60) : ∀ n at_ i pl, v.length - at_ = n → at_ ≤ v.length → pl.length ≤ at_ →
    (i < u.length → ∃ pl', Ev (fun k => evermoreref32_Within.l6 k u v (at_ : Int) (i : Int) pl) ((u.drop i).isSublist (v.drop at_), pl')) ∧
    (i ≤ u.length → ∃ pl', Ev (fun k => evermoreref32_Within.l4 k u v (at_ : Int) (i : Int) pl) ((u.drop i).isSublist (v.drop at_), pl')) := by
  intro n
  induction n with
  | zero =>
    intro at_ i pl hn ha hp
    have h6 : i < u.length → ∃ pl', Ev (fun k => evermoreref32_Within.l6 k u v (at_ : Int) (i : Int) pl) ((u.drop i).isSublist (v.drop at_), pl') := by
      intro hi
      refine ⟨[], Ev.step (h := fun _ => some (false, [])) (fun k => ?_) ((Ev.now _).cast ?_)⟩
      · rw [evermoreref32_Within.l6, if_neg (by omega), if_pos (by omega)]
      · rw [show v.drop at_ = [] from List.drop_eq_nil_of_le (by omega), drop_getD 0 u i hi]; rfl
    refine ⟨h6, fun hi => ?_⟩
    by_cases h : i < u.length
    · obtain ⟨pl', h1⟩ := h6 h
      refine ⟨pl', Ev.step (fun k => ?_) h1⟩
      rw [evermoreref32_Within.l4, if_pos (by omega)]
    · refine ⟨pl, Ev.step (h := fun _ => some (true, pl)) (fun k => ?_) ((Ev.now _).cast ?_)⟩
      · rw [evermoreref32_Within.l4, if_neg (by omega)]
      · rw [show u.drop i = [] from List.drop_eq_nil_of_le (by omega), sub_nil]
  | succ n ih =>
    intro at_ i pl hn ha hp
    have h6 : i < u.length → ∃ pl', Ev (fun k => evermoreref32_Within.l6 k u v (at_ : Int) (i : Int) pl) ((u.drop i).isSublist (v.drop at_), pl') := by
      intro hi
      have e1 : rd (Int.ofNat 0) u (i : Int) = u.getD i 0 := rd_nat _ _ _
      have e2 : rd (Int.ofNat 0) v (at_ : Int) = v.getD at_ 0 := rd_nat _ _ _
      rw [drop_getD 0 u i hi, drop_getD 0 v at_ (by omega), sub_cons]
      by_cases hc : v.getD at_ 0 = u.getD i 0
      · have hl : (pl ++ [(at_ : Int)]).length = pl.length + 1 := by rw [List.length_append]; rfl
        obtain ⟨pl', h1⟩ := (ih (at_ + 1) (i + 1) (pl ++ [(at_ : Int)]) (by omega) (by omega) (by omega)).2 (by omega)
        refine ⟨pl', Ev.step (fun k => ?_) (h1.cast ?_)⟩
        · rw [evermoreref32_Within.l6, if_pos (by omega), if_pos (by omega), if_pos (by omega), if_pos (by omega), if_pos (by omega), e1, e2, if_pos hc, if_neg (by omega), if_pos (fit1 _ (by omega)), wrS at_ (by omega), wrS i (by omega)]
        · rw [if_pos hc.symm]
      · obtain ⟨pl', h1⟩ := (ih (at_ + 1) i pl (by omega) (by omega) (by omega)).1 hi
        refine ⟨pl', Ev.step (fun k => ?_) (h1.cast ?_)⟩
        · rw [evermoreref32_Within.l6, if_pos (by omega), if_pos (by omega), if_pos (by omega), if_pos (by omega), if_pos (by omega), e1, e2, if_neg hc, wrS at_ (by omega)]
        · rw [if_neg (fun h => hc h.symm), drop_getD 0 u i hi]
    refine ⟨h6, fun hi => ?_⟩
    by_cases h : i < u.length
    · obtain ⟨pl', h1⟩ := h6 h
      refine ⟨pl', Ev.step (fun k => ?_) h1⟩
      rw [evermoreref32_Within.l4, if_pos (by omega)]
    · refine ⟨pl, Ev.step (h := fun _ => some (true, pl)) (fun k => ?_) ((Ev.now _).cast ?_)⟩
      · rw [evermoreref32_Within.l4, if_neg (by omega)]
      · rw [show u.drop i = [] from List.drop_eq_nil_of_le (by omega), sub_nil]
theorem rwithin_ev (u v : List Int) (hu : u.length ≤ 60) (hv : v.length ≤ 60) : ∃ pl, Ev (fun k => evermoreref32_Within.f k u v) (u.isSublist v, pl) :=
  (rwithin u v hu hv _ 0 0 [] rfl (by omega) (by simp)).2 (by omega)
/-- Is a word above one of them? -/
def dom (out : List (List Int)) (w : List Int) : Bool := out.any fun u => u.isSublist w
theorem pcon (w : List Int) (hw : WordOk 4 w) (lw : w.length ≤ 60) (out : List (List Int)) (ho : ∀ u ∈ out, WordOk 4 u ∧ u.length ≤ 60) (hl : out.length ≤ 100000) : ∀ n i, out.length - i = n → i ≤ out.length →
    ∃ r, Ev (fun k => slices_IndexFunc_____int___int__3.l2 k out w (out.length : Int) (i : Int)) r ∧ decide (0 ≤ r) = dom (out.drop i) w := by
  intro n
  induction n with
  | zero =>
    intro i hn hi
    refine ⟨-1, Ev.step (h := fun _ => some (-1)) (fun k => ?_) (Ev.now _), ?_⟩
    · rw [slices_IndexFunc_____int___int__3.l2, if_neg (by omega)]
    · rw [List.drop_eq_nil_of_le (by omega)]; rfl
  | succ n ih =>
    intro i hn hi
    obtain ⟨r, h1, h2⟩ := ih (i + 1) (by omega) (by omega)
    have hu := ho _ (getD_memW out i (by omega))
    have e : rd [] out (i : Int) = out.getD i [] := rd_nat _ _ _
    have hw2 := pwithin_ev (out.getD i []) w hu.1 hw hu.2 lw
    have hstep : ∀ r2, Ev (fun k => if (out.getD i []).isSublist w = true then some (i : Int) else slices_IndexFunc_____int___int__3.l2 k out w (out.length : Int) ((i + 1 : Nat) : Int)) r2 → Ev (fun k => slices_IndexFunc_____int___int__3.l2 k out w (out.length : Int) (i : Int)) r2 := by
      intro r2 E
      refine Ev.step (fun k => by rw [slices_IndexFunc_____int___int__3.l2, if_pos (by omega), if_pos (by omega), if_pos (by omega), e, wrS i (by omega), higman_Least_1.f]) (Ev.bind (Ev.bind hw2 (Ev.now _)) ?_)
      exact E
    rw [drop_getD [] out i (by omega), dom, List.any_cons]
    by_cases hb : (out.getD i []).isSublist w = true
    · refine ⟨(i : Int), hstep _ ?_, ?_⟩
      · simp only [hb, if_true]; exact Ev.now _
      · rw [hb, Bool.true_or, decide_eq_true (by omega)]
    · refine ⟨r, hstep _ ?_, ?_⟩
      · simp only [hb, if_false]; exact h1
      · rw [h2, (Bool.not_eq_true _).mp hb, Bool.false_or]; rfl
theorem pcon_ev (w : List Int) (hw : WordOk 4 w) (lw : w.length ≤ 60) (out : List (List Int)) (ho : ∀ u ∈ out, WordOk 4 u ∧ u.length ≤ 60) (hl : out.length ≤ 100000) : Ev (fun k => slices_ContainsFunc_____int___int__3.f k out w) (dom out w) := by
  obtain ⟨r, h1, h2⟩ := pcon w hw lw out ho hl _ 0 rfl (by omega)
  simp only [slices_ContainsFunc_____int___int__3.f, slices_IndexFunc_____int___int__3.f]
  refine Ev.bind h1 ?_
  rw [List.drop_zero] at h2
  rw [h2]; exact Ev.now _
end Go.Proofs.YtmagglebkbiffaaSx.DC
namespace Go.Proofs.YtmagglebkbiffaaSx.DC
variable {A s : Int} {N : List (List Int)} {M : List Int}
/-! The word behind a word. -/
def nextR (A : Int) : List Int → List Int
  | [] => [0]
  | a :: r => if a < A - 1 then (a + 1) :: r else 0 :: nextR A r
def nextW (A : Int) (w : List Int) : List Int := (nextR A w.reverse).reverse
theorem nextW_app (w : List Int) (a : Int) : nextW A (w ++ [a]) = if a < A - 1 then w ++ [a + 1] else nextW A w ++ [0] := by
  rw [nextW, List.reverse_append, List.reverse_singleton, List.singleton_append, nextR]
  by_cases h : a < A - 1
  · rw [if_pos h, if_pos h, List.reverse_cons, List.reverse_reverse]
  · rw [if_neg h, if_neg h, List.reverse_cons]; rfl
theorem next_l3 (hA : 1 ≤ A ∧ A ≤ 4) : ∀ (r : List Int) (j : Nat), r.length + j ≤ 1000 → WordOk A r → Ev (fun k => evermoreref1_Next.l3 k A ((r.length : Int) - 1) (r.reverse ++ List.replicate j 0)) ((nextR A r).reverse ++ List.replicate j 0) := by
  have hwA : Go.IntKind.i64.wrap (A - 1) = A - 1 := by rw [wr64] <;> omega
  intro r
  induction r with
  | nil =>
    intro j hj hw
    refine Ev.step (h := fun _ => some (List.replicate j 0 ++ [(0 : Int)])) (fun k => ?_) ((Ev.now _).cast ?_)
    · rw [evermoreref1_Next.l3, if_neg (by simp), List.reverse_nil, List.nil_append]
      exact if_pos (fit1 _ (by simp; simp at hj; omega))
    · rw [nextR, List.reverse_singleton, ← List.replicate_succ', List.replicate_succ]; rfl
  | cons a r ih =>
    intro j hj hw
    have ha := hw a List.mem_cons_self
    have e0 : ((a :: r).length : Int) - 1 = (r.length : Int) := by rw [List.length_cons]; omega
    have hlen : ((a :: r).reverse ++ List.replicate j (0 : Int)).length = r.length + 1 + j := by simp; omega
    have hl1 : r.length < ((a :: r).reverse ++ List.replicate j (0 : Int)).length := by omega
    have hg : ((a :: r).reverse ++ List.replicate j (0 : Int)).getD ((r.length : Nat) : Int).toNat (Int.ofNat 0) = a := by
      rw [Int.toNat_natCast, List.reverse_cons, List.append_assoc, List.getD_eq_getElem?_getD, List.getElem?_append_right (by simp), List.length_reverse, Nat.sub_self]; rfl
    have hset : ∀ y : Int, ((a :: r).reverse ++ List.replicate j (0 : Int)).set ((r.length : Nat) : Int).toNat y = r.reverse ++ (y :: List.replicate j 0) := by
      intro y
      rw [Int.toNat_natCast, List.reverse_cons, List.append_assoc, List.set_append_right _ _ (by simp), List.length_reverse, Nat.sub_self]; rfl
    rw [List.length_cons] at hj
    rw [e0, nextR]
    by_cases h : a < A - 1
    · rw [if_pos h]
      refine Ev.step (h := fun _ => some (r.reverse ++ ((a + 1) :: List.replicate j 0))) (fun k => ?_) ((Ev.now _).cast ?_)
      · rw [evermoreref1_Next.l3, if_pos (by omega), if_pos (by omega), if_pos (by omega), hg, hwA, if_pos h, if_pos (by omega), if_pos (by omega), if_pos (by omega), if_pos (by omega), hset, show Go.IntKind.i64.wrap (a + 1) = a + 1 by rw [wr64] <;> omega]
      · rw [List.reverse_cons, List.append_assoc]; rfl
    · rw [if_neg h]
      have h1 := ih (j + 1) (by omega) (fun x hx => hw x (List.mem_cons_of_mem _ hx))
      refine Ev.step (fun k => ?_) (h1.cast ?_)
      · rw [evermoreref1_Next.l3, if_pos (by omega), if_pos (by omega), if_pos (by omega), hg, hwA, if_neg h, if_pos (by omega), if_pos (by omega), hset, show Go.IntKind.i64.wrap ((r.length : Int) - 1) = (r.length : Int) - 1 by rw [wr64] <;> omega, List.replicate_succ]; rfl
      · rw [List.reverse_cons, List.append_assoc, List.replicate_succ]; rfl
theorem next_ev (hA : 1 ≤ A ∧ A ≤ 4) (w : List Int) (hw : WordOk A w) (hl : w.length ≤ 900) : Ev (fun k => evermoreref1_Next.f k A w) (nextW A w) := by
  have h := next_l3 hA w.reverse 0 (by simp; omega) (fun x hx => hw x (List.mem_reverse.1 hx))
  rw [List.reverse_reverse, List.replicate_zero, List.append_nil, List.append_nil, List.length_reverse] at h
  have hwr : Go.IntKind.i64.wrap ((w.length : Int) - 1) = (w.length : Int) - 1 := by rw [wr64] <;> omega
  simp only [evermoreref1_Next.f, List.nil_append, if_pos (fit1 (b := 8) w.length (by omega)), hwr]
  exact h
/-! All words of so many letters, in order. -/
def chi (A : Int) (w : List Int) : List (List Int) := (List.range A.toNat).map fun a : Nat => w ++ [(a : Int)]
def allW (A : Int) : Nat → List (List Int)
  | 0 => [[]]
  | n + 1 => (allW A n).flatMap (chi A)
theorem chi_len (w : List Int) : (chi A w).length = A.toNat := by simp [chi]
theorem chi_mem {w v : List Int} : v ∈ chi A w ↔ ∃ a : Nat, a < A.toNat ∧ w ++ [(a : Int)] = v := by
  rw [chi, List.mem_map]
  constructor
  · rintro ⟨a, h1, h2⟩; exact ⟨a, List.mem_range.1 h1, h2⟩
  · rintro ⟨a, h1, h2⟩; exact ⟨a, List.mem_range.2 h1, h2⟩
theorem allW_ok : ∀ n, ∀ w ∈ allW A n, WordOk A w ∧ w.length = n
  | 0, w, h => by rw [allW, List.mem_singleton] at h; subst h; exact ⟨fun x hx => by simp at hx, rfl⟩
  | n + 1, w, h => by
    rw [allW, List.mem_flatMap] at h
    obtain ⟨u, hu, h⟩ := h
    obtain ⟨a, ha, rfl⟩ := chi_mem.1 h
    obtain ⟨h1, h2⟩ := allW_ok n u hu
    refine ⟨fun x hx => ?_, by rw [List.length_append, h2]; rfl⟩
    rcases List.mem_append.1 hx with hx | hx
    · exact h1 x hx
    · rw [List.mem_singleton] at hx; omega
theorem allW_mem (hA : 1 ≤ A) : ∀ n (w : List Int), WordOk A w → w.length = n → w ∈ allW A n := by
  intro n
  induction n with
  | zero => intro w _ hl; rw [allW, List.length_eq_zero_iff.1 hl]; simp
  | succ n ih =>
    intro w hw hl
    have hne : w ≠ [] := by intro h; rw [h] at hl; simp at hl
    rw [← List.dropLast_concat_getLast hne] at hw ⊢
    rw [allW, List.mem_flatMap]
    refine ⟨w.dropLast, ih _ (fun x hx => hw x (List.mem_append_left _ hx)) (by rw [List.length_dropLast]; omega), chi_mem.2 ⟨(w.getLast hne).toNat, ?_, ?_⟩⟩
    · have := hw (w.getLast hne) (List.mem_append_right _ (List.mem_singleton.2 rfl)); omega
    · have := hw (w.getLast hne) (List.mem_append_right _ (List.mem_singleton.2 rfl))
      rw [show (((w.getLast hne).toNat : Nat) : Int) = w.getLast hne by omega]
theorem flat_len (L : List (List Int)) : (L.flatMap (chi A)).length = L.length * A.toNat := by
  induction L with
  | nil => simp
  | cons a L ih => rw [List.flatMap_cons, List.length_append, ih, chi_len, List.length_cons, Nat.succ_mul]; omega
theorem allW_len (h4 : A ≤ 4) : ∀ n, (allW A n).length ≤ 4 ^ n
  | 0 => by simp [allW]
  | n + 1 => by
    have := allW_len h4 n
    rw [allW, flat_len, Nat.pow_succ]
    exact Nat.mul_le_mul this (by omega)
/-- The words of a list stand one behind another, from one on and up to the one behind them. -/
def RunTo (A : Int) : List Int → List (List Int) → List Int → Prop
  | s, [], e => s = e
  | s, w :: L, e => s = w ∧ RunTo A (nextW A w) L e
theorem RunTo.app : ∀ {L L' : List (List Int)} {s e e' : List Int}, RunTo A s L e → RunTo A e L' e' → RunTo A s (L ++ L') e'
  | [], L', s, e, e', h, h' => by rw [RunTo] at h; subst h; exact h'
  | w :: L, L', s, e, e', h, h' => ⟨h.1, h.2.app h'⟩
theorem run_chi (hA : 1 ≤ A) (w : List Int) : ∀ m a : Nat, A.toNat - a = m → a < A.toNat → RunTo A (w ++ [(a : Int)]) ((List.range' a m).map fun a : Nat => w ++ [(a : Int)]) (nextW A w ++ [0]) := by
  intro m
  induction m with
  | zero => intro a hm ha; omega
  | succ m ih =>
    intro a hm ha
    rw [List.range'_succ, List.map_cons]
    refine ⟨rfl, ?_⟩
    rw [nextW_app]
    by_cases h : a + 1 < A.toNat
    · rw [if_pos (by omega)]
      have := ih (a + 1) (by omega) h
      rw [show (((a + 1 : Nat)) : Int) = (a : Int) + 1 by omega] at this
      exact this
    · have : m = 0 := by omega
      subst this
      rw [if_neg (by omega)]; rfl
theorem run_flat (hA : 1 ≤ A) : ∀ {L : List (List Int)} {s e : List Int}, RunTo A s L e → RunTo A (s ++ [0]) (L.flatMap (chi A)) (e ++ [0])
  | [], s, e, h => by rw [RunTo] at h; subst h; rfl
  | w :: L, s, e, h => by
    obtain ⟨rfl, h⟩ := h
    rw [List.flatMap_cons]
    refine RunTo.app ?_ (run_flat hA h)
    have := run_chi hA s A.toNat 0 (by omega) (by omega)
    rw [chi, List.range_eq_range']
    exact this
theorem run_all (hA : 1 ≤ A) : ∀ n, RunTo A (List.replicate n 0) (allW A n) (List.replicate (n + 1) 0)
  | 0 => ⟨rfl, rfl⟩
  | n + 1 => by
    have := run_flat hA (run_all hA n)
    rw [← List.replicate_succ', ← List.replicate_succ'] at this
    exact this
/-! What is listed. -/
def st (s : Int) (N : List (List Int)) (M : List Int) (out : List (List Int)) (w : List Int) : List (List Int) := if acc s N M w = true ∧ dom out w = false then out ++ [w] else out
def Oo (out : List (List Int)) : Prop := ∀ u ∈ out, WordOk 4 u ∧ u.length ≤ 60
theorem wok4 (F : Fit A s N M) {w : List Int} (h : WordOk A w) : WordOk 4 w := fun x hx => by have := h x hx; have := F.a4; omega
theorem st_ok (F : Fit A s N M) {out : List (List Int)} (h : Oo out) {w : List Int} (hw : WordOk A w) (hl : w.length ≤ 60) : Oo (st s N M out w) := by
  unfold st; split
  · intro u hu
    rcases List.mem_append.1 hu with h' | h'
    · exact h u h'
    · rw [List.mem_singleton] at h'; subst h'; exact ⟨wok4 F hw, hl⟩
  · exact h
theorem st_len (out : List (List Int)) (w : List Int) : (st s N M out w).length ≤ out.length + 1 := by
  unfold st; split
  · rw [List.length_append, List.length_singleton]; omega
  · omega
theorem ref_l6 (F : Fit A s N M) (out : List (List Int)) (w : List Int) (ho : Oo out) (hl : out.length ≤ 100000) (hw : w.length ≤ 60) (R : List (List Int)) :
    ∀ n i is_, out.length - i = n → i ≤ out.length → Ev (fun k => evermoreref32_Least.j12 k w A s N M (if is_ = true ∧ dom (out.drop i) w = false then out ++ [w] else out)) R → Ev (fun k => evermoreref32_Least.l6 k is_ (i : Int) A s N M out w) R := by
  have fin : ∀ is_ : Bool, Ev (fun k => evermoreref32_Least.j12 k w A s N M (if is_ = true then out ++ [w] else out)) R → Ev (fun k => if is_ = true then (if fitsIn (out ++ [w]).length 24 = true then evermoreref32_Least.j12 k w A s N M (out ++ [w]) else none) else evermoreref32_Least.j12 k w A s N M out) R := by
    intro is_ E
    cases is_ with
    | true =>
      simp only [if_true] at E ⊢
      simp only [if_pos (fit1 (b := 24) (out ++ [w]).length (by rw [List.length_append, List.length_singleton]; omega))]
      exact E
    | false => simp only [Bool.false_eq_true, if_false] at E ⊢; exact E
  intro n
  induction n with
  | zero =>
    intro i is_ hn hi E
    rw [List.drop_eq_nil_of_le (by omega)] at E
    refine Ev.step (fun k => by rw [evermoreref32_Least.l6, if_neg (by omega)]) (fin is_ ?_)
    have : (is_ = true ∧ dom [] w = false) = (is_ = true) := by simp [dom]
    simp only [this] at E
    exact E
  | succ n ih =>
    intro i is_ hn hi E
    have hu := ho _ (getD_memW out i (by omega))
    obtain ⟨pl, hwi⟩ := rwithin_ev (out.getD i []) w hu.2 hw
    have hg : out.getD (i : Int).toNat [] = out.getD i [] := rfl
    rw [drop_getD [] out i (by omega)] at E
    cases is_ with
    | true =>
      refine Ev.step (fun k => by rw [evermoreref32_Least.l6, if_pos (by omega), if_pos rfl, if_pos (by omega), if_pos (by omega), hg, wrS i (by omega)]) (Ev.bind hwi ?_)
      refine ih (i + 1) (!(out.getD i []).isSublist w) (by omega) (by omega) ?_
      have e : (True ∧ dom (out.getD i [] :: out.drop (i + 1)) w = false) = ((!(out.getD i []).isSublist w) = true ∧ dom (out.drop (i + 1)) w = false) := by
        rw [dom, dom, List.any_cons]
        cases (out.getD i []).isSublist w <;> simp
      simp only [e] at E
      exact E
    | false =>
      simp only [Bool.false_eq_true, false_and, if_false] at E
      refine Ev.step (fun k => by rw [evermoreref32_Least.l6, if_pos (by omega), if_neg (by decide)]) ?_
      simp only [Bool.false_eq_true, if_false]
      exact E
theorem ref_step (F : Fit A s N M) (out : List (List Int)) (w : List Int) (ho : Oo out) (hl : out.length ≤ 100000) (hw : WordOk A w) (hlw : w.length < N.length) (h5 : N.length ≤ 5) (R : List (List Int))
    (E : Ev (fun k => evermoreref32_Least.l3 k A s N M (st s N M out w) (nextW A w)) R) : Ev (fun k => evermoreref32_Least.l3 k A s N M out w) R := by
  refine Ev.step (fun k => by rw [evermoreref32_Least.l3, if_pos (by omega)]) (Ev.bind (racc_ev F w hw (by omega)) ?_)
  refine ref_l6 F out w ho hl (by omega) R _ 0 _ rfl (by omega) ?_
  rw [List.drop_zero]
  refine Ev.step (fun k => by rw [evermoreref32_Least.j12]) (Ev.bind (next_ev ⟨F.a1, F.a4⟩ w hw (by omega)) ?_)
  exact E
theorem ref_level (F : Fit A s N M) (h5 : N.length ≤ 5) (R : List (List Int)) (e : List Int) : ∀ (L : List (List Int)) (w : List Int) (out : List (List Int)), RunTo A w L e → (∀ v ∈ L, WordOk A v ∧ v.length < N.length) → Oo out → out.length + L.length ≤ 100000 →
    Ev (fun k => evermoreref32_Least.l3 k A s N M (L.foldl (st s N M) out) e) R → Ev (fun k => evermoreref32_Least.l3 k A s N M out w) R
  | [], w, out, hr, _, _, _, E => by rw [RunTo] at hr; subst hr; exact E
  | v :: L, w, out, hr, hv, ho, hl, E => by
    obtain ⟨rfl, hr⟩ := hr
    have h1 := hv w List.mem_cons_self
    rw [List.length_cons] at hl
    have h2 := st_len (s := s) (N := N) (M := M) out w
    refine ref_step F out w ho (by omega) h1.1 h1.2 h5 R ?_
    exact ref_level F h5 R e L _ _ hr (fun x hx => hv x (List.mem_cons_of_mem _ hx)) (st_ok F ho h1.1 (by omega)) (by omega) E
/-! The program's rows. -/
inductive Sb (out : List (List Int)) : List (List Int) → List (List Int) → Prop
  | nil : Sb out [] []
  | keep {w W Q} : Sb out W Q → Sb out (w :: W) (w :: Q)
  | skip {w W Q} : dom out w = true → Sb out W Q → Sb out (w :: W) Q
theorem dom_iff {out : List (List Int)} {w : List Int} : dom out w = true ↔ ∃ u ∈ out, u.Sublist w := by
  rw [dom, List.any_eq_true]
  constructor
  · rintro ⟨u, h1, h2⟩; exact ⟨u, h1, List.isSublist_iff_sublist.1 h2⟩
  · rintro ⟨u, h1, h2⟩; exact ⟨u, h1, List.isSublist_iff_sublist.2 h2⟩
theorem dom_mono {out out' : List (List Int)} (h : ∀ u ∈ out, u ∈ out') {w v : List Int} (hw : w.Sublist v) (hd : dom out w = true) : dom out' v = true := by
  obtain ⟨u, h1, h2⟩ := dom_iff.1 hd
  exact dom_iff.2 ⟨u, h u h1, h2.trans hw⟩
theorem st_sub (out : List (List Int)) (w : List Int) : ∀ u ∈ out, u ∈ st s N M out w := by
  intro u hu; unfold st; split
  · exact List.mem_append_left _ hu
  · exact hu
theorem fold_sub : ∀ (L out : List (List Int)), ∀ u ∈ out, u ∈ L.foldl (st s N M) out
  | [], out, u, hu => hu
  | w :: L, out, u, hu => fold_sub L _ u (st_sub out w u hu)
theorem Sb.mono {out out' : List (List Int)} (h : ∀ u ∈ out, u ∈ out') {W Q : List (List Int)} (H : Sb out W Q) : Sb out' W Q := by
  induction H with
  | nil => exact .nil
  | keep _ ih => exact .keep ih
  | skip hd _ ih => exact .skip (dom_mono h (List.Sublist.refl _) hd) ih
theorem Sb.fold {W Q : List (List Int)} : ∀ {out}, Sb out W Q → W.foldl (st s N M) out = Q.foldl (st s N M) out := by
  induction W generalizing Q with
  | nil => intro out H; cases H; rfl
  | cons w W ih =>
    intro out H
    cases H with
    | keep H => exact ih (H.mono (st_sub out w))
    | skip hd H =>
      have : st s N M out w = out := by unfold st; rw [if_neg]; rintro ⟨_, h⟩; rw [hd] at h; cases h
      rw [List.foldl_cons, this]; exact ih H
theorem Sb.app {out : List (List Int)} {W Q W' Q' : List (List Int)} (H : Sb out W Q) (H' : Sb out W' Q') : Sb out (W ++ W') (Q ++ Q') := by
  induction H with
  | nil => exact H'
  | keep _ ih => exact .keep ih
  | skip hd _ ih => exact .skip hd ih
theorem Sb.refl (out : List (List Int)) : ∀ W, Sb out W W
  | [] => .nil
  | w :: W => .keep (Sb.refl out W)
theorem Sb.none {out : List (List Int)} : ∀ {W : List (List Int)}, (∀ w ∈ W, dom out w = true) → Sb out W []
  | [], _ => .nil
  | w :: W, h => .skip (h w List.mem_cons_self) (Sb.none fun x hx => h x (List.mem_cons_of_mem _ hx))
theorem Sb.len {out : List (List Int)} {W Q : List (List Int)} (H : Sb out W Q) : Q.length ≤ W.length ∧ ∀ w ∈ Q, w ∈ W := by
  induction H with
  | nil => exact ⟨Nat.le_refl _, fun _ h => h⟩
  | keep _ ih =>
    refine ⟨by simp only [List.length_cons]; omega, fun w hw => ?_⟩
    rcases List.mem_cons.1 hw with h | h
    · exact h ▸ List.mem_cons_self
    · exact List.mem_cons_of_mem _ (ih.2 w h)
  | skip _ _ ih => exact ⟨by simp only [List.length_cons]; omega, fun w hw => List.mem_cons_of_mem _ (ih.2 w hw)⟩
/-- The words that are gone on with. -/
def nxt (s : Int) (N : List (List Int)) (M : List Int) (A : Int) : List (List Int) → List (List Int) → List (List Int)
  | [], _ => []
  | w :: Q, out => if dom out w = true then nxt s N M A Q out else if acc s N M w = true then nxt s N M A Q (out ++ [w]) else chi A w ++ nxt s N M A Q out
theorem sub_chi {w v : List Int} (h : v ∈ chi A w) : w.Sublist v := by
  obtain ⟨a, _, rfl⟩ := chi_mem.1 h
  exact List.sublist_append_left _ _
theorem Sb.next {W Q : List (List Int)} : ∀ {out}, Sb out W Q → Sb (Q.foldl (st s N M) out) (W.flatMap (chi A)) (nxt s N M A Q out) := by
  induction W generalizing Q with
  | nil => intro out H; cases H; exact .nil
  | cons w W ih =>
    intro out H
    rw [List.flatMap_cons]
    cases H with
    | skip hd H =>
      have := Sb.none (W := chi A w) (out := Q.foldl (st s N M) out) (fun v hv => dom_mono (fold_sub Q out) (sub_chi hv) hd)
      exact this.app (ih H)
    | @keep _ _ Q H =>
      rw [nxt, List.foldl_cons]
      by_cases hd : dom out w = true
      · have hst : st s N M out w = out := by unfold st; rw [if_neg]; rintro ⟨_, h⟩; rw [hd] at h; cases h
        rw [if_pos hd, hst]
        have := Sb.none (W := chi A w) (out := Q.foldl (st s N M) out) (fun v hv => dom_mono (fold_sub Q out) (sub_chi hv) hd)
        exact this.app (ih H)
      · rw [if_neg hd]
        have hd' := (Bool.not_eq_true _).mp hd
        by_cases ha : acc s N M w = true
        · have hst : st s N M out w = out ++ [w] := by unfold st; rw [if_pos ⟨ha, hd'⟩]
          rw [if_pos ha, hst]
          have := Sb.none (W := chi A w) (out := Q.foldl (st s N M) (out ++ [w])) (fun v hv => dom_iff.2 ⟨w, fold_sub Q _ w (List.mem_append_right _ (List.mem_singleton.2 rfl)), sub_chi hv⟩)
          exact this.app (ih (H.mono fun u hu => List.mem_append_left _ hu))
        · have hst : st s N M out w = out := by unfold st; rw [if_neg]; rintro ⟨h, _⟩; exact ha h
          rw [if_neg ha, hst]
          exact (Sb.refl _ _).app (ih H)
end Go.Proofs.YtmagglebkbiffaaSx.DC
namespace Go.Proofs.YtmagglebkbiffaaSx.DC
variable {A s : Int} {N : List (List Int)} {M : List Int}
abbrev RH := Int × List (List Int)
theorem tail1 (Q : List (List Int)) : List.take (((Q.length : Nat) : Int).toNat - Int.toNat 1) (List.drop (Int.toNat 1) Q) = Q.drop 1 := by
  show List.take (Q.length - 1) (List.drop 1 Q) = Q.drop 1
  rw [List.take_of_length_le (by rw [List.length_drop]; omega)]
theorem clone_ev (b : List Int) (h : b.length < 1000000000) (k : Nat) : slices_Clone___int_int_.f k b = some b := by
  rw [slices_Clone___int_int_.f]; exact if_pos (short _ h)
/-- The letters behind a word that is gone on with. -/
theorem p_l13 (F : Fit A s N M) (w : List Int) (hw : w.length ≤ 60) (out Q : List (List Int)) (hl : Q.length ≤ 100000) (h1 : 1 ≤ Q.length) (R : RH) : ∀ n a : Nat, A.toNat - a = n → a ≤ A.toNat → ∀ T : List (List Int), T.length ≤ 100000 + a → 1 ≤ T.length →
    Ev (fun k => higman_Least.l6 k A s N M out ((T ++ (List.range' a n).map fun a : Nat => w ++ [(a : Int)]).drop 1)) R → Ev (fun k => higman_Least.l13 k A (a : Int) A s N M out T w) R := by
  have a4 := F.a4
  intro n
  induction n with
  | zero =>
    intro a hn ha T hT hT1 E
    rw [List.range'_zero, List.map_nil, List.append_nil] at E
    refine Ev.step (fun k => ?_) E
    rw [higman_Least.l13, if_neg (by omega), if_pos (by decide), if_pos (by omega), if_pos (by omega), tail1]
  | succ n ih =>
    intro a hn ha T hT hT1 E
    have hc : Ev (fun k => slices_Clone___int_int_.f k w) w := Ev.all (clone_ev w (by omega))
    refine Ev.step (fun k => by rw [higman_Least.l13, if_pos (by omega)]) (Ev.bind hc ?_)
    simp only [if_pos (fit1 (b := 8) (w ++ [(a : Int)]).length (by rw [List.length_append, List.length_singleton]; omega)), if_pos (fit1 (b := 24) (T ++ [w ++ [(a : Int)]]).length (by rw [List.length_append, List.length_singleton]; omega)), wrS a (by omega)]
    refine ih (a + 1) (by omega) (by omega) (T ++ [w ++ [(a : Int)]]) (by rw [List.length_append, List.length_singleton]; omega) (by rw [List.length_append, List.length_singleton]; omega) ?_
    rw [List.append_assoc, List.singleton_append]
    rw [List.range'_succ, List.map_cons] at E
    exact E
theorem p_step (F : Fit A s N M) (h5 : N.length ≤ 5) (w : List Int) (hw : WordOk A w) (hlw : w.length < N.length) (out T : List (List Int)) (ho : Oo out) (hl : out.length ≤ 90000) (hT : T.length ≤ 90000) (R : RH)
    (E : Ev (fun k => higman_Least.l6 k A s N M (st s N M out w) (T ++ (if dom out w = true then [] else if acc s N M w = true then [] else chi A w))) R) : Ev (fun k => higman_Least.l6 k A s N M out (w :: T)) R := by
  have hk := afterN_ok F w s hw F.s
  have hm := F.m
  have a1 := F.a1
  have hg : (w :: T).getD (Int.toNat 0) [] = w := rfl
  have hlen : ((w :: T).length : Int) = (T.length : Int) + 1 := by rw [List.length_cons]; omega
  refine Ev.step (fun k => by rw [higman_Least.l6, if_pos (by omega), if_pos (by decide), if_pos (by omega), hg, if_pos (by omega), if_pos (by decide), if_pos (by omega)]) (Ev.bind (pcon_ev w (wok4 F hw) (by omega) out ho (by omega)) ?_)
  have hp : ∀ x : Prop, ∀ d : Decidable x, x → True := fun _ _ _ => trivial
  by_cases hd : dom out w = true
  · have hst : st s N M out w = out := by unfold st; rw [if_neg]; rintro ⟨_, h⟩; rw [hd] at h; cases h
    rw [if_pos hd, hst, List.append_nil] at E
    simp only [hd, if_true, if_pos (show (0 : Int) ≤ 1 by decide), if_pos (show (1 : Int) ≤ ((w :: T).length : Int) by omega), if_pos (show ((w :: T).length : Int) ≤ ((w :: T).length : Int) by omega), tail1]
    exact E
  · rw [if_neg hd] at E
    simp only [hd, if_false]
    refine Ev.bind (pafter_ev F w hw (by omega)) ?_
    simp only [if_pos hk.1, if_pos (show afterN N s w < (M.length : Int) by omega)]
    by_cases ha : acc s N M w = true
    · have hst : st s N M out w = out ++ [w] := by unfold st; rw [if_pos ⟨ha, (Bool.not_eq_true _).mp hd⟩]
      have ha' : rd (Int.ofNat 0) M (afterN N s w) = 1 := of_decide_eq_true ha
      rw [if_pos ha, hst, List.append_nil] at E
      simp only [if_pos ha', if_pos (fit1 (b := 24) (out ++ [w]).length (by rw [List.length_append, List.length_singleton]; omega)), if_pos (show (0 : Int) ≤ 1 by decide), if_pos (show (1 : Int) ≤ ((w :: T).length : Int) by omega), if_pos (show ((w :: T).length : Int) ≤ ((w :: T).length : Int) by omega), tail1]
      exact E
    · have hst : st s N M out w = out := by unfold st; rw [if_neg]; rintro ⟨h, _⟩; exact ha h
      have ha' : ¬ rd (Int.ofNat 0) M (afterN N s w) = 1 := fun h => ha (decide_eq_true h)
      rw [if_neg ha, hst] at E
      simp only [if_neg ha']
      refine p_l13 F w (by omega) out (w :: T) (by rw [List.length_cons]; omega) (by simp) R A.toNat 0 (by omega) (by omega) (w :: T) (by rw [List.length_cons]; omega) (by simp) ?_
      rw [List.cons_append, List.drop_succ_cons, List.drop_zero, ← List.range_eq_range']
      exact E
theorem p_level (F : Fit A s N M) (h5 : N.length ≤ 5) (R : RH) : ∀ (Q T out : List (List Int)), (∀ v ∈ Q, WordOk A v ∧ v.length < N.length) → Oo out → out.length + Q.length ≤ 80000 → T.length + 5 * Q.length ≤ 80000 →
    Ev (fun k => higman_Least.l6 k A s N M (Q.foldl (st s N M) out) (T ++ nxt s N M A Q out)) R → Ev (fun k => higman_Least.l6 k A s N M out (Q ++ T)) R
  | [], T, out, _, _, _, _, E => by rw [nxt, List.append_nil] at E; exact E
  | w :: Q, T, out, hv, ho, hl, hT, E => by
    have h1 := hv w List.mem_cons_self
    have a4 := F.a4
    rw [List.length_cons] at hl hT
    have h2 := st_len (s := s) (N := N) (M := M) out w
    refine p_step F h5 w h1.1 h1.2 out (Q ++ T) ho (by omega) (by rw [List.length_append]; omega) R ?_
    rw [List.append_assoc]
    refine p_level F h5 R Q _ _ (fun x hx => hv x (List.mem_cons_of_mem _ hx)) (st_ok F ho h1.1 (by omega)) (by omega) ?_ ?_
    · rw [List.length_append]
      have : (if dom out w = true then ([] : List (List Int)) else if acc s N M w = true then [] else chi A w).length ≤ 4 := by
        split
        · simp
        · split
          · simp
          · rw [chi_len]; omega
      omega
    · rw [nxt, List.foldl_cons] at E
      rw [List.append_assoc]
      by_cases hd : dom out w = true
      · have hst : st s N M out w = out := by unfold st; rw [if_neg]; rintro ⟨_, h⟩; rw [hd] at h; cases h
        rw [if_pos hd] at E ⊢
        rw [hst] at E ⊢; exact E
      · rw [if_neg hd] at E ⊢
        by_cases ha : acc s N M w = true
        · have hst : st s N M out w = out ++ [w] := by unfold st; rw [if_pos ⟨ha, (Bool.not_eq_true _).mp hd⟩]
          rw [if_pos ha] at E ⊢
          rw [hst] at E ⊢; exact E
        · have hst : st s N M out w = out := by unfold st; rw [if_neg]; rintro ⟨h, _⟩; exact ha h
          rw [if_neg ha] at E ⊢
          rw [hst] at E ⊢; exact E
/-- What is listed behind words of so many letters. -/
def lst (s : Int) (N : List (List Int)) (M : List Int) (A : Int) (n : Nat) : List (List Int) := (List.range n).foldl (fun out l => (allW A l).foldl (st s N M) out) []
theorem lst_succ (n : Nat) : lst s N M A (n + 1) = (allW A n).foldl (st s N M) (lst s N M A n) := by rw [lst, List.range_succ, List.foldl_append]; rfl
theorem fold_ok (F : Fit A s N M) : ∀ (L out : List (List Int)), (∀ v ∈ L, WordOk A v ∧ v.length ≤ 60) → Oo out → Oo (L.foldl (st s N M) out)
  | [], out, _, h => h
  | w :: L, out, hv, h => fold_ok F L _ (fun x hx => hv x (List.mem_cons_of_mem _ hx)) (st_ok F h (hv w List.mem_cons_self).1 (hv w List.mem_cons_self).2)
theorem fold_len : ∀ (L out : List (List Int)), (L.foldl (st s N M) out).length ≤ out.length + L.length
  | [], out => by simp
  | w :: L, out => by
    have := fold_len L (st s N M out w)
    have := st_len (s := s) (N := N) (M := M) out w
    rw [List.foldl_cons, List.length_cons]; omega
theorem pow4 {n : Nat} (h : n ≤ 5) : 4 ^ n ≤ 1024 := Nat.pow_le_pow_right (n := 4) (by omega) h
theorem lst_ok (F : Fit A s N M) : ∀ n, n ≤ 6 → Oo (lst s N M A n) ∧ (lst s N M A n).length ≤ 1024 * n
  | 0, _ => ⟨fun u hu => by simp [lst] at hu, by simp [lst]⟩
  | n + 1, h => by
    obtain ⟨h1, h2⟩ := lst_ok F n (by omega)
    rw [lst_succ]
    refine ⟨fold_ok F _ _ (fun v hv => ?_) h1, ?_⟩
    · have := allW_ok n v hv; exact ⟨this.1, by omega⟩
    · have := fold_len (s := s) (N := N) (M := M) (allW A n) (lst s N M A n)
      have := allW_len F.a4 n
      have := pow4 (n := n) (by omega)
      omega
theorem ref_all (F : Fit A s N M) (h5 : N.length ≤ 5) : ∀ m n, N.length - n = m → n ≤ N.length → Ev (fun k => evermoreref32_Least.l3 k A s N M (lst s N M A n) (List.replicate n 0)) (lst s N M A N.length) := by
  intro m
  induction m with
  | zero =>
    intro n hm hn
    have : n = N.length := by omega
    subst this
    refine Ev.step (h := fun _ => some (lst s N M A N.length)) (fun k => ?_) (Ev.now _)
    rw [evermoreref32_Least.l3, if_neg (by rw [List.length_replicate]; omega)]
  | succ m ih =>
    intro n hm hn
    obtain ⟨h1, h2⟩ := lst_ok F n (by omega)
    have h3 := allW_len F.a4 n
    have h4 := pow4 (n := n) (by omega)
    refine ref_level F h5 _ _ _ _ _ (run_all F.a1 n) (fun v hv => ?_) h1 (by omega) ?_
    · have := allW_ok n v hv; exact ⟨this.1, by omega⟩
    · rw [← lst_succ]; exact ih (n + 1) (by omega) (by omega)
/-- When nothing is gone on with nothing is listed any more. -/
theorem lst_stop : ∀ m n, Sb (lst s N M A n) (allW A n) [] → lst s N M A (n + m) = lst s N M A n
  | 0, n, _ => rfl
  | m + 1, n, h => by
    have h1 : lst s N M A (n + 1) = lst s N M A n := by rw [lst_succ, h.fold]; rfl
    have h2 : Sb (lst s N M A (n + 1)) (allW A (n + 1)) [] := by
      have := h.next (s := s) (N := N) (M := M) (A := A)
      rw [h1]; exact this
    have := lst_stop m (n + 1) h2
    rw [← h1, ← this]; congr 1; omega
theorem p_all (F : Fit A s N M) (h5 : N.length ≤ 5) : ∀ m n Q, N.length - n = m → n ≤ N.length → Sb (lst s N M A n) (allW A n) Q → Ev (fun k => higman_Least.l6 k A s N M (lst s N M A n) Q) (0, lst s N M A N.length) := by
  intro m
  induction m with
  | zero =>
    intro n Q hm hn H
    have : n = N.length := by omega
    subst this
    refine Ev.step (h := fun _ => some (0, lst s N M A N.length)) (fun k => ?_) (Ev.now _)
    cases Q with
    | nil => rw [higman_Least.l6, if_neg (by simp)]
    | cons w Q =>
      have hg : (w :: Q).getD (Int.toNat 0) [] = w := rfl
      have hlen : ((w :: Q).length : Int) = (Q.length : Int) + 1 := by rw [List.length_cons]; omega
      have hw := (allW_ok _ w (H.len.2 w List.mem_cons_self)).2
      rw [higman_Least.l6, if_pos (by omega), if_pos (by decide), if_pos (by omega), hg, if_neg (by omega)]
  | succ m ih =>
    intro n Q hm hn H
    obtain ⟨h1, h2⟩ := lst_ok F n (by omega)
    have h3 := allW_len F.a4 n
    have h4 := pow4 (n := n) (by omega)
    have hl := H.len.1
    have hok : ∀ v ∈ Q, WordOk A v ∧ v.length < N.length := fun v hv => by
      have := allW_ok n v (H.len.2 v hv); exact ⟨this.1, by omega⟩
    have := p_level F h5 (0, lst s N M A N.length) Q [] (lst s N M A n) hok h1 (by omega) (by simp; omega) (by
      rw [List.nil_append, ← H.fold, ← lst_succ]
      refine ih (n + 1) _ (by omega) (by omega) ?_
      have := H.next (s := s) (N := N) (M := M) (A := A)
      rw [← H.fold, ← lst_succ] at this
      exact this)
    rw [List.append_nil] at this
    exact this
/-! Each accepted word is above a listed one. -/
theorem fold_has (w : List Int) (ha : acc s N M w = true) : ∀ (L out : List (List Int)), w ∈ L → dom (L.foldl (st s N M) out) w = true
  | [], out, h => by simp at h
  | v :: L, out, h => by
    rcases List.mem_cons.1 h with h | h
    · subst h
      have : dom (st s N M out w) w = true := by
        by_cases hd : dom out w = true
        · exact dom_mono (st_sub out w) (List.Sublist.refl _) hd
        · have hst : st s N M out w = out ++ [w] := by unfold st; rw [if_pos ⟨ha, (Bool.not_eq_true _).mp hd⟩]
          rw [hst]; exact dom_iff.2 ⟨w, List.mem_append_right _ (List.mem_singleton.2 rfl), List.Sublist.refl _⟩
      exact dom_mono (fold_sub L _) (List.Sublist.refl _) this
    · exact fold_has w ha L _ h
theorem lst_sub (n : Nat) : ∀ m, ∀ u ∈ lst s N M A n, u ∈ lst s N M A (n + m)
  | 0, u, h => h
  | m + 1, u, h => by
    rw [← Nat.add_assoc, lst_succ]; exact fold_sub _ _ u (lst_sub n m u h)
theorem nodup_nat (n : Nat) : ∀ l : List Nat, l.Nodup → (∀ x ∈ l, x < n) → l.length ≤ n := by
  intro l hn hl
  have := List.Nodup.length_le_of_subset hn (fun x hx => List.mem_range.2 (hl x hx))
  rw [List.length_range] at this; exact this
theorem lst_has (F : Fit A s N M) : ∀ (l : Nat) (w : List Int), w.length = l → WordOk A w → acc s N M w = true → dom (lst s N M A N.length) w = true := by
  intro l
  induction l using Nat.strongRecOn with
  | _ l ih =>
    intro w hl hw ha
    by_cases h : w.length < N.length
    · have h1 := fold_has w ha (allW A w.length) (lst s N M A w.length) (allW_mem F.a1 _ w hw rfl)
      rw [← lst_succ] at h1
      refine dom_mono (fun u hu => ?_) (List.Sublist.refl _) h1
      have := lst_sub (s := s) (N := N) (M := M) (A := A) (w.length + 1) (N.length - (w.length + 1)) u hu
      rw [show w.length + 1 + (N.length - (w.length + 1)) = N.length by omega] at this
      exact this
    · -- two places in one state
      have hex : ∃ i j, i < j ∧ j ≤ N.length ∧ afterN N s (w.take i) = afterN N s (w.take j) := by
        refine Classical.byContradiction fun hno => ?_
        have hnd : ((List.range (N.length + 1)).map fun i => (afterN N s (w.take i)).toNat).Nodup := by
          unfold List.Nodup
          rw [List.pairwise_map]
          refine List.Pairwise.imp_of_mem (fun {i j} hi hj hij e => hno ⟨i, j, hij, by have := List.mem_range.1 hj; omega, ?_⟩) List.pairwise_lt_range
          have h1 := afterN_ok F (w.take i) s (fun x hx => hw x (List.mem_of_mem_take hx)) F.s
          have h2 := afterN_ok F (w.take j) s (fun x hx => hw x (List.mem_of_mem_take hx)) F.s
          omega
        have hle := nodup_nat N.length _ hnd (fun x hx => by
          obtain ⟨i, _, rfl⟩ := List.mem_map.1 hx
          have h1 := afterN_ok F (w.take i) s (fun x hx => hw x (List.mem_of_mem_take hx)) F.s
          omega)
        rw [List.length_map, List.length_range] at hle
        omega
      obtain ⟨i, j, hij, hj, he⟩ := hex
      have hsub : (w.take i ++ w.drop j).Sublist w := by
        conv => rhs; rw [← List.take_append_drop j w]
        refine List.Sublist.append ?_ (List.Sublist.refl _)
        have : w.take i = (w.take j).take i := by rw [List.take_take, Nat.min_eq_left (by omega)]
        rw [this]; exact List.take_sublist _ _
      have hacc : acc s N M (w.take i ++ w.drop j) = true := by
        rw [acc, afterN_app, he, ← afterN_app, List.take_append_drop]; exact ha
      have hlen : (w.take i ++ w.drop j).length < l := by rw [List.length_append, List.length_take, List.length_drop]; omega
      exact dom_mono (fun u hu => hu) hsub (ih _ hlen _ rfl (fun x hx => hw x (hsub.subset hx)) hacc)
end Go.Proofs.YtmagglebkbiffaaSx.DC
namespace Go.Proofs.YtmagglebkbiffaaSx.DC
variable {A s : Int} {N : List (List Int)} {M : List Int}
theorem words_l4 (a b : List Int) (ha : a.length ≤ 100000) (hb : a.length = b.length) : ∀ n i, a.length - i = n → i ≤ a.length → Ev (fun k => evermoreref1_Words.l4 k a b (i : Int)) (decide (a.drop i = b.drop i)) := by
  intro n
  induction n with
  | zero =>
    intro i hn hi
    refine Ev.step (fun k => by rw [evermoreref1_Words.l4]) ?_
    simp only [if_neg (show ¬ (i : Int) < (a.length : Int) by omega)]
    rw [List.drop_eq_nil_of_le (by omega), List.drop_eq_nil_of_le (by omega)]; exact Ev.now _
  | succ n ih =>
    intro i hn hi
    refine Ev.step (fun k => by rw [evermoreref1_Words.l4]) ?_
    simp only [if_pos (show (i : Int) < (a.length : Int) by omega), if_pos (show (0 : Int) ≤ (i : Int) by omega), if_pos (show (i : Int) < (b.length : Int) by omega), rd_nat, wrS i (by omega)]
    rw [drop_getD (Int.ofNat 0) a i (by omega), drop_getD (Int.ofNat 0) b i (by omega)]
    by_cases h1 : a.getD i (Int.ofNat 0) = b.getD i (Int.ofNat 0)
    · simp only [if_pos h1]; refine (ih (i + 1) (by omega) (by omega)).cast ?_; simp only [List.cons.injEq, h1, true_and]
    · simp only [if_neg h1]; refine (Ev.now _).cast ?_; simp only [List.cons.injEq, h1, false_and, decide_false]
theorem words_ev (a b : List Int) (ha : a.length ≤ 100000) : Ev (fun k => evermoreref1_Words.f k a b) (decide (a = b)) := by
  by_cases h : a.length = b.length
  · simp only [evermoreref1_Words.f, if_pos (show (a.length : Int) = (b.length : Int) by omega)]
    exact words_l4 a b ha h _ 0 rfl (by omega)
  · simp only [evermoreref1_Words.f, if_neg (show ¬ (a.length : Int) = (b.length : Int) by omega)]
    exact (Ev.now _).cast (decide_eq_false (fun e => h (congrArg _ e))).symm
theorem same_l4 (W : List (List Int)) (hW : W.length ≤ 100000) (hr : ∀ w ∈ W, w.length ≤ 100000) : ∀ m i, W.length - i = m → i ≤ W.length → Ev (fun k => evermorelaw_sameLists.l4 k W W (i : Int)) true := by
  intro m
  induction m with
  | zero =>
    intro i hm hi
    refine Ev.step (h := fun _ => some true) (fun k => ?_) (Ev.now _)
    rw [evermorelaw_sameLists.l4, if_neg (by omega)]
  | succ m ih =>
    intro i hm hi
    refine Ev.step (h := fun k => (evermoreref1_Words.f k (rd [] W (i : Int)) (rd [] W (i : Int))).bind fun r => if r = true then evermorelaw_sameLists.l4 k W W ((i + 1 : Nat) : Int) else some false) (fun k => ?_) ?_
    · rw [evermorelaw_sameLists.l4, if_pos (by omega), if_pos (by omega), if_pos (by omega), if_pos (by omega), if_pos (by omega), wrS i (by omega)]
    · have hw : (rd [] W (i : Int)).length ≤ 100000 := by rw [rd_nat]; exact hr _ (getD_memW W i (by omega))
      refine Ev.bind (words_ev _ _ hw) ?_
      simp only [decide_true, if_true]
      exact ih (i + 1) (by omega) (by omega)
theorem same_ev (W : List (List Int)) (hW : W.length ≤ 100000) (hr : ∀ w ∈ W, w.length ≤ 100000) : Ev (fun k => evermorelaw_sameLists.f k W W) true := by
  simp only [evermorelaw_sameLists.f, if_true]
  exact same_l4 W hW hr _ 0 rfl (by omega)
theorem may_ref (A : Int) (w : List Int) : ∃ e, Ev (fun k => evermoreref1_May.f k A w) e ∧ (e = 0 → WordOk A w ∧ w.length ≤ 60) := by
  by_cases h1 : A < 1
  · exact ⟨2, .all fun k => by rw [evermoreref1_May.f, if_pos h1], fun h => absurd h (by decide)⟩
  by_cases h2 : 4 < A
  · exact ⟨2, .all fun k => by rw [evermoreref1_May.f, if_neg h1, if_pos h2], fun h => absurd h (by decide)⟩
  by_cases h3 : 60 < (w.length : Int)
  · exact ⟨1, .all fun k => by rw [evermoreref1_May.f, if_neg h1, if_neg h2, if_pos h3], fun h => absurd h (by decide)⟩
  have l6 : ∀ n i, w.length - i = n → i ≤ w.length → ∃ e, Ev (fun k => evermoreref1_May.l6 k A w (i : Int)) e ∧ (e = 0 → ∀ x ∈ w.drop i, 0 ≤ x ∧ x < A) := by
    intro n
    induction n with
    | zero =>
      intro i hn hi
      refine ⟨0, Ev.step (h := fun _ => some 0) (fun k => ?_) (Ev.now _), fun _ x hx => ?_⟩
      · rw [evermoreref1_May.l6, if_neg (by omega)]
      · rw [List.drop_eq_nil_of_le (by omega)] at hx; simp at hx
    | succ n ih =>
      intro i hn hi
      obtain ⟨e, g2, g3⟩ := ih (i + 1) (by omega) (by omega)
      have hr : rd (Int.ofNat 0) w (i : Int) = w.getD i 0 := rd_nat _ _ _
      by_cases c1 : w.getD i 0 < 0
      · refine ⟨2, Ev.step (h := fun _ => some 2) (fun k => ?_) (Ev.now _), fun h => absurd h (by decide)⟩
        rw [evermoreref1_May.l6, if_pos (by omega), if_pos (by omega), if_pos (by omega), hr, if_pos c1]
      · by_cases c2 : A ≤ w.getD i 0
        · refine ⟨2, Ev.step (h := fun _ => some 2) (fun k => ?_) (Ev.now _), fun h => absurd h (by decide)⟩
          rw [evermoreref1_May.l6, if_pos (by omega), if_pos (by omega), if_pos (by omega), hr, if_neg c1, if_pos (by omega), if_pos (by omega), if_pos c2]
        · refine ⟨e, Ev.step (fun k => ?_) g2, fun he x hx => ?_⟩
          · rw [evermoreref1_May.l6, if_pos (by omega), if_pos (by omega), if_pos (by omega), hr, if_neg c1, if_pos (by omega), if_pos (by omega), if_neg c2, wrSucc i (by omega)]
          · rw [drop_getD 0 w i (by omega)] at hx
            rcases List.mem_cons.1 hx with h | h
            · rw [h]; omega
            · exact g3 he x h
  obtain ⟨e, q2, q3⟩ := l6 _ 0 rfl (by omega)
  refine ⟨e, ?_, fun he => ⟨fun x hx => q3 he x (by rw [List.drop_zero]; exact hx), by omega⟩⟩
  simp only [evermoreref1_May.f, if_neg h1, if_neg h2, if_neg h3]; exact q2
theorem law_l16 (w : List Int) (lw : w.length ≤ 60) (is_ : Bool) (out : List (List Int)) (ho : Oo out) (hl : out.length ≤ 100000) (h : is_ = true → dom out w = true) : ∀ n i, out.length - i = n → i ≤ out.length → (dom out w = true → dom (out.drop i) w = true) → Ev (fun k => evermorelaw_HigmanLeast.l16 k w is_ (i : Int) out) true := by
  intro n
  induction n with
  | zero =>
    intro i hn hi hd
    rw [List.drop_eq_nil_of_le (by omega)] at hd
    have : is_ = false := by
      cases hq : is_ with
      | false => rfl
      | true => have := hd (h hq); simp [dom] at this
    subst this
    refine Ev.step (h := fun _ => some true) (fun k => ?_) (Ev.now _)
    rw [evermorelaw_HigmanLeast.l16, if_neg (by omega)]; rfl
  | succ n ih =>
    intro i hn hi hd
    have hu := ho _ (getD_memW out i (by omega))
    obtain ⟨pl, hwi⟩ := rwithin_ev (out.getD i []) w hu.2 lw
    have hg : out.getD (i : Int).toNat [] = out.getD i [] := rfl
    have hdc : ∀ l, dom (out.getD i [] :: l) w = ((out.getD i []).isSublist w || dom l w) := fun l => by rw [dom, List.any_cons]; rfl
    rw [drop_getD [] out i (by omega), hdc] at hd
    refine Ev.step (fun k => by rw [evermorelaw_HigmanLeast.l16, if_pos (by omega), if_pos (by omega), if_pos (by omega), hg, wrS i (by omega)]) (Ev.bind hwi ?_)
    by_cases hb : (out.getD i []).isSublist w = true
    · simp only [hb, if_true]; exact Ev.now _
    · simp only [hb, if_false]
      rw [(Bool.not_eq_true _).mp hb, Bool.false_or] at hd
      exact ih (i + 1) (by omega) (by omega) hd
theorem HigmanLeast : evermorelaw_HigmanLeast.PureH := by
  intro x0 w ok0 ok1
  obtain ⟨A, s, N, M, u⟩ := x0
  refine Ev.get ?_
  obtain ⟨e, c1, c2, c3⟩ := check_ev A s N M
  simp only [evermorelaw_HigmanLeast.f]
  have fin : ∀ (e1 no : Int) (l : List (List Int)), e1 = no → no ≠ 0 → l = [] → Ev (fun k => evermorelaw_HigmanLeast.j5 k w e1 no A s N M l) true := by
    intro e1 no l h1 h2 h3
    subst h3
    refine Ev.step (h := fun _ => some true) (fun k => ?_) (Ev.now _)
    rw [evermorelaw_HigmanLeast.j5, if_neg h2, if_pos h1]; rfl
  by_cases he : e = 0
  · have F := c3 he
    subst he
    by_cases h5 : 5 < (N.length : Int)
    · have hp : Ev (fun k => higman_Least.f k (A, s, N, M, ())) (1, []) := by
        simp only [higman_Least.f, higman_small.f]
        refine Ev.bind (x := 1) (Ev.bind c1 ?_) ?_
        · simp only [if_true, if_pos h5]; exact Ev.now _
        · simp only [if_neg (show ¬ (1 : Int) = 0 by decide)]; exact Ev.now _
      refine Ev.bind hp (Ev.bind c2 ?_)
      simp only [if_true, if_pos h5]
      exact fin 1 1 [] rfl (by decide) rfl
    · have h5' : N.length ≤ 5 := by omega
      have hp : Ev (fun k => higman_Least.f k (A, s, N, M, ())) (0, lst s N M A N.length) := by
        simp only [higman_Least.f, higman_small.f]
        refine Ev.bind (x := 0) (Ev.bind c1 ?_) ?_
        · simp only [if_true, if_neg h5]; exact Ev.now _
        · simp only [if_true]
          exact p_all F h5' _ 0 [[]] rfl (by omega) (.keep .nil)
      have hr : Ev (fun k => evermoreref32_Least.f k (A, s, N, M, ())) (lst s N M A N.length) := by
        simp only [evermoreref32_Least.f]
        exact ref_all F h5' _ 0 rfl (by omega)
      obtain ⟨h1, h2⟩ := lst_ok F N.length (by omega)
      refine Ev.bind hp (Ev.bind c2 ?_)
      simp only [if_true, if_neg h5]
      refine Ev.step (fun k => by rw [evermorelaw_HigmanLeast.j5, if_pos rfl]) (Ev.bind hr (Ev.bind (same_ev (lst s N M A N.length) (by omega) (fun v hv => by have := h1 v hv; omega)) ?_))
      simp only [if_true]
      obtain ⟨em, m1, m2⟩ := may_ref A w
      refine Ev.bind m1 ?_
      by_cases hm : em = 0
      · obtain ⟨hw, hl⟩ := m2 hm
        simp only [if_pos hm]
        refine Ev.bind (racc_ev F w hw (by omega)) ?_
        exact law_l16 w hl _ _ h1 (by omega) (fun ha => lst_has F _ w rfl hw ha) _ 0 rfl (by omega) (fun h => h)
      · simp only [if_neg hm]; exact Ev.now _
  · have hp : Ev (fun k => higman_Least.f k (A, s, N, M, ())) (e, []) := by
      simp only [higman_Least.f, higman_small.f]
      refine Ev.bind (x := e) (Ev.bind c1 ?_) ?_
      · simp only [if_neg he]; exact Ev.now _
      · simp only [if_neg he]; exact Ev.now _
    refine Ev.bind hp (Ev.bind c2 ?_)
    simp only [if_neg he]
    exact fin e e [] rfl he rfl
end Go.Proofs.YtmagglebkbiffaaSx.DC
namespace Go.Proofs.Ytmagglebkbiffaa
theorem Pure.HigmanLeast : Go.Proofs.YtmagglebkbiffaaSx.evermorelaw_HigmanLeast.PureH := Go.Proofs.YtmagglebkbiffaaSx.DC.HigmanLeast
end Go.Proofs.Ytmagglebkbiffaa
