import Derived.Test.YtklkcdphcmimoaaGSeqsKernel
import Derived.Test.YtklkcdphcmimoaaSxW
import Derived.Test.YtklkcdphcmimoaaSxV2
set_option linter.unusedVariables false
namespace Go.Proofs.YtklkcdphcmimoaaSx
/-- With enough fuel. -/
def Ev {α : Type} (g : Nat → Option α) (r : α) : Prop := ∃ k0, ∀ k, k0 ≤ k → g k = some r
theorem Ev.now {α : Type} (r : α) : Ev (fun _ => some r) r := ⟨0, fun _ _ => rfl⟩
theorem Ev.all {α : Type} {g : Nat → Option α} {r : α} (h : ∀ k, g k = some r) : Ev g r := ⟨0, fun k _ => h k⟩
theorem Ev.step {α : Type} {g h : Nat → Option α} {r : α} (e : ∀ k, g (k + 1) = h k) (H : Ev h r) : Ev g r := by
  obtain ⟨k0, H⟩ := H
  refine ⟨k0 + 1, fun k hk => ?_⟩
  obtain ⟨k, rfl⟩ : ∃ j, k = j + 1 := ⟨k - 1, by omega⟩
  rw [e]; exact H _ (by omega)
theorem Ev.bind {α β : Type} {g : Nat → Option α} {h : Nat → α → Option β} {x : α} {r : β} (G : Ev g x) (H : Ev (fun k => h k x) r) : Ev (fun k => (g k).bind (h k)) r := by
  obtain ⟨a, G⟩ := G
  obtain ⟨b, H⟩ := H
  refine ⟨max a b, fun k hk => ?_⟩
  show (g k).bind (h k) = some r
  rw [G k (by omega)]; exact H k (by omega)
theorem Ev.get {α : Type} {g : Nat → Option α} {r : α} (H : Ev g r) : ∃ k, g k = some r := H.elim fun k0 H => ⟨k0, H k0 (Nat.le_refl _)⟩
theorem Ev.cast {α : Type} {g : Nat → Option α} {r r' : α} (H : Ev g r) (e : r = r') : Ev g r' := e ▸ H

theorem wr64 (n : Int) (h0 : -9223372036854775808 ≤ n) (h1 : n < 9223372036854775808) : IntKind.i64.wrap n = n := by rw [IntKind.wrap_i64]; omega
theorem wrSucc (i : Nat) (h : i < 1000000000) : IntKind.i64.wrap ((i : Int) + 1) = ((i + 1 : Nat) : Int) := by rw [wr64] <;> omega
theorem rd_nat {α : Type} (d : α) (w : List α) (i : Nat) : rd d w (i : Int) = w.getD i d := by simp [rd]
theorem drop_getD {α : Type} (d : α) (w : List α) (i : Nat) (h : i < w.length) : w.drop i = w.getD i d :: w.drop (i + 1) := by
  rw [List.drop_eq_getElem_cons h]; simp [List.getD, h]
theorem short (n : Nat) (h : n < 1000000000) : Nat.blt n 1000000000 = true := Nat.ble_eq_true_of_le (by omega)
end Go.Proofs.YtklkcdphcmimoaaSx
namespace Go.Proofs.YtklkcdphcmimoaaSx.SK
def bad (N : Int) (b : Int) : Bool := decide (b < 0) || decide (N ≤ b)
def badW (B : Int) (w : List Int) : Bool := !decide ((w.length : Int) = B)

theorem idxW (B : Int) (I' : List (List Int)) (C : List Int) (I : List (List Int)) (hI : I.length ≤ 4) : ∀ n i, I.length - i = n → i ≤ I.length →
    ∃ r, Ev (fun k => slices_IndexFunc_____int___int_.l2 k I (I.length : Int) (i : Int) B I' C) (r, B, I', C) ∧ decide (0 ≤ r) = (I.drop i).any (badW B) := by
  intro n
  induction n with
  | zero =>
    intro i hn hi
    refine ⟨-1, Ev.step (fun k => by rw [slices_IndexFunc_____int___int_.l2]) ?_, ?_⟩
    · simp only [if_neg (show ¬ (i : Int) < (I.length : Int) by omega)]; exact Ev.now _
    · rw [List.drop_eq_nil_of_le (by omega)]; rfl
  | succ n ih =>
    intro i hn hi
    obtain ⟨r, h1, h2⟩ := ih (i + 1) (by omega) (by omega)
    by_cases hb : badW B (I.getD i []) = true
    · refine ⟨i, Ev.step (fun k => by rw [slices_IndexFunc_____int___int_.l2]) ?_, ?_⟩
      · simp only [if_pos (show (i : Int) < (I.length : Int) by omega), if_pos (show 0 ≤ (i : Int) by omega)]
        refine Ev.bind (x := (true, B, I', C)) (.all fun k => ?_) ?_
        · rw [seqs_Check_1.f, rd_nat]; rw [badW] at hb; rw [hb]
        · simp only [if_true]; exact Ev.now _
      · rw [drop_getD [] I i (by omega), List.any_cons, hb]; simp
    · refine ⟨r, Ev.step (fun k => by rw [slices_IndexFunc_____int___int_.l2]) ?_, ?_⟩
      · simp only [if_pos (show (i : Int) < (I.length : Int) by omega), if_pos (show 0 ≤ (i : Int) by omega)]
        refine Ev.bind (x := (false, B, I', C)) (.all fun k => ?_) ?_
        · rw [seqs_Check_1.f, rd_nat]; rw [Bool.not_eq_true, badW] at hb; rw [hb]
        · simp only [Bool.false_eq_true, if_false, wrSucc i (by omega)]; exact h1
      · rw [drop_getD [] I i (by omega), List.any_cons, h2, show badW B (I.getD i []) = false from (Bool.not_eq_true _).mp hb, Bool.false_or]

theorem idxN (N : Int) (w : List Int) (hw : w.length ≤ 4) : ∀ n i, w.length - i = n → i ≤ w.length →
    ∃ r, Ev (fun k => slices_IndexFunc___int_int_.l2 k w (w.length : Int) (i : Int) N) (r, N) ∧ decide (0 ≤ r) = (w.drop i).any (bad N) := by
  have hf : ∀ k b, seqs_Check_2.f k b N = some (bad N b, N) := by
    intro k b
    rw [seqs_Check_2.f, bad]
    by_cases h : b < 0
    · rw [if_pos h]; simp [h]
    · rw [if_neg h]; simp [h]
  intro n
  induction n with
  | zero =>
    intro i hn hi
    refine ⟨-1, Ev.step (fun k => by rw [slices_IndexFunc___int_int_.l2]) ?_, ?_⟩
    · simp only [if_neg (show ¬ (i : Int) < (w.length : Int) by omega)]; exact Ev.now _
    · rw [List.drop_eq_nil_of_le (by omega)]; rfl
  | succ n ih =>
    intro i hn hi
    obtain ⟨r, h1, h2⟩ := ih (i + 1) (by omega) (by omega)
    by_cases hb : bad N (w.getD i 0) = true
    · refine ⟨i, Ev.step (fun k => by rw [slices_IndexFunc___int_int_.l2]) ?_, ?_⟩
      · simp only [if_pos (show (i : Int) < (w.length : Int) by omega), if_pos (show 0 ≤ (i : Int) by omega)]
        refine Ev.bind (x := (true, N)) (.all fun k => ?_) ?_
        · rw [hf, rd_nat]; exact congrArg (fun b => some (b, N)) hb
        · simp only [if_true]; exact Ev.now _
      · rw [drop_getD 0 w i (by omega), List.any_cons, hb]; simp
    · refine ⟨r, Ev.step (fun k => by rw [slices_IndexFunc___int_int_.l2]) ?_, ?_⟩
      · simp only [if_pos (show (i : Int) < (w.length : Int) by omega), if_pos (show 0 ≤ (i : Int) by omega)]
        refine Ev.bind (x := (false, N)) (.all fun k => ?_) ?_
        · rw [hf, rd_nat]; rw [Bool.not_eq_true] at hb; exact congrArg (fun b => some (b, N)) hb
        · simp only [Bool.false_eq_true, if_false, wrSucc i (by omega)]; exact h1
      · rw [drop_getD 0 w i (by omega), List.any_cons, h2, show bad N (w.getD i 0) = false from (Bool.not_eq_true _).mp hb, Bool.false_or]

theorem ref9 (B : Int) (I : List (List Int)) (C : List Int) (hI : I.length ≤ 4) : ∀ n i, I.length - i = n → i ≤ I.length →
    ((I.drop i).any (badW B) = true → Ev (fun k => evermoreref23_Check.l9 k (I.length : Int) (i : Int) B I C) 3) ∧
    ((I.drop i).any (badW B) = false → ∀ e, Ev (fun k => evermoreref23_Check.l14 k (I.length : Int) 0 B I C) e → Ev (fun k => evermoreref23_Check.l9 k (I.length : Int) (i : Int) B I C) e) := by
  intro n
  induction n with
  | zero =>
    intro i hn hi
    rw [List.drop_eq_nil_of_le (by omega)]
    refine ⟨fun h => by simp at h, fun _ e he => Ev.step (fun k => by rw [evermoreref23_Check.l9]) ?_⟩
    simp only [if_neg (show ¬ (i : Int) < (I.length : Int) by omega)]; exact he
  | succ n ih =>
    intro i hn hi
    obtain ⟨h1, h2⟩ := ih (i + 1) (by omega) (by omega)
    rw [drop_getD [] I i (by omega), List.any_cons]
    by_cases hb : ((I.getD i []).length : Int) = B
    · rw [show badW B (I.getD i []) = false by rw [badW, decide_eq_true hb]; rfl, Bool.false_or]
      refine ⟨fun h => Ev.step (fun k => by rw [evermoreref23_Check.l9]) ?_, fun h e he => Ev.step (fun k => by rw [evermoreref23_Check.l9]) ?_⟩
      · simp only [if_pos (show (i : Int) < (I.length : Int) by omega), if_pos (show 0 ≤ (i : Int) by omega), rd_nat, if_pos hb, wrSucc i (by omega)]; exact h1 h
      · simp only [if_pos (show (i : Int) < (I.length : Int) by omega), if_pos (show 0 ≤ (i : Int) by omega), rd_nat, if_pos hb, wrSucc i (by omega)]; exact h2 h e he
    · rw [show badW B (I.getD i []) = true by rw [badW, decide_eq_false hb]; rfl, Bool.true_or]
      refine ⟨fun h => Ev.step (fun k => by rw [evermoreref23_Check.l9]) ?_, fun h => by simp at h⟩
      simp only [if_pos (show (i : Int) < (I.length : Int) by omega), if_pos (show 0 ≤ (i : Int) by omega), rd_nat, if_neg hb]; exact Ev.now _

/-- The rest of the reference's row. -/
theorem ref17 (B : Nat) (I : List (List Int)) (C : List Int) (hI : I.length ≤ 4) (hB : B ≤ 4) (a : Nat) (ha : a < I.length) (hC : C.length = I.length) (hw : (I.getD a []).length = B) : ∀ n i, B - i = n → i ≤ B →
    ((((I.getD a []).drop i).any (bad I.length) || bad 10 (C.getD a 0)) = true → Ev (fun k => evermoreref23_Check.l17 k (I.length : Int) (a : Int) (i : Int) (B : Int) I C) 2) ∧
    ((((I.getD a []).drop i).any (bad I.length) || bad 10 (C.getD a 0)) = false → ∀ e, Ev (fun k => evermoreref23_Check.l14 k (I.length : Int) ((a + 1 : Nat) : Int) (B : Int) I C) e → Ev (fun k => evermoreref23_Check.l17 k (I.length : Int) (a : Int) (i : Int) (B : Int) I C) e) := by
  intro n
  induction n with
  | zero =>
    intro i hn hi
    rw [List.drop_eq_nil_of_le (by omega), List.any_nil, Bool.false_or]
    have e0 : (0 : Int) ≤ (a : Int) := by omega
    have e1 : (a : Int) < (C.length : Int) := by omega
    have e2 : ¬ (i : Int) < (B : Int) := by omega
    refine ⟨fun h => Ev.step (fun k => by rw [evermoreref23_Check.l17]) ?_, fun h e he => Ev.step (fun k => by rw [evermoreref23_Check.l17]) ?_⟩
    · simp only [if_neg e2, if_pos e0, if_pos e1, rd_nat]
      by_cases c0 : C.getD a 0 < 0
      · have : C.getD a (Int.ofNat 0) < 0 := c0
        simp only [if_pos this]; exact Ev.now _
      · have c1 : ¬ C.getD a (Int.ofNat 0) < 0 := c0
        have c2 : 9 < C.getD a (Int.ofNat 0) := by simp [bad] at h; have := h; show 9 < C.getD a 0; simp only [List.getD_eq_getElem?_getD] at *; omega
        simp only [if_neg c1, if_pos c2]; exact Ev.now _
    · have c1 : ¬ C.getD a (Int.ofNat 0) < 0 := by simp [bad] at h; show ¬ C.getD a 0 < 0; simp only [List.getD_eq_getElem?_getD] at *; omega
      have c2 : ¬ 9 < C.getD a (Int.ofNat 0) := by simp [bad] at h; show ¬ 9 < C.getD a 0; simp only [List.getD_eq_getElem?_getD] at *; omega
      simp only [if_neg e2, if_pos e0, if_pos e1, rd_nat, if_neg c1, if_neg c2, wrSucc a (by omega)]; exact he
  | succ n ih =>
    intro i hn hi
    obtain ⟨h1, h2⟩ := ih (i + 1) (by omega) (by omega)
    have e0 : (0 : Int) ≤ (a : Int) := by omega
    have e1 : (a : Int) < (I.length : Int) := by omega
    have e2 : (i : Int) < (B : Int) := by omega
    have e3 : (0 : Int) ≤ (i : Int) := by omega
    have e4 : (i : Int) < ((I.getD a []).length : Int) := by omega
    rw [drop_getD 0 (I.getD a []) i (by omega), List.any_cons, Bool.or_assoc]
    by_cases c0 : (I.getD a []).getD i (Int.ofNat 0) < 0
    · rw [show bad I.length ((I.getD a []).getD i 0) = true by rw [bad, decide_eq_true (show (I.getD a []).getD i 0 < 0 from c0)]; rfl, Bool.true_or]
      refine ⟨fun h => Ev.step (fun k => by rw [evermoreref23_Check.l17]) ?_, fun h => by simp at h⟩
      simp only [if_pos e2, if_pos e0, if_pos e1, if_pos e3, rd_nat, if_pos e4, if_pos c0]; exact Ev.now _
    · by_cases c1 : (I.length : Int) ≤ (I.getD a []).getD i (Int.ofNat 0)
      · rw [show bad I.length ((I.getD a []).getD i 0) = true by rw [bad, decide_eq_true (show (I.length : Int) ≤ (I.getD a []).getD i 0 from c1), Bool.or_true], Bool.true_or]
        refine ⟨fun h => Ev.step (fun k => by rw [evermoreref23_Check.l17]) ?_, fun h => by simp at h⟩
        simp only [if_pos e2, if_pos e0, if_pos e1, if_pos e3, rd_nat, if_pos e4, if_neg c0, if_pos c1]; exact Ev.now _
      · rw [show bad I.length ((I.getD a []).getD i 0) = false by rw [bad, decide_eq_false (show ¬ (I.length : Int) ≤ (I.getD a []).getD i 0 from c1), decide_eq_false (show ¬ (I.getD a []).getD i 0 < 0 from c0)]; rfl, Bool.false_or]
        refine ⟨fun h => Ev.step (fun k => by rw [evermoreref23_Check.l17]) ?_, fun h e he => Ev.step (fun k => by rw [evermoreref23_Check.l17]) ?_⟩
        · simp only [if_pos e2, if_pos e0, if_pos e1, if_pos e3, rd_nat, if_pos e4, if_neg c0, if_neg c1, wrSucc i (by omega)]; exact h1 h
        · simp only [if_pos e2, if_pos e0, if_pos e1, if_pos e3, rd_nat, if_pos e4, if_neg c0, if_neg c1, wrSucc i (by omega)]; exact h2 h e he
end Go.Proofs.YtklkcdphcmimoaaSx.SK
namespace Go.Proofs.YtklkcdphcmimoaaSx.SK
/-- What may be. -/
structure Fit (B : Nat) (I : List (List Int)) (C : List Int) : Prop where
  b2 : 2 ≤ B
  b4 : B ≤ 4
  n1 : 1 ≤ I.length
  n4 : I.length ≤ 4
  c : C.length = I.length
  row : ∀ a, a < I.length → (I.getD a []).length = B
  ent : ∀ a, a < I.length → ∀ j, j < B → 0 ≤ (I.getD a []).getD j 0 ∧ (I.getD a []).getD j 0 < (I.length : Int)
  cod : ∀ a, a < I.length → 0 ≤ C.getD a 0 ∧ C.getD a 0 ≤ 9

theorem any_getD (f : Int → Bool) (w : List Int) (h : w.any f = false) (j : Nat) (hj : j < w.length) : f (w.getD j 0) = false := by
  rw [List.any_eq_false] at h
  have : w.getD j 0 ∈ w := by rw [List.getD_eq_getElem?_getD, List.getElem?_eq_getElem hj]; exact List.getElem_mem hj
  exact (Bool.not_eq_true _).mp (h _ this)
theorem any_getDW (f : List Int → Bool) (w : List (List Int)) (h : w.any f = false) (j : Nat) (hj : j < w.length) : f (w.getD j []) = false := by
  rw [List.any_eq_false] at h
  have : w.getD j [] ∈ w := by rw [List.getD_eq_getElem?_getD, List.getElem?_eq_getElem hj]; exact List.getElem_mem hj
  exact (Bool.not_eq_true _).mp (h _ this)
theorem bad_false {N b : Int} (h : bad N b = false) : 0 ≤ b ∧ b < N := by
  rw [bad, Bool.or_eq_false_iff, decide_eq_false_iff_not, decide_eq_false_iff_not] at h; omega

theorem tandem (B : Nat) (I : List (List Int)) (C : List Int) (hB0 : 2 ≤ B) (hI : I.length ≤ 4) (hI1 : 1 ≤ I.length) (hB : B ≤ 4) (hC : C.length = I.length) (hrow : ∀ a, a < I.length → (I.getD a []).length = B) : ∀ n i, I.length - i = n → i ≤ I.length →
    ∃ e, Ev (fun k => seqs_Check.l9 k I (I.length : Int) (i : Int) (B : Int) I C (I.length : Int)) e ∧ Ev (fun k => evermoreref23_Check.l14 k (I.length : Int) (i : Int) (B : Int) I C) e ∧
      (e = 0 → ∀ a, i ≤ a → a < I.length → (I.getD a []).any (bad I.length) = false ∧ bad 10 (C.getD a 0) = false) := by
  intro n
  induction n with
  | zero =>
    intro i hn hi
    have e0 : ¬ (i : Int) < (I.length : Int) := by omega
    have e1 : (0 : Int) < (I.length : Int) := by omega
    have e2 : (0 : Int) < (((rd [] I 0).length : Nat) : Int) := by
      have : rd [] I 0 = I.getD 0 [] := rd_nat [] I 0
      rw [this, hrow 0 (by omega)]; omega
    refine ⟨if rd (Int.ofNat 0) (rd [] I 0) 0 = 0 then 0 else 3, Ev.step (fun k => by rw [seqs_Check.l9]) ?_, Ev.step (fun k => by rw [evermoreref23_Check.l14]) ?_, fun _ a h1 h2 => by omega⟩
    · simp only [if_neg e0, if_pos e1, if_pos e2]
      by_cases hz : rd (Int.ofNat 0) (rd [] I 0) 0 = 0
      · simp only [if_pos hz]; exact Ev.now _
      · simp only [if_neg hz]; exact Ev.now _
    · simp only [if_neg e0, if_pos e1, if_pos e2]
      by_cases hz : rd (Int.ofNat 0) (rd [] I 0) 0 = 0
      · simp only [if_pos hz]; exact Ev.now _
      · simp only [if_neg hz]; exact Ev.now _
  | succ n ih =>
    intro i hn hi
    have e0 : (i : Int) < (I.length : Int) := by omega
    have e1 : (0 : Int) ≤ (i : Int) := by omega
    have e2 : (i : Int) < (C.length : Int) := by omega
    obtain ⟨r, r1, r2⟩ := idxN (I.length : Int) (I.getD i []) (by rw [hrow i (by omega)]; exact hB) _ 0 rfl (by omega)
    rw [List.drop_zero] at r2
    have rr : Ev (fun k => slices_ContainsFunc___int_int_.f k (I.getD i []) (I.length : Int)) ((I.getD i []).any (bad I.length), (I.length : Int)) := by
      refine (Ev.bind (g := fun k => slices_IndexFunc___int_int_.f k (I.getD i []) (I.length : Int)) (x := (r, (I.length : Int))) (h := fun k r1 => some (decide (0 ≤ r1.fst), r1.snd)) r1 (Ev.now _)).cast ?_
      exact congrArg (fun b => (b, (I.length : Int))) r2
    have R := ref17 B I C hI hB i (by omega) hC (hrow i (by omega)) _ 0 rfl (by omega)
    rw [List.drop_zero] at R
    by_cases hb : (I.getD i []).any (bad I.length) = true
    · refine ⟨2, Ev.step (fun k => by rw [seqs_Check.l9]) ?_, Ev.step (fun k => by rw [evermoreref23_Check.l14]) ?_, fun h => absurd h (by decide)⟩
      · simp only [if_pos e0, if_pos e1, rd_nat]
        refine Ev.bind rr ?_
        simp only [if_pos hb]; exact Ev.now _
      · simp only [if_pos e0]
        exact R.1 (by rw [hb]; rfl)
    · have hb' := (Bool.not_eq_true _).mp hb
      by_cases hc : bad 10 (C.getD i 0) = true
      · refine ⟨2, Ev.step (fun k => by rw [seqs_Check.l9]) ?_, Ev.step (fun k => by rw [evermoreref23_Check.l14]) ?_, fun h => absurd h (by decide)⟩
        · simp only [if_pos e0, if_pos e1, rd_nat]
          refine Ev.bind rr ?_
          simp only [if_neg hb, if_pos e2]
          by_cases c0 : C.getD i (Int.ofNat 0) < 0
          · simp only [if_pos c0]; exact Ev.now _
          · have c1 : 9 < C.getD i (Int.ofNat 0) := by
              rw [bad, Bool.or_eq_true, decide_eq_true_iff, decide_eq_true_iff] at hc
              rcases hc with h | h
              · exact absurd h c0
              · have h' : 10 ≤ C.getD i (Int.ofNat 0) := h
                omega
            simp only [if_neg c0, if_pos c1]; exact Ev.now _
        · simp only [if_pos e0]
          exact R.1 (by rw [hc, Bool.or_true])
      · have hc' := (Bool.not_eq_true _).mp hc
        obtain ⟨e, s1, s2, s3⟩ := ih (i + 1) (by omega) (by omega)
        refine ⟨e, Ev.step (fun k => by rw [seqs_Check.l9]) ?_, Ev.step (fun k => by rw [evermoreref23_Check.l14]) ?_, fun h a h1 h2 => ?_⟩
        · simp only [if_pos e0, if_pos e1, rd_nat]
          refine Ev.bind rr ?_
          have := bad_false hc'
          have c0 : ¬ C.getD i (Int.ofNat 0) < 0 := fun h => by have h' : C.getD i 0 < 0 := h; omega
          have c1 : ¬ 9 < C.getD i (Int.ofNat 0) := fun h => by have h' : 9 < C.getD i 0 := h; omega
          simp only [if_neg hb, if_pos e2, if_neg c0, if_neg c1, wrSucc i (by omega)]
          exact s1
        · simp only [if_pos e0]
          exact R.2 (by rw [hb', hc']; rfl) e s2
        · by_cases ha : a = i
          · subst ha; exact ⟨hb', hc'⟩
          · exact s3 h a (by omega) h2

theorem check_ev (b : Int) (I : List (List Int)) (C : List Int) : ∃ e, Ev (fun k => seqs_Check.f k (b, I, C, ())) e ∧ Ev (fun k => evermoreref23_Check.f k (b, I, C, ())) e ∧
    (e = 0 → ∃ B : Nat, b = (B : Int) ∧ Fit B I C) := by
  by_cases h1 : b < 2
  · exact ⟨2, .all fun k => by rw [seqs_Check.f, if_pos h1], .all fun k => by rw [evermoreref23_Check.f, if_pos h1], fun h => absurd h (by decide)⟩
  by_cases h2 : 4 < b
  · exact ⟨2, .all fun k => by rw [seqs_Check.f, if_neg h1, if_pos h2], .all fun k => by rw [evermoreref23_Check.f, if_neg h1, if_pos h2], fun h => absurd h (by decide)⟩
  by_cases h3 : (I.length : Int) < 1
  · exact ⟨1, .all fun k => by rw [seqs_Check.f, if_neg h1, if_neg h2, if_pos h3], .all fun k => by rw [evermoreref23_Check.f, if_neg h1, if_neg h2, if_pos h3], fun h => absurd h (by decide)⟩
  by_cases h4 : 4 < (I.length : Int)
  · exact ⟨1, .all fun k => by rw [seqs_Check.f, if_neg h1, if_neg h2, if_neg h3, if_pos h4], .all fun k => by rw [evermoreref23_Check.f, if_neg h1, if_neg h2, if_neg h3, if_pos h4], fun h => absurd h (by decide)⟩
  by_cases h5 : ¬ (C.length : Int) = (I.length : Int)
  · exact ⟨3, .all fun k => by rw [seqs_Check.f, if_neg h1, if_neg h2, if_neg h3, if_neg h4, if_neg h5], .all fun k => by rw [evermoreref23_Check.f, if_neg h1, if_neg h2, if_neg h3, if_neg h4, if_neg h5], fun h => absurd h (by decide)⟩
  have h5 := Decidable.not_not.1 h5
  obtain ⟨B, rfl⟩ : ∃ B : Nat, b = (B : Int) := ⟨b.toNat, by omega⟩
  obtain ⟨r, r1, r2⟩ := idxW (B : Int) I C I (by omega) _ 0 rfl (by omega)
  rw [List.drop_zero] at r2
  have rr : Ev (fun k => slices_ContainsFunc_____int___int_.f k I (B : Int) I C) (I.any (badW B), (B : Int), I, C) := by
    refine (Ev.bind (g := fun k => slices_IndexFunc_____int___int_.f k I (B : Int) I C) (x := (r, (B : Int), I, C)) (h := fun k r1 => some (decide (0 ≤ r1.fst), r1.snd.fst, r1.snd.snd.fst, r1.snd.snd.snd)) r1 (Ev.now _)).cast ?_
    exact congrArg (fun b => (b, (B : Int), I, C)) r2
  obtain ⟨q1, q2⟩ := ref9 (B : Int) I C (by omega) _ 0 rfl (by omega)
  rw [List.drop_zero] at q1 q2
  by_cases hb : I.any (badW B) = true
  · refine ⟨3, ?_, ?_, fun h => absurd h (by decide)⟩
    · simp only [seqs_Check.f, if_neg h1, if_neg h2, if_neg h3, if_neg h4, if_pos h5]
      refine Ev.bind rr ?_
      simp only [if_pos hb]; exact Ev.now _
    · simp only [evermoreref23_Check.f, if_neg h1, if_neg h2, if_neg h3, if_neg h4, if_pos h5]
      exact q1 hb
  · have hb' := (Bool.not_eq_true _).mp hb
    have hrow : ∀ a, a < I.length → (I.getD a []).length = B := by
      intro a ha
      have := any_getDW _ _ hb' a ha
      rw [badW, Bool.not_eq_false', decide_eq_true_iff] at this; omega
    obtain ⟨e, s1, s2, s3⟩ := tandem B I C (by omega) (by omega) (by omega) (by omega) (by omega) hrow _ 0 rfl (by omega)
    refine ⟨e, ?_, ?_, fun h => ⟨B, rfl, ⟨by omega, by omega, by omega, by omega, by omega, hrow, fun a ha j hj => ?_, fun a ha => ?_⟩⟩⟩
    · simp only [seqs_Check.f, if_neg h1, if_neg h2, if_neg h3, if_neg h4, if_pos h5]
      refine Ev.bind rr ?_
      simp only [if_neg hb]; exact s1
    · simp only [evermoreref23_Check.f, if_neg h1, if_neg h2, if_neg h3, if_neg h4, if_pos h5]
      exact q2 hb' e s2
    · exact bad_false (any_getD _ _ (s3 h a (by omega) ha).1 j (by rw [hrow a ha]; exact hj))
    · have := bad_false (s3 h a (by omega) ha).2; omega
end Go.Proofs.YtklkcdphcmimoaaSx.SK
namespace Go.Proofs.YtklkcdphcmimoaaSx.SK
theorem nodup_int (N : Nat) : ∀ l : List Int, l.Nodup → (∀ x ∈ l, 0 ≤ x ∧ x < (N : Int)) → l.length ≤ N := by
  induction N with
  | zero =>
    intro l _ h
    cases l with
    | nil => simp
    | cons a r => have := h a List.mem_cons_self; omega
  | succ N ih =>
    intro l hn h
    by_cases hm : (N : Int) ∈ l
    · have h1 := ih (l.erase (N : Int)) (hn.erase (N : Int)) (fun x hx => by
        have h2 := (hn.mem_erase_iff).1 hx
        have := h x h2.2
        have := h2.1
        omega)
      have h2 := List.length_erase_of_mem hm
      have : 0 < l.length := List.length_pos_of_mem hm
      omega
    · have := ih l hn (fun x hx => by
        have h1 := h x hx
        have : x ≠ (N : Int) := fun e => hm (e ▸ hx)
        omega)
      omega

theorem index_ev (l : List Int) (v : Int) (hl : l.length < 1000) : ∀ n i, l.length - i = n → i ≤ l.length →
    ∃ r, Ev (fun k => slices_Index___int_int_.l2 k l v (l.length : Int) (i : Int)) r ∧ decide (0 ≤ r) = decide (v ∈ l.drop i) := by
  intro n
  induction n with
  | zero =>
    intro i hn hi
    refine ⟨-1, Ev.step (fun k => by rw [slices_Index___int_int_.l2]) ?_, ?_⟩
    · simp only [if_neg (show ¬ (i : Int) < (l.length : Int) by omega)]; exact Ev.now _
    · rw [List.drop_eq_nil_of_le (by omega)]; simp
  | succ n ih =>
    intro i hn hi
    obtain ⟨r, h1, h2⟩ := ih (i + 1) (by omega) (by omega)
    by_cases hb : v = l.getD i (Int.ofNat 0)
    · refine ⟨i, Ev.step (fun k => by rw [slices_Index___int_int_.l2]) ?_, ?_⟩
      · simp only [if_pos (show (i : Int) < (l.length : Int) by omega), if_pos (show 0 ≤ (i : Int) by omega), rd_nat, if_pos hb]; exact Ev.now _
      · have : v = l.getD i 0 := hb
        rw [drop_getD 0 l i (by omega), ← this, decide_eq_true (show 0 ≤ (i : Int) by omega), decide_eq_true List.mem_cons_self]
    · refine ⟨r, Ev.step (fun k => by rw [slices_Index___int_int_.l2]) ?_, ?_⟩
      · simp only [if_pos (show (i : Int) < (l.length : Int) by omega), if_pos (show 0 ≤ (i : Int) by omega), rd_nat, if_neg hb, wrSucc i (by omega)]; exact h1
      · have : ¬ v = l.getD i 0 := hb
        rw [drop_getD 0 l i (by omega), h2]
        simp only [List.mem_cons, this, false_or]
theorem contains_ev (l : List Int) (v : Int) (hl : l.length < 1000) : Ev (fun k => slices_Contains___int_int_.f k l v) (decide (v ∈ l)) := by
  obtain ⟨r, h1, h2⟩ := index_ev l v hl _ 0 rfl (by omega)
  refine (Ev.bind (g := fun k => slices_Index___int_int_.f k l v) (x := r) (h := fun k r1 => some (decide (0 ≤ r1))) h1 (Ev.now _)).cast ?_
  rw [h2, List.drop_zero]

def stepM (l : List Int) (b : Int) : List Int := if b ∈ l then l else l ++ [b]
theorem foldM (row : List Int) : ∀ l : List Int, ∃ e, row.foldl stepM l = l ++ e ∧ e.length ≤ row.length ∧ (l.Nodup → (l ++ e).Nodup) ∧ ∀ x, x ∈ l ++ e ↔ x ∈ l ∨ x ∈ row := by
  induction row with
  | nil => intro l; exact ⟨[], by simp, by simp, fun h => by simpa using h, fun x => by simp⟩
  | cons b row ih =>
    intro l
    obtain ⟨e, e1, e2, e3, e4⟩ := ih (stepM l b)
    by_cases h : b ∈ l
    · rw [stepM, if_pos h] at e1 e3 e4
      refine ⟨e, by rw [List.foldl_cons, stepM, if_pos h]; exact e1, by simp; omega, e3, fun x => ?_⟩
      rw [e4]; simp only [List.mem_cons]
      constructor
      · rintro (a | a)
        · exact .inl a
        · exact .inr (.inr a)
      · rintro (a | a | a)
        · exact .inl a
        · exact .inl (a ▸ h)
        · exact .inr a
    · rw [stepM, if_neg h] at e1 e3 e4
      refine ⟨b :: e, by rw [List.foldl_cons, stepM, if_neg h, e1]; simp, by simp; omega, fun hn => ?_, fun x => ?_⟩
      · have := e3 (by
          rw [List.nodup_append]
          refine ⟨hn, by simp, fun a ha c hc => ?_⟩
          simp only [List.mem_singleton] at hc
          intro e; exact h (hc ▸ e ▸ ha))
        simpa using this
      · have := e4 x
        rw [List.append_assoc, List.singleton_append] at this
        rw [this]; simp only [List.mem_append, List.mem_cons, List.not_mem_nil, or_false, or_assoc]

theorem met6 (B : Int) (I : List (List Int)) (C : List Int) (i : Nat) (hi : i < 1000) (row : List Int) : ∀ n j l, row.length - j = n → j ≤ row.length → row.length < 900 → l.length + n < 1000 → ∀ r,
    Ev (fun k => seqs_met.l3 k ((i + 1 : Nat) : Int) B I C ((row.drop j).foldl stepM l)) r → Ev (fun k => seqs_met.l6 k (i : Int) row (row.length : Int) (j : Int) B I C l) r := by
  intro n
  induction n with
  | zero =>
    intro j l hn hj _ hl r H
    rw [List.drop_eq_nil_of_le (by omega), List.foldl_nil] at H
    refine Ev.step (fun k => by rw [seqs_met.l6]) ?_
    simp only [if_neg (show ¬ (j : Int) < (row.length : Int) by omega), wrSucc i (by omega)]
    exact H
  | succ n ih =>
    intro j l hn hj hrl hl r H
    rw [drop_getD 0 row j (by omega), List.foldl_cons] at H
    refine Ev.step (fun k => by rw [seqs_met.l6]) ?_
    simp only [if_pos (show (j : Int) < (row.length : Int) by omega), if_pos (show (0 : Int) ≤ (j : Int) by omega), rd_nat]
    refine Ev.bind (contains_ev _ _ (by omega)) ?_
    by_cases hm : row.getD j (Int.ofNat 0) ∈ l
    · simp only [if_pos (show decide (row.getD j (Int.ofNat 0) ∈ l) = true from decide_eq_true hm)]
      refine Ev.step (fun k => by rw [seqs_met.j10]) ?_
      simp only [wrSucc j (by omega)]
      rw [stepM, if_pos (show row.getD j 0 ∈ l from hm)] at H
      exact ih (j + 1) l (by omega) (by omega) hrl (by omega) r H
    · simp only [if_neg (show ¬ decide (row.getD j (Int.ofNat 0) ∈ l) = true from fun h => hm (of_decide_eq_true h))]
      simp only [if_pos (short (l ++ [row.getD j (Int.ofNat 0)]).length (by simp; omega))]
      refine Ev.step (fun k => by rw [seqs_met.j10]) ?_
      simp only [wrSucc j (by omega)]
      rw [stepM, if_neg (show ¬ row.getD j 0 ∈ l from hm)] at H
      exact ih (j + 1) (l ++ [row.getD j 0]) (by omega) (by omega) hrl (by simp; omega) r H

inductive Reach (B : Nat) (I : List (List Int)) : Nat → Prop
  | zero : Reach B I 0
  | step (a j : Nat) : Reach B I a → a < I.length → j < B → Reach B I ((I.getD a []).getD j 0).toNat

structure GoodL (B : Nat) (I : List (List Int)) (l : List Int) : Prop where
  nd : l.Nodup
  rng : ∀ x ∈ l, 0 ≤ x ∧ x < (I.length : Int)
  reach : ∀ x ∈ l, Reach B I x.toNat
  zero : (0 : Int) ∈ l

theorem mem_getD {w : List Int} {x : Int} (h : x ∈ w) : ∃ j, j < w.length ∧ w.getD j 0 = x := by
  obtain ⟨j, hj, e⟩ := List.getElem_of_mem h
  exact ⟨j, hj, by rw [List.getD_eq_getElem?_getD, List.getElem?_eq_getElem hj]; exact e⟩
theorem getD_mem (w : List Int) (j : Nat) (h : j < w.length) : w.getD j 0 ∈ w := by
  rw [List.getD_eq_getElem?_getD, List.getElem?_eq_getElem h]; exact List.getElem_mem h

theorem met3 {B : Nat} {I : List (List Int)} {C : List Int} (F : Fit B I C) : ∀ n i l, I.length - i = n → i ≤ l.length → GoodL B I l → (∀ p, p < i → ∀ j, j < B → (I.getD (l.getD p 0).toNat []).getD j 0 ∈ l) →
    ∃ l', Ev (fun k => seqs_met.l3 k (i : Int) (B : Int) I C l) l' ∧ GoodL B I l' ∧ ∀ x ∈ l', ∀ j, j < B → (I.getD x.toNat []).getD j 0 ∈ l' := by
  intro n
  have n4 := F.n4; have b4 := F.b4
  induction n with
  | zero =>
    intro i l hn hi G hcl
    have hl := nodup_int _ l G.nd G.rng
    refine ⟨l, Ev.step (fun k => by rw [seqs_met.l3]) ?_, G, fun x hx j hj => ?_⟩
    · simp only [if_neg (show ¬ (i : Int) < (l.length : Int) by omega)]; exact Ev.now _
    · obtain ⟨p, hp, e⟩ := mem_getD hx
      have := hcl p (by omega) j hj
      rw [e] at this; exact this
  | succ n ih =>
    intro i l hn hi G hcl
    have hl := nodup_int _ l G.nd G.rng
    by_cases hil : i < l.length
    · have hx := getD_mem l i hil
      have hr := G.rng _ hx
      have hrow := F.row (l.getD i 0).toNat (by omega)
      obtain ⟨e, e1, e2, e3, e4⟩ := foldM (I.getD (l.getD i 0).toNat []) l
      have G' : GoodL B I (l ++ e) := by
        have hin : ∀ x ∈ I.getD (l.getD i 0).toNat [], (0 ≤ x ∧ x < (I.length : Int)) ∧ Reach B I x.toNat := by
          intro x hx'
          obtain ⟨j, hj, ej⟩ := mem_getD hx'
          rw [← ej]
          exact ⟨F.ent _ (by omega) j (by omega), Reach.step _ j (G.reach _ hx) (by omega) (by omega)⟩
        refine ⟨e3 G.nd, fun x hx' => ?_, fun x hx' => ?_, (e4 0).2 (.inl G.zero)⟩
        · rcases (e4 x).1 hx' with h | h
          · exact G.rng x h
          · exact (hin x h).1
        · rcases (e4 x).1 hx' with h | h
          · exact G.reach x h
          · exact (hin x h).2
      obtain ⟨l', q1, q2, q3⟩ := ih (i + 1) (l ++ e) (by omega) (by simp; omega) G' (by
        intro p hp j hj
        by_cases hpi : p < i
        · have : (l ++ e).getD p 0 = l.getD p 0 := by rw [List.getD_eq_getElem?_getD, List.getElem?_append_left (by omega), ← List.getD_eq_getElem?_getD]
          rw [this]; exact (e4 _).2 (.inl (hcl p hpi j hj))
        · have hpe : p = i := by omega
          subst hpe
          have : (l ++ e).getD p 0 = l.getD p 0 := by rw [List.getD_eq_getElem?_getD, List.getElem?_append_left (by omega), ← List.getD_eq_getElem?_getD]
          rw [this]; exact (e4 _).2 (.inr (getD_mem _ j (by rw [hrow]; exact hj))))
      refine ⟨l', Ev.step (fun k => by rw [seqs_met.l3]) ?_, q2, q3⟩
      have hc : (I.getD (l.getD i (Int.ofNat 0)).toNat []) = I.getD (l.getD i 0).toNat [] := rfl
      have a1 : (0 : Int) ≤ l.getD i (Int.ofNat 0) := hr.1
      have a2 : l.getD i (Int.ofNat 0) < (I.length : Int) := hr.2
      simp only [if_pos (show (i : Int) < (l.length : Int) by omega), if_pos (show (0 : Int) ≤ (i : Int) by omega), Int.toNat_natCast, if_pos a1, if_pos a2, rd, hc]
      have := met6 (B : Int) I C i (by omega) (I.getD (l.getD i 0).toNat []) _ 0 l rfl (by omega) (by omega) (by omega) l'
      rw [List.drop_zero, e1] at this
      exact this q1
    · refine ⟨l, Ev.step (fun k => by rw [seqs_met.l3]) ?_, G, fun x hx j hj => ?_⟩
      · simp only [if_neg (show ¬ (i : Int) < (l.length : Int) by omega)]; exact Ev.now _
      · obtain ⟨p, hp, e⟩ := mem_getD hx
        have := hcl p (by omega) j hj
        rw [e] at this; exact this

theorem met_ev {B : Nat} {I : List (List Int)} {C : List Int} (F : Fit B I C) : ∃ l, Ev (fun k => seqs_met.f k ((B : Int), I, C, ())) l ∧ GoodL B I l ∧ ∀ x ∈ l, ∀ j, j < B → (I.getD x.toNat []).getD j 0 ∈ l := by
  have n1 := F.n1
  refine met3 F _ 0 [0] rfl (by simp) ⟨by simp, fun x hx => ?_, fun x hx => ?_, by simp⟩ (fun p hp => by omega)
  · simp only [List.mem_singleton] at hx; omega
  · simp only [List.mem_singleton] at hx; subst hx; exact Reach.zero
end Go.Proofs.YtklkcdphcmimoaaSx.SK
namespace Go.Proofs.YtklkcdphcmimoaaSx.SK
def cnt : List Bool → Nat
  | [] => 0
  | b :: l => (if b then 1 else 0) + cnt l
theorem cnt_le (l : List Bool) : cnt l ≤ l.length := by
  induction l with
  | nil => simp [cnt]
  | cons b l ih => simp only [cnt, List.length_cons]; split <;> omega
theorem cnt_set : ∀ (l : List Bool) (x : Nat), x < l.length → l.getD x false = false → cnt (l.set x true) = cnt l + 1 := by
  intro l
  induction l with
  | nil => intro x h; simp at h
  | cons b l ih =>
    intro x h e
    cases x with
    | zero => simp only [List.set_cons_zero, cnt]; have : b = false := by simpa using e
              subst this; simp; omega
    | succ x =>
      simp only [List.set_cons_succ, cnt]
      rw [ih x (by simpa using h) (by simpa using e)]; omega
theorem set_same : ∀ (l : List Bool) (x : Nat), l.getD x false = true → l.set x true = l := by
  intro l
  induction l with
  | nil => intro x h; simp at h
  | cons b l ih =>
    intro x e
    cases x with
    | zero => have : b = true := by simpa using e
              subst this; rfl
    | succ x => rw [List.set_cons_succ, ih x (by simpa using e)]
theorem getD_set (l : List Bool) (x y : Nat) : (l.set x true).getD y false = true ↔ l.getD y false = true ∨ (x = y ∧ y < l.length) := by
  rw [List.getD_eq_getElem?_getD, List.getD_eq_getElem?_getD, List.getElem?_set]
  by_cases h : x = y
  · subst h
    by_cases h2 : x < l.length
    · simp [h2]
    · simp [h2]
  · simp [h]

/-- What a run over entries tells of the flag and the letters met. -/
structure Ran (ws : List Int) (N : Nat) (ag : Bool) (met : List Bool) (ag' : Bool) (met' : List Bool) : Prop where
  len : met'.length = met.length
  mono : ∀ x, met.getD x false = true → met'.getD x false = true
  new : ∀ x, met'.getD x false = true → met.getD x false = true ∨ (x : Int) ∈ ws
  all : ∀ b ∈ ws, met'.getD b.toNat false = true
  keep : ag' = false → ag = false ∧ met' = met
  cnt : cnt met ≤ cnt met'
  up : ag' = true → ag = true ∨ SK.cnt met < SK.cnt met'

def stepR (s : Bool × List Bool) (b : Int) : Bool × List Bool := (s.1 || !s.2.getD b.toNat false, s.2.set b.toNat true)

theorem foldR (N : Nat) (ws : List Int) : ∀ ag met, met.length = N → (∀ b ∈ ws, 0 ≤ b ∧ b < (N : Int)) → Ran ws N ag met (ws.foldl stepR (ag, met)).1 (ws.foldl stepR (ag, met)).2 := by
  induction ws with
  | nil => intro ag met hl _; exact ⟨rfl, fun x h => h, fun x h => .inl h, fun b hb => (by simp at hb), fun h => ⟨h, rfl⟩, Nat.le_refl _, fun h => .inl h⟩
  | cons b ws ih =>
    intro ag met hl hw
    have hb := hw b List.mem_cons_self
    have R := ih (ag || !met.getD b.toNat false) (met.set b.toNat true) (by rw [List.length_set]; exact hl) (fun x hx => hw x (List.mem_cons_of_mem _ hx))
    rw [List.foldl_cons]
    show Ran _ _ _ _ (ws.foldl stepR (ag || !met.getD b.toNat false, met.set b.toNat true)).1 (ws.foldl stepR (ag || !met.getD b.toNat false, met.set b.toNat true)).2
    generalize (ws.foldl stepR (ag || !met.getD b.toNat false, met.set b.toNat true)).1 = ag' at R ⊢
    generalize (ws.foldl stepR (ag || !met.getD b.toNat false, met.set b.toNat true)).2 = met' at R ⊢
    refine ⟨by rw [R.len, List.length_set], fun x h => R.mono x ((getD_set _ _ _).2 (.inl h)), fun x h => ?_, fun x hx => ?_, fun h => ?_, ?_, fun h => ?_⟩
    · rcases R.new x h with h | h
      · rcases (getD_set _ _ _).1 h with h | ⟨h, _⟩
        · exact .inl h
        · exact .inr (by rw [← h]; rw [show ((b.toNat : Nat) : Int) = b by omega]; exact List.mem_cons_self)
      · exact .inr (List.mem_cons_of_mem _ h)
    · rcases List.mem_cons.1 hx with rfl | hx
      · exact R.mono _ ((getD_set _ _ _).2 (.inr ⟨rfl, by omega⟩))
      · exact R.all x hx
    · obtain ⟨h1, h2⟩ := R.keep h
      rw [Bool.or_eq_false_iff] at h1
      have hm : met.getD b.toNat false = true := by simpa using h1.2
      exact ⟨h1.1, by rw [h2, set_same _ _ hm]⟩
    · refine Nat.le_trans ?_ R.cnt
      by_cases hm : met.getD b.toNat false = true
      · rw [set_same _ _ hm]; exact Nat.le_refl _
      · rw [cnt_set _ _ (by omega) ((Bool.not_eq_true _).mp hm)]; omega
    · by_cases hm : met.getD b.toNat false = true
      · have := R.up h
        rw [set_same _ _ hm] at this
        rcases this with t | t
        · rw [hm] at t; left; simpa using t
        · exact .inr t
      · right
        have := R.cnt
        rw [cnt_set _ _ (by omega) ((Bool.not_eq_true _).mp hm)] at this; omega

variable {B : Nat} {I : List (List Int)} {C : List Int}
theorem rk10 (F : Fit B I C) (a : Nat) (ha : a < I.length) : ∀ n j ag met, B - j = n → j ≤ B → met.length = I.length → met.getD a false = true → ∀ r,
    Ev (fun k => evermoreref23_Kernel.l7 k (((I.getD a []).drop j).foldl stepR (ag, met)).1 ((a + 1 : Nat) : Int) (B : Int) I C (((I.getD a []).drop j).foldl stepR (ag, met)).2) r →
    Ev (fun k => evermoreref23_Kernel.l10 k ag (a : Int) (j : Int) (B : Int) I C met) r := by
  intro n
  have b4 := F.b4; have n4 := F.n4
  have hrow := F.row a ha
  induction n with
  | zero =>
    intro j ag met hn hj hl hm r H
    rw [List.drop_eq_nil_of_le (by omega), List.foldl_nil] at H
    refine Ev.step (fun k => by rw [evermoreref23_Kernel.l10]) ?_
    simp only [if_neg (show ¬ (j : Int) < (B : Int) by omega), wrSucc a (by omega)]
    exact H
  | succ n ih =>
    intro j ag met hn hj hl hm r H
    rw [drop_getD 0 (I.getD a []) j (by omega), List.foldl_cons] at H
    have he := F.ent a ha j (by omega)
    refine Ev.step (fun k => by rw [evermoreref23_Kernel.l10]) ?_
    have hm' : met.getD (a : Int).toNat false = true := by rw [Int.toNat_natCast]; exact hm
    have c1 : (0 : Int) ≤ (I.getD a []).getD j (Int.ofNat 0) := he.1
    have c2 : (I.getD a []).getD j (Int.ofNat 0) < (met.length : Int) := by rw [hl]; exact he.2
    simp only [if_pos (show (j : Int) < (B : Int) by omega), if_pos (show (0 : Int) ≤ (a : Int) by omega), if_pos (show (a : Int) < (met.length : Int) by omega), if_pos hm', if_pos (show (a : Int) < (I.length : Int) by omega), if_pos (show (0 : Int) ≤ (j : Int) by omega), rd_nat, if_pos (show (j : Int) < ((I.getD a []).length : Int) by omega), if_pos c1, if_pos c2, wrSucc j (by omega)]
    have hmm : (met.set ((I.getD a []).getD j 0).toNat true).getD a false = true := (getD_set _ _ _).2 (.inl hm)
    cases ag with
    | true =>
      simp only [if_true]
      exact ih (j + 1) true _ (by omega) (by omega) (by rw [List.length_set]; exact hl) hmm r H
    | false =>
      simp only [Bool.false_eq_true, if_false]
      exact ih (j + 1) _ _ (by omega) (by omega) (by rw [List.length_set]; exact hl) hmm r H

structure GoodR (B : Nat) (I : List (List Int)) (met : List Bool) : Prop where
  len : met.length = I.length
  zero : met.getD 0 false = true
  reach : ∀ x, met.getD x false = true → Reach B I x

theorem rk7 (F : Fit B I C) : ∀ n a ag met, I.length - a = n → a ≤ I.length → GoodR B I met →
    ∃ ag' met', GoodR B I met' ∧ cnt met ≤ cnt met' ∧ (ag' = true → ag = true ∨ cnt met < cnt met') ∧ (ag' = false → ag = false ∧ met' = met ∧ ∀ x, a ≤ x → x < I.length → met.getD x false = true → ∀ j, j < B → met.getD ((I.getD x []).getD j 0).toNat false = true) ∧
      ∀ r, Ev (fun k => evermoreref23_Kernel.l4 k ag' (B : Int) I C met') r → Ev (fun k => evermoreref23_Kernel.l7 k ag (a : Int) (B : Int) I C met) r := by
  intro n
  have b4 := F.b4; have b2 := F.b2; have n4 := F.n4
  induction n with
  | zero =>
    intro a ag met hn ha G
    refine ⟨ag, met, G, Nat.le_refl _, fun h => .inl h, fun h => ⟨h, rfl, fun x h1 h2 => by omega⟩, fun r H => Ev.step (fun k => by rw [evermoreref23_Kernel.l7]) ?_⟩
    simp only [if_neg (show ¬ (a : Int) < (I.length : Int) by omega)]
    exact H
  | succ n ih =>
    intro a ag met hn ha G
    have hl := G.len
    by_cases hm : met.getD a false = true
    · have R := foldR I.length (I.getD a []) ag met hl (fun b hb => by
        obtain ⟨j, hj, e⟩ := mem_getD hb
        rw [← e]; exact F.ent a (by omega) j (by have := F.row a (by omega); omega))
      have K := rk10 F a (by omega) _ 0 ag met rfl (by omega) hl hm
      rw [List.drop_zero] at K
      generalize ((I.getD a []).foldl stepR (ag, met)).1 = ag1 at R K
      generalize ((I.getD a []).foldl stepR (ag, met)).2 = met1 at R K
      have G1 : GoodR B I met1 := by
        refine ⟨by rw [R.len, hl], R.mono _ G.zero, fun x hx => ?_⟩
        rcases R.new x hx with h | h
        · exact G.reach x h
        · obtain ⟨j, hj, e⟩ := mem_getD h
          have := Reach.step a j (G.reach a hm) (by omega) (by have := F.row a (by omega); omega)
          rw [e, Int.toNat_natCast] at this; exact this
      obtain ⟨ag', met', q1, q2, q3, q4, q5⟩ := ih (a + 1) ag1 met1 (by omega) (by omega) G1
      refine ⟨ag', met', q1, Nat.le_trans R.cnt q2, fun h => ?_, fun h => ?_, fun r H => Ev.step (fun k => by rw [evermoreref23_Kernel.l7]) ?_⟩
      · rcases q3 h with t | t
        · rcases R.up t with t | t
          · exact .inl t
          · exact .inr (by omega)
        · exact .inr (by have := R.cnt; omega)
      · obtain ⟨t1, t2, t3⟩ := q4 h
        obtain ⟨s1, s2⟩ := R.keep t1
        subst s2
        refine ⟨s1, t2, fun x h1 h2 h3 j hj => ?_⟩
        by_cases hx : x = a
        · subst hx; exact R.all _ (getD_mem _ j (by rw [F.row x h2]; exact hj))
        · exact t3 x (by omega) h2 h3 j hj
      · simp only [if_pos (show (a : Int) < (I.length : Int) by omega)]
        exact K r (q5 r H)
    · obtain ⟨ag', met', q1, q2, q3, q4, q5⟩ := ih (a + 1) ag met (by omega) (by omega) G
      refine ⟨ag', met', q1, q2, q3, fun h => ?_, fun r H => Ev.step (fun k => by rw [evermoreref23_Kernel.l7]) ?_⟩
      · obtain ⟨t1, t2, t3⟩ := q4 h
        refine ⟨t1, t2, fun x h1 h2 h3 j hj => ?_⟩
        by_cases hx : x = a
        · subst hx; exact absurd h3 hm
        · exact t3 x (by omega) h2 h3 j hj
      · simp only [if_pos (show (a : Int) < (I.length : Int) by omega)]
        refine Ev.step (fun k => by rw [evermoreref23_Kernel.l10]) ?_
        have hm' : ¬ met.getD (a : Int).toNat false = true := by rw [Int.toNat_natCast]; exact hm
        simp only [if_pos (show (0 : Int) < (B : Int) by omega), if_pos (show (0 : Int) ≤ (a : Int) by omega), if_pos (show (a : Int) < (met.length : Int) by omega), if_neg hm', wrSucc a (by omega)]
        exact q5 r H

theorem rk4 (F : Fit B I C) : ∀ n met, I.length - cnt met = n → GoodR B I met →
    ∃ met', GoodR B I met' ∧ (∀ x, x < I.length → met'.getD x false = true → ∀ j, j < B → met'.getD ((I.getD x []).getD j 0).toNat false = true) ∧
      ∀ r, Ev (fun k => (evermoreref23_kept.f k C met').bind fun r3 => evermoreref23_Kernel.l18 k 0 (B : Int) I C met' [r3]) r → Ev (fun k => evermoreref23_Kernel.l4 k true (B : Int) I C met) r := by
  intro n
  induction n using Nat.strongRecOn with
  | _ n ih =>
    intro met hn G
    obtain ⟨ag', met', q1, q2, q3, q4, q5⟩ := rk7 F _ 0 false met rfl (by omega) G
    cases ag' with
    | true =>
      have hlt : cnt met < cnt met' := (q3 rfl).resolve_left (by decide)
      have hle := cnt_le met'
      rw [q1.len] at hle
      obtain ⟨m2, p1, p2, p3⟩ := ih (I.length - cnt met') (by omega) met' rfl q1
      refine ⟨m2, p1, p2, fun r H => Ev.step (fun k => by rw [evermoreref23_Kernel.l4]) ?_⟩
      simp only [if_true]
      exact q5 r (p3 r H)
    | false =>
      obtain ⟨t1, t2, t3⟩ := q4 rfl
      subst t2
      refine ⟨met', q1, fun x h1 h2 => t3 x (by omega) h1 h2, fun r H => Ev.step (fun k => by rw [evermoreref23_Kernel.l4]) ?_⟩
      simp only [if_true]
      refine q5 r (Ev.step (fun k => by rw [evermoreref23_Kernel.l4]) ?_)
      simp only [Bool.false_eq_true, if_false]
      exact H

theorem rkernel (F : Fit B I C) : ∃ met', GoodR B I met' ∧ (∀ x, x < I.length → met'.getD x false = true → ∀ j, j < B → met'.getD ((I.getD x []).getD j 0).toNat false = true) ∧
      ∀ r, Ev (fun k => (evermoreref23_kept.f k C met').bind fun r3 => evermoreref23_Kernel.l18 k 0 (B : Int) I C met' [r3]) r → Ev (fun k => evermoreref23_Kernel.f k ((B : Int), I, C, ())) r := by
  have n1 := F.n1; have n4 := F.n4
  obtain ⟨m2, p1, p2, p3⟩ := rk4 F _ ((List.replicate I.length false).set 0 true) rfl ⟨by simp, (getD_set _ _ _).2 (.inr ⟨rfl, by simp; omega⟩), fun x hx => by
    rcases (getD_set _ _ _).1 hx with h | ⟨h, _⟩
    · rw [List.getD_eq_getElem?_getD, List.getElem?_replicate] at h
      split at h <;> simp at h
    · subst h; exact Reach.zero⟩
  refine ⟨m2, p1, p2, fun r H => ?_⟩
  have e := p3 r H
  refine ⟨e.choose, fun k hk => ?_⟩
  have := e.choose_spec k hk
  simp only [evermoreref23_Kernel.f]
  rw [if_pos (by omega), if_pos (by omega), if_pos (by omega), if_pos (by decide), if_pos (by simp; omega)]
  exact this
end Go.Proofs.YtklkcdphcmimoaaSx.SK
namespace Go.Proofs.YtklkcdphcmimoaaSx.SK
variable {B : Nat} {I : List (List Int)} {C : List Int}
theorem agree {l : List Int} {met : List Bool} (F : Fit B I C) (G : GoodL B I l) (hc : ∀ x ∈ l, ∀ j, j < B → (I.getD x.toNat []).getD j 0 ∈ l) (R : GoodR B I met) (hr : ∀ x, x < I.length → met.getD x false = true → ∀ j, j < B → met.getD ((I.getD x []).getD j 0).toNat false = true) (a : Nat) (ha : a < I.length) :
    met.getD a false = true ↔ (a : Int) ∈ l := by
  constructor
  · intro h
    have key : ∀ x, Reach B I x → (x : Int) ∈ l := by
      intro x hx
      induction hx with
      | zero => exact G.zero
      | step a j _ h1 h2 ih =>
        have := hc _ ih j h2
        rw [Int.toNat_natCast] at this
        have e := F.ent a h1 j h2
        rw [show (((I.getD a []).getD j 0).toNat : Int) = (I.getD a []).getD j 0 by omega]; exact this
    exact key a (R.reach a h)
  · intro h
    have key : ∀ x, Reach B I x → met.getD x false = true := by
      intro x hx
      induction hx with
      | zero => exact R.zero
      | step a j _ h1 h2 ih => exact hr a h1 ih j h2
    have := G.reach _ h
    rw [Int.toNat_natCast] at this
    exact key a this

def keptF (met : List Bool) (l : List Int) : List Int := (List.range' 0 l.length).map fun a => if met.getD a false = true then l.getD a 0 else 0
theorem kept_l3 (met : List Bool) (l : List Int) (hl : l.length = met.length) (hs : l.length ≤ 4) : ∀ n a out, l.length - a = n → a ≤ l.length → out.length ≤ 100 → 
    Ev (fun k => evermoreref23_kept.l3 k l met (a : Int) out) (out ++ (List.range' a n).map fun a => if met.getD a false = true then l.getD a 0 else 0) := by
  intro n
  suffices H : ∀ n a out, l.length - a = n → a ≤ l.length → out.length + n ≤ 110 → Ev (fun k => evermoreref23_kept.l3 k l met (a : Int) out) (out ++ (List.range' a n).map fun a => if met.getD a false = true then l.getD a 0 else 0) from fun a out h1 h2 h3 => H n a out h1 h2 (by omega)
  clear n
  intro n
  induction n with
  | zero =>
    intro a out hn ha ho
    refine Ev.step (fun k => by rw [evermoreref23_kept.l3]) ?_
    simp only [if_neg (show ¬ (a : Int) < (l.length : Int) by omega)]
    exact (Ev.now _).cast (by simp)
  | succ n ih =>
    intro a out hn ha ho
    refine Ev.step (fun k => by rw [evermoreref23_kept.l3]) ?_
    simp only [if_pos (show (a : Int) < (l.length : Int) by omega), if_pos (show (0 : Int) ≤ (a : Int) by omega), if_pos (show (a : Int) < (met.length : Int) by omega), rd_nat]
    have go : ∀ x, x = (if met.getD a false = true then l.getD a 0 else 0) → Ev (fun k => evermoreref23_kept.j8 k l met (a : Int) x out) (out ++ (List.range' a (n + 1)).map fun a => if met.getD a false = true then l.getD a 0 else 0) := by
      intro x hx
      refine Ev.step (fun k => by rw [evermoreref23_kept.j8]) ?_
      simp only [if_pos (short (out ++ [x]).length (by simp; omega)), wrSucc a (by omega)]
      refine (ih (a + 1) (out ++ [x]) (by omega) (by omega) (by simp; omega)).cast ?_
      rw [List.range'_succ, List.map_cons, List.append_assoc, List.singleton_append, hx]
    by_cases hm : met.getD a false = true
    · simp only [if_pos hm]; exact go _ (by rw [if_pos hm]; rfl)
    · simp only [if_neg hm]; exact go _ (by rw [if_neg hm])
theorem kept_ev (met : List Bool) (l : List Int) (hl : l.length = met.length) (hs : l.length ≤ 4) : Ev (fun k => evermoreref23_kept.f k l met) (keptF met l) :=
  (kept_l3 met l hl hs _ 0 [] rfl (by omega) (by simp)).cast (by simp [keptF])

def encB (x : Int) : List Int := [IntKind.u8.wrap x, IntKind.u8.wrap (x.fdiv (2 ^ min (Int.toNat 8) IntKind.i64.bits))]
theorem key_l3 (w : List Int) (hw : w.length ≤ 1000) : ∀ n i acc, w.length - i = n → i ≤ w.length → acc.length + 2 * n ≤ 10000 →
    Ev (fun k => det_Key.l3 k w (w.length : Int) (i : Int) acc) (strOf (acc ++ (w.drop i).flatMap encB)) := by
  intro n
  induction n with
  | zero =>
    intro i acc hn hi ha
    refine Ev.step (fun k => by rw [det_Key.l3]) ?_
    simp only [if_neg (show ¬ (i : Int) < (w.length : Int) by omega)]
    rw [List.drop_eq_nil_of_le (by omega), List.flatMap_nil, List.append_nil]
    exact Ev.now _
  | succ n ih =>
    intro i acc hn hi ha
    refine Ev.step (fun k => by rw [det_Key.l3]) ?_
    have e : acc ++ [IntKind.u8.wrap (rd (Int.ofNat 0) w (i : Int)), IntKind.u8.wrap ((rd (Int.ofNat 0) w (i : Int)).fdiv (2 ^ min (Int.toNat 8) IntKind.i64.bits))] = acc ++ encB (w.getD i 0) := by rw [rd_nat]; rfl
    have hl : (acc ++ encB (w.getD i 0)).length = acc.length + 2 := by rw [List.length_append]; rfl
    simp only [if_pos (show (i : Int) < (w.length : Int) by omega), if_pos (show (0 : Int) ≤ (i : Int) by omega), e, if_pos (short (acc ++ encB (w.getD i 0)).length (by omega)), wrSucc i (by omega)]
    refine (ih (i + 1) _ (by omega) (by omega) (by omega)).cast ?_
    rw [drop_getD 0 w i (by omega), List.flatMap_cons, List.append_assoc]
theorem key_ev (w : List Int) (hw : w.length ≤ 1000) : Ev (fun k => det_Key.f k w) (strOf (w.flatMap encB)) :=
  key_l3 w hw _ 0 [] rfl (by omega) (by simp; omega)

def keyOf (c f : List Int) : ByteArray := strOf ((c.map fun a => f.getD a.toNat 0).flatMap encB)
theorem k1_l3 (f c : List Int) (hc : ∀ x ∈ c, 0 ≤ x ∧ x < (f.length : Int)) (hl : c.length ≤ 100) : ∀ n i acc, c.length - i = n → i ≤ c.length → acc.length + n ≤ 900 → 
    Ev (fun k => seqs_Kernel_1.l3 k f (c.length : Int) (i : Int) c acc) (strOf ((acc ++ (c.drop i).map fun a => f.getD a.toNat 0).flatMap encB), c) := by
  intro n
  induction n with
  | zero =>
    intro i acc hn hi ha
    refine Ev.step (fun k => by rw [seqs_Kernel_1.l3]) ?_
    simp only [if_neg (show ¬ (i : Int) < (c.length : Int) by omega)]
    rw [List.drop_eq_nil_of_le (by omega), List.map_nil, List.append_nil]
    exact Ev.bind (key_ev acc (by omega)) (Ev.now _)
  | succ n ih =>
    intro i acc hn hi ha
    have hx := hc _ (getD_mem c i (by omega))
    have c1 : (0 : Int) ≤ c.getD i (Int.ofNat 0) := hx.1
    have c2 : c.getD i (Int.ofNat 0) < (f.length : Int) := hx.2
    refine Ev.step (fun k => by rw [seqs_Kernel_1.l3]) ?_
    simp only [if_pos (show (i : Int) < (c.length : Int) by omega), if_pos (show (0 : Int) ≤ (i : Int) by omega), Int.toNat_natCast, if_pos c1, if_pos c2, rd, if_pos (short (acc ++ [f.getD (c.getD i (Int.ofNat 0)).toNat (Int.ofNat 0)]).length (by simp; omega)), wrSucc i (by omega)]
    refine (ih (i + 1) _ (by omega) (by omega) (by simp; omega)).cast ?_
    rw [drop_getD 0 c i (by omega), List.map_cons, List.append_assoc, List.singleton_append]; rfl
theorem k1_ev (f c : List Int) (hc : ∀ x ∈ c, 0 ≤ x ∧ x < (f.length : Int)) (hl : c.length ≤ 100) : Ev (fun k => seqs_Kernel_1.f k f c) (keyOf c f, c) :=
  k1_l3 f c hc hl _ 0 [] rfl (by omega) (by simp; omega)

theorem strOf_data (L : List Int) : ∀ r : ByteArray, (L.foldl (fun r n => r.push (UInt8.ofNat n.toNat)) r).data.toList = r.data.toList ++ L.map fun n => UInt8.ofNat n.toNat := by
  induction L with
  | nil => intro r; simp
  | cons a L ih => intro r; rw [List.foldl_cons, ih]; simp [ByteArray.push]
theorem enc_eq (x : Int) (h0 : 0 ≤ x) (h1 : x ≤ 9) : (encB x).map (fun n => UInt8.ofNat n.toNat) = [UInt8.ofNat x.toNat, 0] := by
  have : x = 0 ∨ x = 1 ∨ x = 2 ∨ x = 3 ∨ x = 4 ∨ x = 5 ∨ x = 6 ∨ x = 7 ∨ x = 8 ∨ x = 9 := by omega
  rcases this with h | h | h | h | h | h | h | h | h | h <;> subst h <;> decide
theorem enc_inj : ∀ u v : List Int, u.length = v.length → (∀ x ∈ u, 0 ≤ x ∧ x ≤ 9) → (∀ x ∈ v, 0 ≤ x ∧ x ≤ 9) → (u.flatMap encB).map (fun n => UInt8.ofNat n.toNat) = (v.flatMap encB).map (fun n => UInt8.ofNat n.toNat) → u = v := by
  intro u
  induction u with
  | nil => intro v h _ _ _; cases v with
    | nil => rfl
    | cons => simp at h
  | cons a u ih =>
    intro v h hu hv e
    cases v with
    | nil => simp at h
    | cons b v =>
      have ha := hu a List.mem_cons_self
      have hb := hv b List.mem_cons_self
      rw [List.flatMap_cons, List.flatMap_cons, List.map_append, List.map_append, enc_eq a ha.1 ha.2, enc_eq b hb.1 hb.2] at e
      simp only [List.cons_append, List.nil_append, List.cons.injEq, true_and] at e
      have e1 := congrArg UInt8.toNat e.1
      have e2 := ih v (by simpa using h) (fun x hx => hu x (List.mem_cons_of_mem _ hx)) (fun x hx => hv x (List.mem_cons_of_mem _ hx)) e.2
      have : ∀ n : Nat, n ≤ 9 → (UInt8.ofNat n).toNat = n := by intro n hn; simp; omega
      rw [this _ (by omega), this _ (by omega)] at e1
      rw [e2, show a = b by omega]

/-- What a row may be. -/
def RowOk (N : Nat) (f : List Int) : Prop := f.length = N ∧ ∀ a, a < N → 0 ≤ f.getD a 0 ∧ f.getD a 0 ≤ 9
theorem key_iff {N : Nat} {c f g : List Int} {met : List Bool} (hf : RowOk N f) (hg : RowOk N g) (hc : ∀ x ∈ c, 0 ≤ x ∧ x < (N : Int)) (hm : ∀ a, a < N → (met.getD a false = true ↔ (a : Int) ∈ c)) :
    keyOf c f = keyOf c g ↔ keptF met f = keptF met g := by
  have ok : ∀ h, RowOk N h → ∀ x ∈ c.map (fun a => h.getD a.toNat 0), 0 ≤ x ∧ x ≤ 9 := by
    intro h hh x hx
    obtain ⟨a, ha, rfl⟩ := List.mem_map.1 hx
    have := hc a ha
    exact hh.2 _ (by omega)
  constructor
  · intro e
    have e1 := congrArg (fun b : ByteArray => b.data.toList) e
    simp only [keyOf, strOf, strOf_data] at e1
    have e2 := enc_inj _ _ (by simp) (ok f hf) (ok g hg) (by simpa using e1)
    rw [keptF, keptF, hf.1, hg.1]
    apply List.map_congr_left
    intro a ha
    rw [List.mem_range'_1] at ha
    by_cases h : met.getD a false = true
    · rw [if_pos h, if_pos h]
      have hmem := (hm a (by omega)).1 h
      have := (List.map_inj_left.1 e2) _ hmem
      simpa using this
    · rw [if_neg h, if_neg h]
  · intro e
    rw [keptF, keptF, hf.1, hg.1] at e
    have e' := List.map_inj_left.1 e
    rw [keyOf, keyOf]
    congr 2
    apply List.map_congr_left
    intro a ha
    have hr := hc a ha
    have := e' a.toNat (by rw [List.mem_range'_1]; omega)
    have hmm := (hm a.toNat (by omega)).2 (by rw [show ((a.toNat : Nat) : Int) = a by omega]; exact ha)
    simpa only [if_pos hmm] using this
end Go.Proofs.YtklkcdphcmimoaaSx.SK
namespace Go.Proofs.YtklkcdphcmimoaaSx.SK
variable {B : Nat} {I : List (List Int)} {C : List Int}
def S (c : List Int) (L : List (List Int)) : List (ByteArray × Int) := L.map fun f => (keyOf c f, (1 : Int))
theorem mget_S (c : List Int) (L : List (List Int)) (x : ByteArray) : mget .str (.int .i64) (S c L) x = (0 : Int) ↔ ∀ f ∈ L, keyOf c f ≠ x := by
  induction L with
  | nil => exact ⟨fun _ f hf => by simp at hf, fun _ => rfl⟩
  | cons a L ih =>
    show (bif decide (x = keyOf c a) then (1 : Int) else mget .str (.int .i64) (S c L) x) = 0 ↔ _
    by_cases h : x = keyOf c a
    · rw [decide_eq_true h, cond_true]
      exact ⟨fun e => absurd e (by decide), fun e => absurd h.symm (e a List.mem_cons_self)⟩
    · rw [decide_eq_false h, cond_false, ih]
      simp only [List.mem_cons, forall_eq_or_imp]
      exact ⟨fun e => ⟨fun t => h t.symm, e⟩, fun e => e.2⟩
theorem mput_S (c : List Int) (L : List (List Int)) (g : List Int) (h : ∀ f ∈ L, keyOf c f ≠ keyOf c g) : mput .str (.int .i64) (S c L) (keyOf c g) (Int.ofNat 1) = S c (L ++ [g]) := by
  induction L with
  | nil => rfl
  | cons a L ih =>
    show (bif decide (keyOf c g = keyOf c a) then _ else _) = _
    rw [decide_eq_false (fun e => h a List.mem_cons_self e.symm), cond_false]
    exact congrArg (List.cons (keyOf c a, (1 : Int))) (ih (fun f hf => h f (List.mem_cons_of_mem _ hf)))

def nextF (I : List (List Int)) (N : Nat) (f : List Int) (d : Nat) : List Int := (List.range' 0 N).map fun a => f.getD ((I.getD a []).getD d 0).toNat 0
theorem getD_map (g : Nat → Int) (N a : Nat) (h : a < N) : ((List.range' 0 N).map g).getD a 0 = g a := by
  simp [List.getD_eq_getElem?_getD, h]
theorem next_len (N : Nat) (f : List Int) (d : Nat) : (nextF I N f d).length = N := by simp [nextF]
theorem next_ok (F : Fit B I C) {f : List Int} (hf : RowOk I.length f) (d : Nat) (hd : d < B) : RowOk I.length (nextF I I.length f d) := by
  refine ⟨next_len _ _ _, fun a ha => ?_⟩
  rw [nextF, getD_map _ _ _ ha]
  have := F.ent a ha d hd
  exact hf.2 _ (by omega)
theorem kept_len (met : List Bool) (f : List Int) : (keptF met f).length = f.length := by simp [keptF]
theorem kept_next (F : Fit B I C) {met : List Bool} (hr : ∀ x, x < I.length → met.getD x false = true → ∀ j, j < B → met.getD ((I.getD x []).getD j 0).toNat false = true) {f : List Int} (hf : RowOk I.length f) (d : Nat) (hd : d < B) :
    keptF met (nextF I I.length (keptF met f) d) = keptF met (nextF I I.length f d) := by
  have k1 : ∀ g : List Int, g.length = I.length → keptF met g = (List.range' 0 I.length).map fun a => if met.getD a false = true then g.getD a 0 else 0 := by intro g hg; rw [keptF, hg]
  rw [k1 _ (next_len ..), k1 _ (next_len ..)]
  apply List.map_congr_left
  intro a ha
  rw [List.mem_range'_1] at ha
  by_cases h : met.getD a false = true
  · rw [if_pos h, if_pos h, nextF, nextF, getD_map _ _ _ (by omega), getD_map _ _ _ (by omega)]
    have he := F.ent a (by omega) d hd
    rw [k1 f hf.1, getD_map _ _ _ (by omega), if_pos (hr a (by omega) h d hd)]
  · rw [if_neg h, if_neg h]

theorem p17 (F : Fit B I C) (f : List Int) (Q : List (List Int)) (hf : RowOk I.length f) (d : Nat) (hd : d < B) (seen : List (ByteArray × Int)) (c : List Int) (r : Int × Int)
    (H : Ev (fun k => (seqs_Kernel_1.f k (nextF I I.length f d) c).bind fun r3 =>
      if mget Ty.str (Ty.int IntKind.i64) seen r3.fst = 0 then
       if ((f :: Q) ++ [nextF I I.length f d]).length.blt 1000000000 = true then
       seqs_Kernel.j25 k C (B : Int) (d : Int) (B : Int) I C (mput Ty.str (Ty.int IntKind.i64) seen r3.fst (Int.ofNat 1)) ((f :: Q) ++ [nextF I I.length f d]) r3.snd
       else none
      else seqs_Kernel.j25 k C (B : Int) (d : Int) (B : Int) I C seen (f :: Q) r3.snd) r) : ∀ n a, I.length - a = n → a ≤ I.length →
    Ev (fun k => seqs_Kernel.l17 k C (d : Int) (B : Int) (d : Int) I (I.length : Int) (a : Int) (B : Int) I C seen (f :: Q) ((List.range' 0 a).map (fun a => f.getD ((I.getD a []).getD d 0).toNat 0) ++ List.replicate n 0) c) r := by
  intro n
  have n4 := F.n4
  induction n with
  | zero =>
    intro a hn ha
    have : a = I.length := by omega
    subst this
    refine Ev.step (fun k => by rw [seqs_Kernel.l17]) ?_
    simp only [if_neg (show ¬ (I.length : Int) < (I.length : Int) by omega), List.replicate_zero, List.append_nil]
    exact H
  | succ n ih =>
    intro a hn ha
    have he := F.ent a (by omega) d hd
    have hrow := F.row a (by omega)
    refine Ev.step (fun k => by rw [seqs_Kernel.l17]) ?_
    have c1 : (0 : Int) ≤ (I.getD a []).getD d (Int.ofNat 0) := he.1
    have c2 : (I.getD a []).getD d (Int.ofNat 0) < (f.length : Int) := by rw [hf.1]; exact he.2
    have c3 : (0 : Int) < (((f :: Q).length : Nat) : Int) := by rw [List.length_cons]; omega
    have c4 : (a : Int) < ((((List.range' 0 a).map (fun a => f.getD ((I.getD a []).getD d 0).toNat 0) ++ List.replicate (n + 1) (0 : Int)).length : Nat) : Int) := by simp; omega
    have c5 : (f :: Q).getD (Int.toNat 0) [] = f := rfl
    simp only [if_pos (show (a : Int) < (I.length : Int) by omega), if_pos (show (0 : Int) ≤ (a : Int) by omega), if_pos c3, if_pos (show (0 : Int) ≤ (d : Int) by omega), rd_nat, if_pos (show (d : Int) < ((I.getD a []).length : Int) by omega), if_pos c1, c5, if_pos c2, if_pos c4, wrSucc a (by omega), Int.toNat_natCast]
    have e : ((List.range' 0 a).map (fun a => f.getD ((I.getD a []).getD d 0).toNat 0) ++ List.replicate (n + 1) (0 : Int)).set a (rd (Int.ofNat 0) f ((I.getD a []).getD d (Int.ofNat 0))) = (List.range' 0 (a + 1)).map (fun a => f.getD ((I.getD a []).getD d 0).toNat 0) ++ List.replicate n 0 := by
      rw [List.set_append_right _ _ (by simp), List.length_map, List.length_range', Nat.sub_self, List.replicate_succ, List.set_cons_zero, List.range'_1_concat, List.map_append, List.append_assoc]
      simp only [List.map_cons, List.map_nil, List.singleton_append, Nat.zero_add]
      rfl
    rw [e]
    exact ih (a + 1) (by omega) (by omega)

theorem words_l4 (a b : List Int) (ha : a.length ≤ 1000) (hb : a.length = b.length) : ∀ n i, a.length - i = n → i ≤ a.length → Ev (fun k => evermoreref1_Words.l4 k a b (i : Int)) (decide (a.drop i = b.drop i)) := by
  intro n
  induction n with
  | zero =>
    intro i hn hi
    refine Ev.step (fun k => by rw [evermoreref1_Words.l4]) ?_
    simp only [if_neg (show ¬ (i : Int) < (a.length : Int) by omega)]
    rw [List.drop_eq_nil_of_le (by omega), List.drop_eq_nil_of_le (by omega)]; exact Ev.now _
  | succ n ih =>
    intro i hn hi
    refine Ev.step (fun k => by rw [evermoreref1_Words.l4]) ?_
    simp only [if_pos (show (i : Int) < (a.length : Int) by omega), if_pos (show (0 : Int) ≤ (i : Int) by omega), if_pos (show (i : Int) < (b.length : Int) by omega), rd_nat, wrSucc i (by omega)]
    rw [drop_getD (Int.ofNat 0) a i (by omega), drop_getD (Int.ofNat 0) b i (by omega)]
    by_cases h1 : a.getD i (Int.ofNat 0) = b.getD i (Int.ofNat 0)
    · simp only [if_pos h1]; refine (ih (i + 1) (by omega) (by omega)).cast ?_; simp only [List.cons.injEq, h1, true_and]
    · simp only [if_neg h1]; refine (Ev.now _).cast ?_; simp only [List.cons.injEq, h1, false_and, decide_false]
theorem words_ev (a b : List Int) (ha : a.length ≤ 1000) : Ev (fun k => evermoreref1_Words.f k a b) (decide (a = b)) := by
  by_cases h : a.length = b.length
  · simp only [evermoreref1_Words.f, if_pos (show (a.length : Int) = (b.length : Int) by omega)]
    exact words_l4 a b ha h _ 0 rfl (by omega)
  · simp only [evermoreref1_Words.f, if_neg (show ¬ (a.length : Int) = (b.length : Int) by omega)]
    exact (Ev.now _).cast (decide_eq_false (fun e => h (congrArg _ e))).symm

theorem r31 (met : List Bool) (i d : Nat) (L : List (List Int)) (x : List Int) (hL : L.length ≤ 100000) (hw : ∀ w ∈ L, w.length ≤ 1000) (r : Int) (H : Ev (fun k => evermoreref23_Kernel.j22 k (i : Int) (d : Int) (B : Int) I C met (if x ∈ L then L else L ++ [x])) r) : ∀ n q, L.length - q = n → q ≤ L.length → (x ∉ L.take q) →
    Ev (fun k => evermoreref23_Kernel.l31 k (i : Int) (d : Int) false (q : Int) (B : Int) I C met L x) r := by
  intro n
  induction n with
  | zero =>
    intro q hn hq hx
    rw [List.take_of_length_le (by omega)] at hx
    rw [if_neg hx] at H
    refine Ev.step (fun k => by rw [evermoreref23_Kernel.l31]) ?_
    simp only [if_neg (show ¬ (q : Int) < (L.length : Int) by omega), Bool.false_eq_true, if_false, if_pos (short (L ++ [x]).length (by simp; omega))]
    exact H
  | succ n ih =>
    intro q hn hq hx
    refine Ev.step (fun k => by rw [evermoreref23_Kernel.l31]) ?_
    have hmem : L.getD q [] ∈ L := by rw [List.getD_eq_getElem?_getD, List.getElem?_eq_getElem (by omega)]; exact List.getElem_mem (by omega)
    simp only [if_pos (show (q : Int) < (L.length : Int) by omega), if_pos (show (0 : Int) ≤ (q : Int) by omega), Bool.false_eq_true, if_false, Int.toNat_natCast, wrSucc q (by omega)]
    refine Ev.bind (words_ev (L.getD q []) x (hw _ hmem)) ?_
    by_cases e : L.getD q [] = x
    · rw [if_pos (e ▸ hmem)] at H
      simp only [decide_eq_true e]
      refine Ev.step (fun k => by rw [evermoreref23_Kernel.l31]) ?_
      by_cases hq1 : ((q + 1 : Nat) : Int) < (L.length : Int)
      · simp only [if_pos hq1, if_true]; exact H
      · simp only [if_neg hq1, if_true]; exact H
    · simp only [decide_eq_false e]
      refine ih (q + 1) (by omega) (by omega) ?_
      rw [List.take_succ_eq_append_getElem (by omega), List.mem_append, List.mem_singleton]
      rintro (h | h)
      · exact hx h
      · apply e; rw [List.getD_eq_getElem?_getD, List.getElem?_eq_getElem (by omega)]; exact h.symm

theorem r25 (F : Fit B I C) (met : List Bool) (i d : Nat) (hd : d < B) (L : List (List Int)) (f : List Int) (hf : f.length = I.length) (hi : i < L.length) (he : L.getD i [] = f) (r : Int)
    (H : Ev (fun k => (evermoreref23_kept.f k (nextF I I.length f d) met).bind fun r3 => evermoreref23_Kernel.l31 k (i : Int) (d : Int) false 0 (B : Int) I C met L r3) r) : ∀ n a, I.length - a = n → a ≤ I.length →
    Ev (fun k => evermoreref23_Kernel.l25 k (i : Int) (d : Int) (a : Int) (B : Int) I C met L ((List.range' 0 a).map (fun a => f.getD ((I.getD a []).getD d 0).toNat 0))) r := by
  intro n
  have n4 := F.n4
  induction n with
  | zero =>
    intro a hn ha
    have : a = I.length := by omega
    subst this
    refine Ev.step (fun k => by rw [evermoreref23_Kernel.l25]) ?_
    simp only [if_neg (show ¬ (I.length : Int) < (I.length : Int) by omega)]
    exact H
  | succ n ih =>
    intro a hn ha
    have hent := F.ent a (by omega) d hd
    have hrow := F.row a (by omega)
    refine Ev.step (fun k => by rw [evermoreref23_Kernel.l25]) ?_
    have c1 : (0 : Int) ≤ (I.getD a []).getD d (Int.ofNat 0) := hent.1
    have c2 : (I.getD a []).getD d (Int.ofNat 0) < (f.length : Int) := by rw [hf]; exact hent.2
    have e : (List.range' 0 a).map (fun a => f.getD ((I.getD a []).getD d 0).toNat 0) ++ [rd (Int.ofNat 0) f ((I.getD a []).getD d (Int.ofNat 0))] = (List.range' 0 (a + 1)).map (fun a => f.getD ((I.getD a []).getD d 0).toNat 0) := by
      rw [List.range'_1_concat, List.map_append]
      simp only [List.map_cons, List.map_nil, Nat.zero_add]
      rfl
    simp only [if_pos (show (a : Int) < (I.length : Int) by omega), if_pos (show (0 : Int) ≤ (i : Int) by omega), if_pos (show (i : Int) < (L.length : Int) by omega), if_pos (show (0 : Int) ≤ (a : Int) by omega), if_pos (show (0 : Int) ≤ (d : Int) by omega), rd_nat, if_pos (show (d : Int) < ((I.getD a []).length : Int) by omega), if_pos c1, Int.toNat_natCast, he, if_pos c2, e, if_pos (short ((List.range' 0 (a + 1)).map (fun a => f.getD ((I.getD a []).getD d 0).toNat 0)).length (by simp; omega)), wrSucc a (by omega)]
    exact ih (a + 1) (by omega) (by omega)
end Go.Proofs.YtklkcdphcmimoaaSx.SK
namespace Go.Proofs.YtklkcdphcmimoaaSx.SK
variable {B : Nat} {I : List (List Int)} {C : List Int}
def allL : Nat → List (List Int)
  | 0 => [[]]
  | n + 1 => (allL n).flatMap fun w => [0, 1, 2, 3, 4, 5, 6, 7, 8, 9].map fun a => (a : Int) :: w
theorem sum_ten (l : List (List Int)) : (l.map fun _ => 10).sum = l.length * 10 := by
  induction l with
  | nil => rfl
  | cons a l ih => rw [List.map_cons, List.sum_cons, ih, List.length_cons]; omega
theorem allL_len (n : Nat) : (allL n).length = 10 ^ n := by
  induction n with
  | zero => rfl
  | succ n ih => rw [allL, List.length_flatMap]; simp only [List.length_map, List.length_cons, List.length_nil]; rw [sum_ten, ih, Nat.pow_succ]
theorem allL_mem : ∀ (w : List Int), (∀ x ∈ w, 0 ≤ x ∧ x ≤ 9) → w ∈ allL w.length := by
  intro w
  induction w with
  | nil => intro _; simp [allL]
  | cons a w ih =>
    intro h
    rw [List.length_cons, allL, List.mem_flatMap]
    refine ⟨w, ih fun x hx => h x (List.mem_cons_of_mem _ hx), ?_⟩
    rw [List.mem_map]
    refine ⟨a, ?_, rfl⟩
    have := h a List.mem_cons_self
    have : a = 0 ∨ a = 1 ∨ a = 2 ∨ a = 3 ∨ a = 4 ∨ a = 5 ∨ a = 6 ∨ a = 7 ∨ a = 8 ∨ a = 9 := by omega
    simpa using this
theorem nodup_sub {α : Type} [DecidableEq α] : ∀ (L T : List α), L.Nodup → (∀ x ∈ L, x ∈ T) → L.length ≤ T.length := by
  intro L
  induction L with
  | nil => intro T _ _; simp
  | cons a L ih =>
    intro T hn h
    rw [List.nodup_cons] at hn
    have ha := h a List.mem_cons_self
    have := ih (T.erase a) hn.2 (fun x hx => (List.mem_erase_of_ne (show x ≠ a from fun e => hn.1 (e ▸ hx))).2 (h x (List.mem_cons_of_mem _ hx)))
    rw [List.length_erase_of_mem ha] at this
    have : 0 < T.length := List.length_pos_of_mem ha
    simp only [List.length_cons]; omega

structure Cx (B : Nat) (I : List (List Int)) (C : List Int) (met : List Bool) (c : List Int) : Prop where
  F : Fit B I C
  ml : met.length = I.length
  hr : ∀ x, x < I.length → met.getD x false = true → ∀ j, j < B → met.getD ((I.getD x []).getD j 0).toNat false = true
  hc : ∀ x ∈ c, 0 ≤ x ∧ x < (I.length : Int)
  cl : c.length ≤ 100
  hm : ∀ a, a < I.length → (met.getD a false = true ↔ (a : Int) ∈ c)
structure InvK (I : List (List Int)) (met : List Bool) (L : List (List Int)) : Prop where
  rows : ∀ f ∈ L, RowOk I.length f
  nd : (L.map (keptF met)).Nodup
theorem kept_ok {met : List Bool} {N : Nat} {f : List Int} (h : RowOk N f) : ∀ x ∈ keptF met f, 0 ≤ x ∧ x ≤ 9 := by
  intro x hx
  rw [keptF, h.1] at hx
  obtain ⟨a, ha, rfl⟩ := List.mem_map.1 hx
  rw [List.mem_range'_1] at ha
  by_cases hm : met.getD a false = true
  · rw [if_pos hm]; exact h.2 a (by omega)
  · rw [if_neg hm]; omega
theorem InvK.len {met : List Bool} {L : List (List Int)} (H : InvK I met L) (n4 : I.length ≤ 4) : L.length ≤ 10000 := by
  have := nodup_sub (L.map (keptF met)) (allL I.length) H.nd (fun x hx => by
    obtain ⟨f, hf, rfl⟩ := List.mem_map.1 hx
    have ho := H.rows f hf
    have := allL_mem (keptF met f) (kept_ok ho)
    rw [kept_len, ho.1] at this; exact this)
  rw [List.length_map, allL_len] at this
  exact Nat.le_trans this (Nat.pow_le_pow_right (by omega) n4)

theorem inner {met : List Bool} {c : List Int} (X : Cx B I C met c) (i : Nat) : ∀ n d L, B - d = n → d ≤ B → InvK I met L → i < L.length →
    ∃ L', InvK I met L' ∧ L.length ≤ L'.length ∧
      (∀ r, Ev (fun k => seqs_Kernel.l10 k C (B : Int) I C (S c L') (L'.drop (i + 1)) c) r → Ev (fun k => seqs_Kernel.l13 k C (B : Int) (d : Int) (B : Int) I C (S c L) (L.drop i) c) r) ∧
      (∀ r, Ev (fun k => evermoreref23_Kernel.l18 k ((i + 1 : Nat) : Int) (B : Int) I C met (L'.map (keptF met))) r → Ev (fun k => evermoreref23_Kernel.l21 k (i : Int) (d : Int) (B : Int) I C met (L.map (keptF met))) r) := by
  have F := X.F
  have n4 := F.n4; have n1 := F.n1; have b4 := F.b4; have hC := F.c
  intro n
  induction n with
  | zero =>
    intro d L hn hd H hi
    have hL := H.len n4
    refine ⟨L, H, Nat.le_refl _, fun r E => Ev.step (h := fun k => seqs_Kernel.l10 k C (B : Int) I C (S c L) (L.drop (i + 1)) c) (fun k => ?_) E, fun r E => Ev.step (h := fun k => evermoreref23_Kernel.l18 k ((i + 1 : Nat) : Int) (B : Int) I C met (L.map (keptF met))) (fun k => ?_) E⟩
    · have hl : ((L.drop i).length : Int) = (L.length : Int) - (i : Int) := by rw [List.length_drop]; omega
      rw [seqs_Kernel.l13, if_neg (by omega), if_pos (by omega), if_pos (by omega), if_pos (by omega)]
      have e : List.take (((L.drop i).length : Int).toNat - Int.toNat 1) (List.drop (Int.toNat 1) (L.drop i)) = L.drop (i + 1) := by
        rw [List.take_of_length_le (by simp; omega)]
        show List.drop 1 (L.drop i) = _
        rw [List.drop_drop]
      rw [e]
    · rw [evermoreref23_Kernel.l21, if_neg (by omega), wrSucc i (by omega)]
  | succ n ih =>
    intro d L hn hd H hi
    have hL := H.len n4
    have hd' : d < B := by omega
    have hfm : L.getD i [] ∈ L := by rw [List.getD_eq_getElem?_getD, List.getElem?_eq_getElem hi]; exact List.getElem_mem hi
    have hf := H.rows _ hfm
    have hnx := next_ok F hf d hd'
    generalize hnxe : nextF I I.length (L.getD i []) d = nx at hnx
    have hkn : keptF met (nextF I I.length (keptF met (L.getD i [])) d) = keptF met nx := by rw [kept_next F X.hr hf d hd', hnxe]
    -- is it known
    have hknow : (∀ f ∈ L, keyOf c f ≠ keyOf c nx) ↔ keptF met nx ∉ L.map (keptF met) := by
      constructor
      · intro h hx
        obtain ⟨f, h1, h2⟩ := List.mem_map.1 hx
        exact h f h1 ((key_iff (H.rows f h1) hnx X.hc X.hm).2 h2)
      · intro h f h1 h2
        exact h (List.mem_map.2 ⟨f, h1, (key_iff (H.rows f h1) hnx X.hc X.hm).1 h2⟩)
    have progStep : ∀ r, Ev (fun k => (seqs_Kernel_1.f k nx c).bind fun r3 =>
      if mget Ty.str (Ty.int IntKind.i64) (S c L) r3.fst = 0 then
       if ((L.getD i [] :: L.drop (i + 1)) ++ [nx]).length.blt 1000000000 = true then
       seqs_Kernel.j25 k C (B : Int) (d : Int) (B : Int) I C (mput Ty.str (Ty.int IntKind.i64) (S c L) r3.fst (Int.ofNat 1)) ((L.getD i [] :: L.drop (i + 1)) ++ [nx]) r3.snd
       else none
      else seqs_Kernel.j25 k C (B : Int) (d : Int) (B : Int) I C (S c L) (L.getD i [] :: L.drop (i + 1)) r3.snd) r → Ev (fun k => seqs_Kernel.l13 k C (B : Int) (d : Int) (B : Int) I C (S c L) (L.drop i) c) r := by
      intro r E
      refine Ev.step (h := fun k => seqs_Kernel.l17 k C (d : Int) (B : Int) (d : Int) I (I.length : Int) 0 (B : Int) I C (S c L) (L.drop i) (List.replicate ((C.length : Int)).toNat (Int.ofNat 0)) c) (fun k => ?_) ?_
      · rw [seqs_Kernel.l13, if_pos (by omega), if_pos (by omega), if_pos (by omega), if_pos (by omega)]
      · have P := p17 F (L.getD i []) (L.drop (i + 1)) hf d hd' (S c L) c r (by rw [hnxe]; exact E) _ 0 rfl (by omega)
        rw [drop_getD [] L i hi, Int.toNat_natCast, hC]
        exact P
    have refStep : ∀ r, Ev (fun k => evermoreref23_Kernel.j22 k (i : Int) (d : Int) (B : Int) I C met (if keptF met nx ∈ L.map (keptF met) then L.map (keptF met) else L.map (keptF met) ++ [keptF met nx])) r → Ev (fun k => evermoreref23_Kernel.l21 k (i : Int) (d : Int) (B : Int) I C met (L.map (keptF met))) r := by
      intro r E
      refine Ev.step (h := fun k => evermoreref23_Kernel.l25 k (i : Int) (d : Int) 0 (B : Int) I C met (L.map (keptF met)) []) (fun k => ?_) ?_
      · rw [evermoreref23_Kernel.l21, if_pos (by omega)]
      · have he : (L.map (keptF met)).getD i [] = keptF met (L.getD i []) := by
          simp only [List.getD_eq_getElem?_getD, List.getElem?_map, List.getElem?_eq_getElem hi, Option.map_some, Option.getD_some]
        refine r25 F met i d hd' (L.map (keptF met)) (keptF met (L.getD i [])) (by rw [kept_len, hf.1]) (by rw [List.length_map]; exact hi) he r ?_ _ 0 rfl (by omega)
        have ke := kept_ev met (nextF I I.length (keptF met (L.getD i [])) d) (by rw [next_len, X.ml]) (by rw [next_len]; exact n4)
        rw [hkn] at ke
        refine Ev.bind ke ?_
        exact r31 met i d (L.map (keptF met)) (keptF met nx) (by rw [List.length_map]; omega) (fun w hw => by
          obtain ⟨f, h1, rfl⟩ := List.mem_map.1 hw
          rw [kept_len, (H.rows f h1).1]; omega) r E _ 0 rfl (by omega) (by simp)
    have key1 := k1_ev nx c (by rw [hnx.1]; exact X.hc) X.cl
    by_cases hk : keptF met nx ∈ L.map (keptF met)
    · obtain ⟨L', q1, q2, q3, q4⟩ := ih (d + 1) L (by omega) (by omega) H hi
      refine ⟨L', q1, q2, fun r E => progStep r (Ev.bind key1 ?_), fun r E => refStep r ?_⟩
      · have : ¬ mget Ty.str (Ty.int IntKind.i64) (S c L) (keyOf c nx) = (0 : Int) := fun e => (hknow.1 ((mget_S _ _ _).1 e)) hk
        simp only [if_neg this]
        rw [← drop_getD [] L i hi]
        refine Ev.step (fun k => by rw [seqs_Kernel.j25]) ?_
        simp only [wrSucc d (by omega)]
        exact q3 r E
      · rw [if_pos hk]
        refine Ev.step (fun k => by rw [evermoreref23_Kernel.j22]) ?_
        simp only [wrSucc d (by omega)]
        exact q4 r E
    · have hall := hknow.2 hk
      have H2 : InvK I met (L ++ [nx]) := by
        refine ⟨fun f hf' => ?_, ?_⟩
        · rcases List.mem_append.1 hf' with h | h
          · exact H.rows f h
          · rw [List.mem_singleton] at h; rw [h]; exact hnx
        · rw [List.map_append, List.nodup_append]
          refine ⟨H.nd, by simp, fun a ha b hb => ?_⟩
          simp only [List.map_cons, List.map_nil, List.mem_singleton] at hb
          intro e; exact hk (hb ▸ e ▸ ha)
      obtain ⟨L', q1, q2, q3, q4⟩ := ih (d + 1) (L ++ [nx]) (by omega) (by omega) H2 (by rw [List.length_append]; omega)
      refine ⟨L', q1, by rw [List.length_append] at q2; omega, fun r E => progStep r (Ev.bind key1 ?_), fun r E => refStep r ?_⟩
      · have : mget Ty.str (Ty.int IntKind.i64) (S c L) (keyOf c nx) = (0 : Int) := (mget_S _ _ _).2 hall
        have e1 : (L.getD i [] :: L.drop (i + 1)) ++ [nx] = (L ++ [nx]).drop i := by
          rw [← drop_getD [] L i hi, List.drop_append_of_le_length (by omega)]
        simp only [if_pos this, e1, mput_S c L nx hall]
        have hs : ((L ++ [nx]).drop i).length.blt 1000000000 = true := short _ (by simp; omega)
        simp only [if_pos hs]
        refine Ev.step (fun k => by rw [seqs_Kernel.j25]) ?_
        simp only [wrSucc d (by omega)]
        exact q3 r E
      · rw [if_neg hk]
        refine Ev.step (fun k => by rw [evermoreref23_Kernel.j22]) ?_
        simp only [wrSucc d (by omega)]
        have := q4 r E
        rw [List.map_append] at this
        exact this

theorem outer {met : List Bool} {c : List Int} (X : Cx B I C met c) : ∀ n i L, 10001 - i = n → i ≤ L.length → InvK I met L →
    ∃ r : Int, Ev (fun k => seqs_Kernel.l10 k C (B : Int) I C (S c L) (L.drop i) c) (r, 0) ∧ Ev (fun k => evermoreref23_Kernel.l18 k (i : Int) (B : Int) I C met (L.map (keptF met))) r := by
  have n4 := X.F.n4
  intro n
  induction n with
  | zero => intro i L hn hi H; have := H.len n4; omega
  | succ n ih =>
    intro i L hn hi H
    have hL := H.len n4
    by_cases h : i < L.length
    · obtain ⟨L', q1, q2, q3, q4⟩ := inner X i _ 0 L rfl (by omega) H h
      obtain ⟨r, s1, s2⟩ := ih (i + 1) L' (by omega) (by omega) q1
      refine ⟨r, Ev.step (h := fun k => seqs_Kernel.l13 k C (B : Int) 0 (B : Int) I C (S c L) (L.drop i) c) (fun k => ?_) (q3 _ s1), Ev.step (h := fun k => evermoreref23_Kernel.l21 k (i : Int) 0 (B : Int) I C met (L.map (keptF met))) (fun k => ?_) (q4 _ s2)⟩
      · rw [seqs_Kernel.l10, if_pos (by rw [List.length_drop]; omega)]
      · rw [evermoreref23_Kernel.l18, if_pos (by rw [List.length_map]; omega)]
    · refine ⟨(L.length : Int), Ev.step (h := fun k => some ((L.length : Int), 0)) (fun k => ?_) (Ev.now _), Ev.step (h := fun k => some (L.length : Int)) (fun k => ?_) (Ev.now _)⟩
      · rw [seqs_Kernel.l10, if_neg (by rw [List.length_drop]; omega), S, List.length_map]
      · rw [evermoreref23_Kernel.l18, if_neg (by rw [List.length_map]; omega), List.length_map]

theorem kernels (F : Fit B I C) : ∃ r : Int, Ev (fun k => (seqs_met.f k ((B : Int), I, C, ())).bind fun r3 => (slices_Clone___int_int_.f k C).bind fun r4 => (seqs_Kernel_1.f k r4 r3).bind fun r5 =>
      seqs_Kernel.l10 k r4 (B : Int) I C (mput Ty.str (Ty.int IntKind.i64) [] r5.fst (Int.ofNat 1)) [r4] r5.snd) (r, 0) ∧ Ev (fun k => evermoreref23_Kernel.f k ((B : Int), I, C, ())) r := by
  obtain ⟨c, e1, G, hcl⟩ := met_ev F
  obtain ⟨met, R, hr, e2⟩ := rkernel F
  have n4 := F.n4; have hC := F.c
  have X : Cx B I C met c := ⟨F, R.len, hr, G.rng, by have := nodup_int _ c G.nd G.rng; omega, fun a ha => agree F G hcl R hr a ha⟩
  have hrow : RowOk I.length C := ⟨hC, F.cod⟩
  obtain ⟨r, s1, s2⟩ := outer X _ 0 [C] rfl (by simp) ⟨fun f hf => by rw [List.mem_singleton] at hf; rw [hf]; exact hrow, by simp⟩
  refine ⟨r, Ev.bind e1 (Ev.bind (x := C) (.all fun k => ?_) (Ev.bind (k1_ev C c (by rw [hC]; exact G.rng) X.cl) s1)), e2 r (Ev.bind (kept_ev met C (by rw [hC, R.len]) (by omega)) s2)⟩
  rw [slices_Clone___int_int_.f, if_pos (show Short C.length from short _ (by omega))]

theorem SeqsKernel : evermorelaw_SeqsKernel.PureH := by
  rintro ⟨b, I, C, ⟨⟩⟩ _
  obtain ⟨e, c1, c2, c3⟩ := check_ev b I C
  suffices H : Ev (fun k => evermorelaw_SeqsKernel.f k (b, I, C, ())) true from H.get
  simp only [evermorelaw_SeqsKernel.f, seqs_Kernel.f]
  by_cases h : e = 0
  · obtain ⟨B, rfl, F⟩ := c3 h
    obtain ⟨r, s1, s2⟩ := kernels F
    refine Ev.bind (x := (r, 0)) (Ev.bind c1 ?_) (Ev.bind c2 ?_)
    · simp only [if_pos h]; exact s1
    · simp only [if_pos h]
      refine Ev.bind s2 ?_
      simp only [if_true, decide_true]; exact Ev.now _
  · refine Ev.bind (x := (0, e)) (Ev.bind c1 ?_) (Ev.bind c2 ?_)
    · simp only [if_neg h]; exact Ev.now _
    · simp only [if_neg h, if_true, decide_true]; exact Ev.now _
end Go.Proofs.YtklkcdphcmimoaaSx.SK
namespace Go.Proofs.Ytklkcdphcmimoaa
theorem Pure.SeqsKernel : Go.Proofs.YtklkcdphcmimoaaSx.evermorelaw_SeqsKernel.PureH := Go.Proofs.YtklkcdphcmimoaaSx.SK.SeqsKernel
end Go.Proofs.Ytklkcdphcmimoaa
