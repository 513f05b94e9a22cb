import Derived.Test.YtfkilmmldjajmaaGCodeUnique
import Derived.Test.YtfkilmmldjajmaaSxW
import Derived.Test.YtfkilmmldjajmaaSxV2
set_option linter.unusedVariables false
set_option linter.unusedSimpArgs false
namespace Go.Proofs.YtfkilmmldjajmaaSx
/-- With enough fuel. -/
def Ev {α : Type} (g : Nat → Option α) (r : α) : Prop := ∃ k0, ∀ k, k0 ≤ k → g k = some r
theorem Ev.now {α : Type} (r : α) : Ev (fun _ => some r) r := ⟨0, fun _ _ => rfl⟩
theorem Ev.all {α : Type} {g : Nat → Option α} {r : α} (h : ∀ k, g k = some r) : Ev g r := ⟨0, fun k _ => h k⟩
theorem Ev.step {α : Type} {g h : Nat → Option α} {r : α} (e : ∀ k, g (k + 1) = h k) (H : Ev h r) : Ev g r := by
  obtain ⟨k0, H⟩ := H
  refine ⟨k0 + 1, fun k hk => ?_⟩
  obtain ⟨k, rfl⟩ : ∃ j, k = j + 1 := ⟨k - 1, by omega⟩
  rw [e]; exact H _ (by omega)
theorem Ev.bind {α β : Type} {g : Nat → Option α} {h : Nat → α → Option β} {x : α} {r : β} (G : Ev g x) (H : Ev (fun k => h k x) r) : Ev (fun k => (g k).bind (h k)) r := by
  obtain ⟨a, G⟩ := G
  obtain ⟨b, H⟩ := H
  refine ⟨max a b, fun k hk => ?_⟩
  show (g k).bind (h k) = some r
  rw [G k (by omega)]; exact H k (by omega)
theorem Ev.get {α : Type} {g : Nat → Option α} {r : α} (H : Ev g r) : ∃ k, g k = some r := H.elim fun k0 H => ⟨k0, H k0 (Nat.le_refl _)⟩
theorem Ev.cast {α : Type} {g : Nat → Option α} {r r' : α} (H : Ev g r) (e : r = r') : Ev g r' := e ▸ H

theorem wr64 (n : Int) (h0 : -9223372036854775808 ≤ n) (h1 : n < 9223372036854775808) : IntKind.i64.wrap n = n := by rw [IntKind.wrap_i64]; omega
theorem wrSucc (i : Nat) (h : i < 1000000000) : IntKind.i64.wrap ((i : Int) + 1) = ((i + 1 : Nat) : Int) := by rw [wr64] <;> omega
theorem rd_nat {α : Type} (d : α) (w : List α) (i : Nat) : rd d w (i : Int) = w.getD i d := by simp [rd]
theorem drop_getD {α : Type} (d : α) (w : List α) (i : Nat) (h : i < w.length) : w.drop i = w.getD i d :: w.drop (i + 1) := by
  rw [List.drop_eq_getElem_cons h]; simp [List.getD, h]
theorem short (n : Nat) (h : n < 1000000000) : Nat.blt n 1000000000 = true := Nat.ble_eq_true_of_le (by omega)
theorem fits (n b : Nat) (hb : b ≤ 1000) (h : n < 100000000000) : fitsIn n b = true := by
  have h1 : n * b ≤ 100000000000 * 1000 := Nat.mul_le_mul (by omega) hb
  exact Nat.ble_eq_true_of_le (by omega)
theorem fit1 {b : Nat} (n : Nat) (h : n < 1000000000) (hb : b ≤ 4096 := by decide) : fitsIn n b = true := by
  have h1 : n * b ≤ 1000000000 * 4096 := Nat.mul_le_mul (by omega) hb
  exact Nat.ble_eq_true_of_le (by omega)
end Go.Proofs.YtfkilmmldjajmaaSx
namespace Go.Proofs.YtfkilmmldjajmaaSx.CU
theorem Ev.eqv {α : Type} {f h : Nat → Option α} {r : α} (e : ∀ m, f m = h m) (H : Ev h r) : Ev f r := by
  obtain ⟨k0, H⟩ := H; exact ⟨k0, fun k hk => (e k).trans (H k hk)⟩
theorem wrS (i : Nat) (h : i < 9223372036854775807) : Go.IntKind.i64.wrap ((i : Int) + 1) = ((i + 1 : Nat) : Int) := by rw [wr64] <;> omega
theorem getD_memI (w : List Int) (j : Nat) (h : j < w.length) : w.getD j 0 ∈ w := by
  rw [List.getD_eq_getElem?_getD, List.getElem?_eq_getElem h]; exact List.getElem_mem h
theorem getD_memW (w : List (List Int)) (j : Nat) (h : j < w.length) : w.getD j [] ∈ w := by
  rw [List.getD_eq_getElem?_getD, List.getElem?_eq_getElem h]; exact List.getElem_mem h
/-! The copy. -/
theorem list_ev (l : List Int) (h : l.length * 8 ≤ 140737488351232) (k : Nat) : evermorelaw_list.f k l = some l := by
  have hw : Go.IntKind.i64.wrap ((l.length : Int) + 3) = (l.length : Int) + 3 := by rw [wr64] <;> omega
  rw [evermorelaw_list.f, hw, if_pos (by omega), if_pos (by omega), if_pos (by omega)]
  congr 1
  rw [cpy]
  simp
theorem lists_l3 (W : List (List Int)) (hW : W.length * 24 ≤ 140737488351232) (hr : ∀ w ∈ W, w.length * 8 ≤ 140737488351232) : ∀ m i, W.length - i = m → i ≤ W.length → Ev (fun k => evermorelaw_lists.l3 k W (i : Int) (W.take i)) W := by
  intro m
  induction m with
  | zero =>
    intro i hm hi
    rw [List.take_of_length_le (by omega)]
    refine Ev.step (h := fun _ => some W) (fun k => ?_) (Ev.now _)
    rw [evermorelaw_lists.l3, if_neg (by omega)]
  | succ m ih =>
    intro i hm hi
    have e : W.take i ++ [W.getD i []] = W.take (i + 1) := by
      rw [List.take_add_one, List.getD_eq_getElem?_getD, List.getElem?_eq_getElem (by omega)]; rfl
    have hl : (W.take (i + 1)).length = i + 1 := by rw [List.length_take]; omega
    refine Ev.step (fun k => ?_) (ih (i + 1) (by omega) (by omega))
    rw [evermorelaw_lists.l3, if_pos (by omega), if_pos (by omega), if_pos (by omega), rd_nat, list_ev _ (hr _ (getD_memW W i (by omega))), Option.bind_some, e, wrS i (by omega)]
    exact if_pos (Nat.ble_eq_true_of_le (by rw [hl]; omega))
theorem lists_ev (W : List (List Int)) (hW : W.length * 24 ≤ 140737488351232) (hr : ∀ w ∈ W, w.length * 8 ≤ 140737488351232) : Ev (fun k => evermorelaw_lists.f k W) W := by
  have := lists_l3 W hW hr _ 0 rfl (by omega)
  rw [List.take_zero] at this; exact this
theorem words_l4 (a b : List Int) (ha : a.length ≤ 140737488351232) (hb : a.length = b.length) : ∀ n i, a.length - i = n → i ≤ a.length → Ev (fun k => evermoreref1_Words.l4 k a b (i : Int)) (decide (a.drop i = b.drop i)) := by
  intro n
  induction n with
  | zero =>
    intro i hn hi
    refine Ev.step (fun k => by rw [evermoreref1_Words.l4]) ?_
    simp only [if_neg (show ¬ (i : Int) < (a.length : Int) by omega)]
    rw [List.drop_eq_nil_of_le (by omega), List.drop_eq_nil_of_le (by omega)]; exact Ev.now _
  | succ n ih =>
    intro i hn hi
    refine Ev.step (fun k => by rw [evermoreref1_Words.l4]) ?_
    simp only [if_pos (show (i : Int) < (a.length : Int) by omega), if_pos (show (0 : Int) ≤ (i : Int) by omega), if_pos (show (i : Int) < (b.length : Int) by omega), rd_nat, wrS i (by omega)]
    rw [drop_getD (Int.ofNat 0) a i (by omega), drop_getD (Int.ofNat 0) b i (by omega)]
    by_cases h1 : a.getD i (Int.ofNat 0) = b.getD i (Int.ofNat 0)
    · simp only [if_pos h1]; refine (ih (i + 1) (by omega) (by omega)).cast ?_; simp only [List.cons.injEq, h1, true_and]
    · simp only [if_neg h1]; refine (Ev.now _).cast ?_; simp only [List.cons.injEq, h1, false_and, decide_false]
theorem words_ev (a b : List Int) (ha : a.length ≤ 140737488351232) : Ev (fun k => evermoreref1_Words.f k a b) (decide (a = b)) := by
  by_cases h : a.length = b.length
  · simp only [evermoreref1_Words.f, if_pos (show (a.length : Int) = (b.length : Int) by omega)]
    exact words_l4 a b ha h _ 0 rfl (by omega)
  · simp only [evermoreref1_Words.f, if_neg (show ¬ (a.length : Int) = (b.length : Int) by omega)]
    exact (Ev.now _).cast (decide_eq_false (fun e => h (congrArg _ e))).symm
theorem equal_l4 (a b : List Int) (ha : a.length ≤ 140737488351232) (hb : a.length = b.length) : ∀ n i, a.length - i = n → i ≤ a.length → Ev (fun k => slices_Equal___int_int_.l4 k a b (a.length : Int) (i : Int)) (decide (a.drop i = b.drop i)) := by
  intro n
  induction n with
  | zero =>
    intro i hn hi
    refine Ev.step (fun k => by rw [slices_Equal___int_int_.l4]) ?_
    simp only [if_neg (show ¬ (i : Int) < (a.length : Int) by omega)]
    rw [List.drop_eq_nil_of_le (by omega), List.drop_eq_nil_of_le (by omega)]; exact Ev.now _
  | succ n ih =>
    intro i hn hi
    refine Ev.step (fun k => by rw [slices_Equal___int_int_.l4]) ?_
    simp only [if_pos (show (i : Int) < (a.length : Int) by omega), if_pos (show (0 : Int) ≤ (i : Int) by omega), if_pos (show (i : Int) < (b.length : Int) by omega), rd_nat, wrS i (by omega)]
    rw [drop_getD (Int.ofNat 0) a i (by omega), drop_getD (Int.ofNat 0) b i (by omega)]
    by_cases h1 : a.getD i (Int.ofNat 0) = b.getD i (Int.ofNat 0)
    · simp only [if_pos h1]; refine (ih (i + 1) (by omega) (by omega)).cast ?_; simp only [List.cons.injEq, h1, true_and]
    · simp only [if_neg h1]; refine (Ev.now _).cast ?_; simp only [List.cons.injEq, h1, false_and, decide_false]
theorem equal_ev (a b : List Int) (ha : a.length ≤ 140737488351232) : Ev (fun k => slices_Equal___int_int_.f k a b) (decide (a = b)) := by
  by_cases h : a.length = b.length
  · simp only [slices_Equal___int_int_.f, if_pos (show (a.length : Int) = (b.length : Int) by omega)]
    exact equal_l4 a b ha h _ 0 rfl (by omega)
  · simp only [slices_Equal___int_int_.f, if_neg (show ¬ (a.length : Int) = (b.length : Int) by omega)]
    exact (Ev.now _).cast (decide_eq_false (fun e => h (congrArg _ e))).symm
theorem same_l4 (W : List (List Int)) (hW : W.length ≤ 140737488351232) (hr : ∀ w ∈ W, w.length ≤ 140737488351232) : ∀ m i, W.length - i = m → i ≤ W.length → Ev (fun k => evermorelaw_sameLists.l4 k W W (i : Int)) true := by
  intro m
  induction m with
  | zero =>
    intro i hm hi
    refine Ev.step (h := fun _ => some true) (fun k => ?_) (Ev.now _)
    rw [evermorelaw_sameLists.l4, if_neg (by omega)]
  | succ m ih =>
    intro i hm hi
    refine Ev.step (h := fun k => (evermoreref1_Words.f k (rd [] W (i : Int)) (rd [] W (i : Int))).bind fun r => if r = true then evermorelaw_sameLists.l4 k W W ((i + 1 : Nat) : Int) else some false) (fun k => ?_) ?_
    · rw [evermorelaw_sameLists.l4, if_pos (by omega), if_pos (by omega), if_pos (by omega), if_pos (by omega), if_pos (by omega), wrS i (by omega)]
    · have hw : (rd [] W (i : Int)).length ≤ 140737488351232 := by rw [rd_nat]; exact hr _ (getD_memW W i (by omega))
      refine Ev.bind (words_ev _ _ hw) ?_
      simp only [decide_true, if_true]
      exact ih (i + 1) (by omega) (by omega)
theorem same_ev (W : List (List Int)) (hW : W.length ≤ 140737488351232) (hr : ∀ w ∈ W, w.length ≤ 140737488351232) : Ev (fun k => evermorelaw_sameLists.f k W W) true := by
  simp only [evermorelaw_sameLists.f, if_true]
  exact same_l4 W hW hr _ 0 rfl (by omega)
/-! The checks. -/
def badI (A : Int) (q : Int) : Bool := decide (q < 0) || decide (A ≤ q)
def chkF (A : Int) : List (List Int) → Int
  | [] => 0
  | w :: l => if w.length < 1 then 1 else if 10 < w.length then 1 else if w.any (badI A) = true then 2 else chkF A l
theorem chk1 (A q : Int) (k : Nat) : code_Check_1.f k q A = some (badI A q, A) := by
  rw [code_Check_1.f, badI]
  by_cases h : q < 0
  · rw [if_pos h, decide_eq_true h]; rfl
  · rw [if_neg h, decide_eq_false h]; rfl
theorem idx_l2 (A : Int) (s : List Int) (hs : s.length ≤ 100) : ∀ m i, s.length - i = m → i ≤ s.length → ∃ r, Ev (fun k => slices_IndexFunc___int_int_.l2 k s (s.length : Int) (i : Int) A) (r, A) ∧ decide (0 ≤ r) = (s.drop i).any (badI A) := by
  intro m
  induction m with
  | zero =>
    intro i hm hi
    refine ⟨-1, Ev.step (h := fun _ => some (-1, A)) (fun k => ?_) (Ev.now _), ?_⟩
    · rw [slices_IndexFunc___int_int_.l2, if_neg (by omega)]
    · rw [List.drop_eq_nil_of_le (by omega)]; rfl
  | succ m ih =>
    intro i hm hi
    obtain ⟨r, h1, h2⟩ := ih (i + 1) (by omega) (by omega)
    rw [drop_getD 0 s i (by omega), List.any_cons]
    have e : rd (Int.ofNat 0) s (i : Int) = s.getD i 0 := rd_nat _ _ _
    by_cases hb : badI A (s.getD i 0) = true
    · refine ⟨(i : Int), Ev.step (h := fun _ => some ((i : Int), A)) (fun k => ?_) (Ev.now _), ?_⟩
      · rw [slices_IndexFunc___int_int_.l2, if_pos (by omega), if_pos (by omega), if_pos (by omega), e, chk1, Option.bind_some, if_pos hb]
      · rw [hb, decide_eq_true (by omega), Bool.true_or]
    · refine ⟨r, Ev.step (fun k => ?_) h1, ?_⟩
      · rw [slices_IndexFunc___int_int_.l2, if_pos (by omega), if_pos (by omega), if_pos (by omega), e, chk1, Option.bind_some, if_neg hb, wrS i (by omega)]
      · rw [h2, (Bool.not_eq_true _).mp hb, Bool.false_or]
theorem con_ev (A : Int) (s : List Int) (hs : s.length ≤ 100) : Ev (fun k => slices_ContainsFunc___int_int_.f k s A) (s.any (badI A), A) := by
  obtain ⟨r, h1, h2⟩ := idx_l2 A s hs _ 0 rfl (by omega)
  simp only [slices_ContainsFunc___int_int_.f, slices_IndexFunc___int_int_.f]
  refine Ev.bind h1 ?_
  rw [List.drop_zero] at h2
  rw [h2]; exact Ev.now _
theorem pc_l6 (A : Int) (W : List (List Int)) (hW : W.length ≤ 10) : ∀ m i, W.length - i = m → i ≤ W.length → Ev (fun k => code_Check.l6 k W (W.length : Int) (i : Int) A) (chkF A (W.drop i)) := by
  intro m
  induction m with
  | zero =>
    intro i hm hi
    rw [List.drop_eq_nil_of_le (by omega)]
    refine Ev.step (h := fun _ => some 0) (fun k => ?_) (Ev.now _)
    rw [code_Check.l6, if_neg (by omega)]
  | succ m ih =>
    intro i hm hi
    have e : rd [] W (i : Int) = W.getD i [] := rd_nat _ _ _
    rw [drop_getD [] W i (by omega), chkF]
    refine Ev.step (fun k => by rw [code_Check.l6, if_pos (by omega), if_pos (by omega), if_pos (by omega), e, wrS i (by omega)]) ?_
    by_cases h1 : (W.getD i []).length < 1
    · rw [if_pos h1]; simp only [if_pos (show ((W.getD i []).length : Int) < 1 by omega)]; exact Ev.now _
    · rw [if_neg h1]; simp only [if_neg (show ¬ ((W.getD i []).length : Int) < 1 by omega)]
      by_cases h2 : 10 < (W.getD i []).length
      · rw [if_pos h2]; simp only [if_pos (show (10 : Int) < ((W.getD i []).length : Int) by omega)]; exact Ev.now _
      · rw [if_neg h2]; simp only [if_neg (show ¬ (10 : Int) < ((W.getD i []).length : Int) by omega)]
        refine Ev.bind (con_ev A _ (by omega)) ?_
        by_cases h3 : (W.getD i []).any (badI A) = true
        · rw [if_pos h3]; simp only [if_pos h3]; exact Ev.now _
        · rw [if_neg h3]; simp only [if_neg h3]; exact ih (i + 1) (by omega) (by omega)
theorem rc_l11 (A : Int) (W : List (List Int)) (hW : W.length ≤ 10) (i : Nat) (hi : i < W.length) (hl : (W.getD i []).length ≤ 10) (r : Int) (E : Ev (fun k => evermoreref24_Check.l6 k A W ((i + 1 : Nat) : Int)) r) : ∀ m j, (W.getD i []).length - j = m → j ≤ (W.getD i []).length →
    Ev (fun k => evermoreref24_Check.l11 k A W (i : Int) (j : Int)) (if ((W.getD i []).drop j).any (badI A) = true then 2 else r) := by
  have e : rd [] W (i : Int) = W.getD i [] := rd_nat _ _ _
  intro m
  induction m with
  | zero =>
    intro j hm hj
    rw [List.drop_eq_nil_of_le (by omega)]
    refine Ev.step (fun k => ?_) E
    rw [evermoreref24_Check.l11, if_pos (by omega), if_pos (by omega), e, if_neg (by omega), wrS i (by omega)]
  | succ m ih =>
    intro j hm hj
    have h1 := ih (j + 1) (by omega) (by omega)
    have e2 : rd (Int.ofNat 0) (W.getD i []) (j : Int) = (W.getD i []).getD j 0 := rd_nat _ _ _
    rw [drop_getD 0 (W.getD i []) j (by omega), List.any_cons, badI]
    by_cases c1 : (W.getD i []).getD j 0 < 0
    · rw [decide_eq_true c1, Bool.true_or, Bool.true_or, if_pos rfl]
      refine Ev.step (h := fun _ => some 2) (fun k => ?_) (Ev.now _)
      rw [evermoreref24_Check.l11, if_pos (by omega), if_pos (by omega), e, if_pos (by omega), if_pos (by omega), if_pos (by omega), if_pos (by omega), if_pos (by omega), e2, if_pos c1]
    · rw [decide_eq_false c1, Bool.false_or]
      by_cases c2 : A ≤ (W.getD i []).getD j 0
      · rw [decide_eq_true c2, Bool.true_or, if_pos rfl]
        refine Ev.step (h := fun _ => some 2) (fun k => ?_) (Ev.now _)
        rw [evermoreref24_Check.l11, if_pos (by omega), if_pos (by omega), e, if_pos (by omega), if_pos (by omega), if_pos (by omega), if_pos (by omega), if_pos (by omega), e2, if_neg c1, if_pos (by omega), if_pos (by omega), if_pos (by omega), if_pos (by omega), if_pos c2]
      · rw [decide_eq_false c2, Bool.false_or]
        refine Ev.step (fun k => ?_) h1
        rw [evermoreref24_Check.l11, if_pos (by omega), if_pos (by omega), e, if_pos (by omega), if_pos (by omega), if_pos (by omega), if_pos (by omega), if_pos (by omega), e2, if_neg c1, if_pos (by omega), if_pos (by omega), if_pos (by omega), if_pos (by omega), if_neg c2, wrS j (by omega)]
theorem rc_l6 (A : Int) (W : List (List Int)) (hW : W.length ≤ 10) : ∀ m i, W.length - i = m → i ≤ W.length → Ev (fun k => evermoreref24_Check.l6 k A W (i : Int)) (chkF A (W.drop i)) := by
  intro m
  induction m with
  | zero =>
    intro i hm hi
    rw [List.drop_eq_nil_of_le (by omega)]
    refine Ev.step (h := fun _ => some 0) (fun k => ?_) (Ev.now _)
    rw [evermoreref24_Check.l6, if_neg (by omega)]
  | succ m ih =>
    intro i hm hi
    have e : rd [] W (i : Int) = W.getD i [] := rd_nat _ _ _
    rw [drop_getD [] W i (by omega), chkF]
    refine Ev.step (fun k => by rw [evermoreref24_Check.l6, if_pos (by omega), if_pos (by omega), if_pos (by omega), e]) ?_
    by_cases h1 : (W.getD i []).length < 1
    · rw [if_pos h1]; simp only [if_pos (show ((W.getD i []).length : Int) < 1 by omega)]; exact Ev.now _
    · rw [if_neg h1]; simp only [if_neg (show ¬ ((W.getD i []).length : Int) < 1 by omega), if_pos (show (0 : Int) ≤ (i : Int) by omega), if_pos (show (i : Int) < (W.length : Int) by omega)]
      by_cases h2 : 10 < (W.getD i []).length
      · rw [if_pos h2]; simp only [if_pos (show (10 : Int) < ((W.getD i []).length : Int) by omega)]; exact Ev.now _
      · rw [if_neg h2]; simp only [if_neg (show ¬ (10 : Int) < ((W.getD i []).length : Int) by omega)]
        exact rc_l11 A W hW i (by omega) (by omega) _ (ih (i + 1) (by omega) (by omega)) _ 0 rfl (by omega)
/-- Words that may be. -/
structure WOk (A : Int) (W : List (List Int)) : Prop where
  n1 : 1 ≤ W.length
  n10 : W.length ≤ 10
  len : ∀ w ∈ W, 1 ≤ w.length ∧ w.length ≤ 10
  let_ : ∀ w ∈ W, ∀ x ∈ w, 0 ≤ x ∧ x < 4
theorem chkF_ok {A : Int} (hA : A ≤ 4) : ∀ W, chkF A W = 0 → ∀ w ∈ W, (1 ≤ w.length ∧ w.length ≤ 10) ∧ ∀ x ∈ w, 0 ≤ x ∧ x < 4
  | [], _, w, h => by simp at h
  | v :: W, h, w, hw => by
    rw [chkF] at h
    split at h
    · cases h
    · split at h
      · cases h
      · split at h
        · cases h
        · rename_i h1 h2 h3
          rcases List.mem_cons.1 hw with e | e
          · subst e
            refine ⟨⟨by omega, by omega⟩, fun x hx => ?_⟩
            rw [Bool.not_eq_true, List.any_eq_false] at h3
            have := h3 x hx
            rw [badI, Bool.or_eq_true, decide_eq_true_iff, decide_eq_true_iff] at this
            omega
          · exact chkF_ok hA W h w e
theorem check_ev (A : Int) (W : List (List Int)) : ∃ e, Ev (fun k => code_Check.f k A W) e ∧ Ev (fun k => evermoreref24_Check.f k A W) e ∧ (e = 0 → WOk A W) := by
  by_cases h1 : A < 1
  · exact ⟨2, .all fun k => by rw [code_Check.f, if_pos h1], .all fun k => by rw [evermoreref24_Check.f, if_pos h1], fun h => absurd h (by decide)⟩
  by_cases h2 : 4 < A
  · exact ⟨2, .all fun k => by rw [code_Check.f, if_neg h1, if_pos h2], .all fun k => by rw [evermoreref24_Check.f, if_neg h1, if_pos h2], fun h => absurd h (by decide)⟩
  by_cases h3 : (W.length : Int) < 1
  · exact ⟨1, .all fun k => by rw [code_Check.f, if_neg h1, if_neg h2, if_pos h3], .all fun k => by rw [evermoreref24_Check.f, if_neg h1, if_neg h2, if_pos h3], fun h => absurd h (by decide)⟩
  by_cases h4 : 10 < (W.length : Int)
  · exact ⟨1, .all fun k => by rw [code_Check.f, if_neg h1, if_neg h2, if_neg h3, if_pos h4], .all fun k => by rw [evermoreref24_Check.f, if_neg h1, if_neg h2, if_neg h3, if_pos h4], fun h => absurd h (by decide)⟩
  refine ⟨chkF A W, ?_, ?_, fun h => ⟨by omega, by omega, fun w hw => (chkF_ok (by omega) W h w hw).1, fun w hw => (chkF_ok (by omega) W h w hw).2⟩⟩
  · simp only [code_Check.f, if_neg h1, if_neg h2, if_neg h3, if_neg h4]
    exact pc_l6 A W (by omega) _ 0 rfl (by omega)
  · simp only [evermoreref24_Check.f, if_neg h1, if_neg h2, if_neg h3, if_neg h4]
    exact rc_l6 A W (by omega) _ 0 rfl (by omega)
end Go.Proofs.YtfkilmmldjajmaaSx.CU
namespace Go.Proofs.YtfkilmmldjajmaaSx.CU
/-! Keys. -/
def encB (x : Int) : List Int := [IntKind.u8.wrap x, IntKind.u8.wrap (x.fdiv (2 ^ min (Int.toNat 8) IntKind.i64.bits))]
theorem strOf_data (L : List Int) : ∀ r : ByteArray, (L.foldl (fun r n => r.push (UInt8.ofNat n.toNat)) r).data.toList = r.data.toList ++ L.map fun n => UInt8.ofNat n.toNat := by
  induction L with
  | nil => intro r; simp
  | cons a L ih => intro r; rw [List.foldl_cons, ih]; simp [ByteArray.push]
theorem wrap_u8 (x : Int) : IntKind.u8.wrap x = x % 256 := by
  simp [IntKind.wrap, IntKind.signed, IntKind.bits]
theorem enc_eq (x : Int) : encB x = [x % 256, (x / 256) % 256] := by
  have e : (2 : Int) ^ min (Int.toNat 8) IntKind.i64.bits = 256 := by decide
  rw [encB, wrap_u8, wrap_u8, e, Int.fdiv_eq_ediv_of_nonneg _ (by decide)]
def Sm (u : List Int) : Prop := ∀ x ∈ u, 0 ≤ x ∧ x < 65536
theorem enc_inj : ∀ u v : List Int, Sm u → Sm v → (u.flatMap encB).map (fun n => UInt8.ofNat n.toNat) = (v.flatMap encB).map (fun n => UInt8.ofNat n.toNat) → u = v := by
  intro u
  induction u with
  | nil => intro v _ _ e; cases v with
    | nil => rfl
    | cons b v => rw [List.flatMap_cons, enc_eq] at e; simp at e
  | cons a u ih =>
    intro v hu hv e
    cases v with
    | nil => rw [List.flatMap_cons, enc_eq] at e; simp at e
    | cons b v =>
      have ha := hu a List.mem_cons_self
      have hb := hv b List.mem_cons_self
      rw [List.flatMap_cons, List.flatMap_cons, List.map_append, List.map_append, enc_eq, enc_eq] at e
      simp only [List.map_cons, List.map_nil, List.cons_append, List.nil_append, List.cons.injEq] at e
      have e1 := congrArg UInt8.toNat e.1
      have e2 := congrArg UInt8.toNat e.2.1
      have e3 := ih v (fun x hx => hu x (List.mem_cons_of_mem _ hx)) (fun x hx => hv x (List.mem_cons_of_mem _ hx)) e.2.2
      have t : ∀ n : Nat, n < 256 → (UInt8.ofNat n).toNat = n := by intro n hn; simp; omega
      rw [t _ (by omega), t _ (by omega)] at e1
      rw [t _ (by omega), t _ (by omega)] at e2
      rw [e3, show a = b by omega]
def text (u : List Int) : ByteArray := strOf (u.flatMap encB)
theorem text_inj {u v : List Int} (hu : Sm u) (hv : Sm v) : text u = text v ↔ u = v := by
  refine ⟨fun e => enc_inj u v hu hv ?_, fun e => e ▸ rfl⟩
  have e1 := congrArg (fun b : ByteArray => b.data.toList) e
  simp only [text, strOf, strOf_data] at e1
  simpa using e1
theorem key_l3 (w : List Int) (hw : w.length ≤ 1000) : ∀ n i acc, w.length - i = n → i ≤ w.length → acc.length + 2 * n ≤ 10000 →
    Ev (fun k => det_Key.l3 k w (w.length : Int) (i : Int) acc) (strOf (acc ++ (w.drop i).flatMap encB)) := by
  intro n
  induction n with
  | zero =>
    intro i acc hn hi ha
    refine Ev.step (fun k => by rw [det_Key.l3]) ?_
    simp only [if_neg (show ¬ (i : Int) < (w.length : Int) by omega)]
    rw [List.drop_eq_nil_of_le (by omega), List.flatMap_nil, List.append_nil]
    exact Ev.now _
  | succ n ih =>
    intro i acc hn hi ha
    refine Ev.step (fun k => by rw [det_Key.l3]) ?_
    have e : acc ++ [IntKind.u8.wrap (rd (Int.ofNat 0) w (i : Int)), IntKind.u8.wrap ((rd (Int.ofNat 0) w (i : Int)).fdiv (2 ^ min (Int.toNat 8) IntKind.i64.bits))] = acc ++ encB (w.getD i 0) := by rw [rd_nat]; rfl
    have hl : (acc ++ encB (w.getD i 0)).length = acc.length + 2 := by rw [List.length_append]; rfl
    simp only [if_pos (show (i : Int) < (w.length : Int) by omega), if_pos (show (0 : Int) ≤ (i : Int) by omega), e, if_pos (fit1 (b := 1) (acc ++ encB (w.getD i 0)).length (by omega)), wrSucc i (by omega)]
    refine (ih (i + 1) _ (by omega) (by omega) (by omega)).cast ?_
    rw [drop_getD 0 w i (by omega), List.flatMap_cons, List.append_assoc]
theorem key_ev (w : List Int) (hw : w.length ≤ 1000) : Ev (fun k => det_Key.f k w) (text w) :=
  key_l3 w hw _ 0 [] rfl (by omega) (by simp; omega)
/-! What one row has more than another, in both. -/
abbrev En := List Int × List Int × List Int × Unit
abbrev seen (L : List En) : List (ByteArray × Int) := L.map fun e => (text e.1, (1 : Int))
theorem beq_str (x y : ByteArray) : Ty.beq .str x y = true ↔ x = y := by
  have e : Ty.beq .str x y = decide (x = y) := rfl
  rw [e, decide_eq_true_iff]
theorem mget_seen (x : ByteArray) : ∀ L : List En, (∀ e ∈ L, text e.1 ≠ x) → mget .str (.int .i64) (seen L) x = (0 : Int)
  | [], _ => rfl
  | e :: L, h => by
    have h1 : Ty.beq .str x (text e.1) = false := by
      cases hb : Ty.beq .str x (text e.1) with
      | false => rfl
      | true => exact absurd ((beq_str _ _).1 hb).symm (h e List.mem_cons_self)
    show (bif Ty.beq .str x (text e.1) then (1 : Int) else mget .str (.int .i64) (seen L) x) = 0
    rw [h1]; exact mget_seen x L fun e he => h e (List.mem_cons_of_mem _ he)
theorem mget_seen1 (x : ByteArray) : ∀ L : List En, (∃ e ∈ L, text e.1 = x) → mget .str (.int .i64) (seen L) x = (1 : Int)
  | [], h => by simp at h
  | e :: L, h => by
    show (bif Ty.beq .str x (text e.1) then (1 : Int) else mget .str (.int .i64) (seen L) x) = 1
    cases hb : Ty.beq .str x (text e.1) with
    | true => rfl
    | false =>
      refine mget_seen1 x L ?_
      obtain ⟨f, hf, he⟩ := h
      rcases List.mem_cons.1 hf with h1 | h1
      · subst h1
        have := (beq_str x (text f.1)).2 he.symm
        rw [hb] at this; cases this
      · exact ⟨f, h1, he⟩
theorem mput_seen (e : En) : ∀ L : List En, (∀ f ∈ L, text f.1 ≠ text e.1) → mput .str (.int .i64) (seen L) (text e.1) (Int.ofNat 1) = seen (L ++ [e])
  | [], _ => rfl
  | f :: L, h => by
    have h1 : Ty.beq .str (text e.1) (text f.1) = false := by
      cases hb : Ty.beq .str (text e.1) (text f.1) with
      | false => rfl
      | true => exact absurd ((beq_str _ _).1 hb).symm (h f List.mem_cons_self)
    show (bif Ty.beq .str (text e.1) (text f.1) then (text e.1, (Int.ofNat 1 : Int)) :: seen L else (text f.1, (1 : Int)) :: mput .str (.int .i64) (seen L) (text e.1) (Int.ofNat 1)) = _
    rw [h1, mput_seen e L fun f hf => h f (List.mem_cons_of_mem _ hf)]; rfl
/-- What may be left: ends of words. -/
def Ends (W : List (List Int)) : List (List Int) := W.flatMap fun v => (List.range 11).map fun i => v.drop i
def wh (W : List (List Int)) (row : List Int) : List Int := row.flatMap fun i => W.getD i.toNat []
structure EOk (W : List (List Int)) (e : En) : Prop where
  t : e.1 ∈ Ends W
  a : ∀ x ∈ e.2.1, 0 ≤ x ∧ x < (W.length : Int)
  b : ∀ x ∈ e.2.2.1, 0 ≤ x ∧ x < (W.length : Int)
  eq : wh W e.2.1 = wh W e.2.2.1 ++ e.1
  ne : ∃ x y u v, e.2.1 = x :: u ∧ e.2.2.1 = y :: v ∧ x ≠ y
structure Inv (W : List (List Int)) (L : List En) : Prop where
  ok : ∀ e ∈ L, EOk W e
  nd : (L.map (·.1)).Nodup
  al : ∀ e ∈ L, e.2.1.length ≤ L.length ∧ e.2.2.1.length ≤ L.length
def putA (L : List En) (e : En) : List En := if e.1 ∈ L.map (·.1) then L else L ++ [e]
theorem mem_ends {W : List (List Int)} {x : List Int} : x ∈ Ends W ↔ ∃ v ∈ W, ∃ i, i < 11 ∧ v.drop i = x := by
  rw [Ends, List.mem_flatMap]
  constructor
  · rintro ⟨v, hv, h⟩
    obtain ⟨i, hi, e⟩ := List.mem_map.1 h
    exact ⟨v, hv, i, List.mem_range.1 hi, e⟩
  · rintro ⟨v, hv, i, hi, e⟩
    exact ⟨v, hv, List.mem_map.2 ⟨i, List.mem_range.2 hi, e⟩⟩
variable {A : Int} {W : List (List Int)}
theorem ends_drop (O : WOk A W) {x : List Int} (h : x ∈ Ends W) (m : Nat) : x.drop m ∈ Ends W := by
  obtain ⟨v, hv, i, hi, e⟩ := mem_ends.1 h
  have := O.len v hv
  by_cases hm : i + m < 11
  · exact mem_ends.2 ⟨v, hv, i + m, hm, by rw [← e, List.drop_drop]⟩
  · refine mem_ends.2 ⟨v, hv, 10, by omega, ?_⟩
    rw [List.drop_eq_nil_of_le (by omega), ← e, List.drop_drop, List.drop_eq_nil_of_le (by omega)]
theorem ends_word (O : WOk A W) {v : List Int} (hv : v ∈ W) (m : Nat) : v.drop m ∈ Ends W :=
  ends_drop O (mem_ends.2 ⟨v, hv, 0, by omega, List.drop_zero⟩) m
theorem ends_ok (O : WOk A W) {x : List Int} (h : x ∈ Ends W) : x.length ≤ 10 ∧ Sm x := by
  obtain ⟨v, hv, i, hi, e⟩ := mem_ends.1 h
  have := O.len v hv
  refine ⟨by rw [← e, List.length_drop]; omega, fun y hy => ?_⟩
  rw [← e] at hy
  have := O.let_ v hv y (List.mem_of_mem_drop hy)
  omega
theorem nodup_sub {α : Type} [DecidableEq α] : ∀ (L T : List α), L.Nodup → (∀ x ∈ L, x ∈ T) → L.length ≤ T.length := by
  intro L
  induction L with
  | nil => intro T _ _; simp
  | cons a L ih =>
    intro T hn hs
    rw [List.nodup_cons] at hn
    have ha := hs a List.mem_cons_self
    have := ih (T.erase a) hn.2 (fun x hx => (List.mem_erase_of_ne (fun e : x = a => hn.1 (e ▸ hx))).2 (hs x (List.mem_cons_of_mem _ hx)))
    rw [List.length_erase_of_mem ha] at this
    have := List.length_pos_of_mem ha
    rw [List.length_cons]; omega
theorem sum_c (b : Nat) : ∀ (l : List (List Int)), (l.map fun _ => b).sum = l.length * b
  | [] => by simp
  | a :: l => by rw [List.map_cons, List.sum_cons, sum_c b l, List.length_cons, Nat.succ_mul]; omega
theorem Inv.le {L : List En} (O : WOk A W) (I : Inv W L) : L.length ≤ 110 := by
  have h := nodup_sub (L.map (·.1)) (Ends W) I.nd (fun x hx => by
    obtain ⟨e, he, rfl⟩ := List.mem_map.1 hx
    exact (I.ok e he).t)
  have h2 : (Ends W).length = W.length * 11 := by
    rw [Ends, List.length_flatMap]
    have : (W.map fun v => ((List.range 11).map fun i => v.drop i).length) = W.map fun _ => 11 := by
      apply List.map_congr_left; intro v _; rw [List.length_map, List.length_range]
    rw [this, sum_c]
  have := O.n10
  rw [List.length_map, h2] at h
  omega
theorem Inv.put {L : List En} (O : WOk A W) (I : Inv W L) {e : En} (h : EOk W e) (ha : e.2.1.length ≤ L.length + 1) (hb : e.2.2.1.length ≤ L.length + 1) : Inv W (putA L e) ∧ L.length ≤ (putA L e).length ∧ ∀ i (hi : i < L.length), ∃ h, (putA L e)[i]'h = L[i] := by
  unfold putA
  split
  · exact ⟨I, Nat.le_refl _, fun i hi => ⟨hi, rfl⟩⟩
  · rename_i hn
    refine ⟨⟨fun f hf => ?_, ?_, fun f hf => ?_⟩, by simp, fun i hi => ⟨by rw [List.length_append]; omega, List.getElem_append_left hi⟩⟩
    · rcases List.mem_append.1 hf with h1 | h1
      · exact I.ok f h1
      · rw [List.mem_singleton] at h1; rw [h1]; exact h
    · rw [List.map_append, List.nodup_append]
      refine ⟨I.nd, by simp, fun x hx y hy => ?_⟩
      simp at hy
      rw [hy]; intro e'; exact hn (e' ▸ hx)
    · rw [List.length_append, List.length_singleton]
      rcases List.mem_append.1 hf with h1 | h1
      · have := I.al f h1; omega
      · rw [List.mem_singleton] at h1; rw [h1]; omega
/-- The program's put. -/
theorem pput_ev {L : List En} (O : WOk A W) (I : Inv W L) {e : En} (h : e.1 ∈ Ends W) : Ev (fun k => code_Unique_1.f k e (seen L) L) (seen (putA L e), putA L e) := by
  obtain ⟨h1, h2⟩ := ends_ok O h
  have hle := I.le O
  simp only [code_Unique_1.f]
  refine Ev.bind (key_ev e.1 (by omega)) ?_
  have inj : ∀ f ∈ L, text f.1 = text e.1 ↔ f.1 = e.1 := fun f hf => text_inj (ends_ok O (I.ok f hf).t).2 h2
  unfold putA
  by_cases hm : e.1 ∈ L.map (·.1)
  · rw [if_pos hm]
    obtain ⟨f, hf, he⟩ := List.mem_map.1 hm
    have hg := mget_seen1 (text e.1) L ⟨f, hf, (inj f hf).2 he⟩
    simp only [hg, if_neg (show ¬ (1 : Int) = 0 by decide)]
    exact Ev.now _
  · rw [if_neg hm]
    have hne : ∀ f ∈ L, text f.1 ≠ text e.1 := fun f hf h' => hm (List.mem_map.2 ⟨f, hf, (inj f hf).1 h'⟩)
    have hg := mget_seen (text e.1) L hne
    simp only [hg, if_pos (fit1 (b := 72) (L ++ [(e.fst, e.snd.fst, e.snd.snd.fst, ())]).length (by rw [List.length_append, List.length_singleton]; omega)), if_true]
    rw [mput_seen e L hne]
    exact Ev.now _
theorem u2 : @code_Unique_1_2.f = @code_Unique_1.f := by kernel_rfl
theorem u3 : @code_Unique_1_3.f = @code_Unique_1.f := by kernel_rfl
/-- The reference's put. -/
abbrev rests (L : List En) : List (List Int) := L.map (·.1)
theorem rput_l2 (L : List (List Int)) (hL : L.length ≤ 1000) (hr : ∀ w ∈ L, w.length ≤ 1000) (w : List Int) : ∀ m i, L.length - i = m → i ≤ L.length → Ev (fun k => evermoreref24_put.l2 k w (i : Int) L) (if w ∈ L.drop i then L else L ++ [w]) := by
  intro m
  induction m with
  | zero =>
    intro i hm hi
    rw [List.drop_eq_nil_of_le (by omega), if_neg (by simp)]
    refine Ev.step (h := fun _ => some (L ++ [w])) (fun k => ?_) (Ev.now _)
    rw [evermoreref24_put.l2, if_neg (by omega), if_pos (fit1 _ (by rw [List.length_append, List.length_singleton]; omega))]
  | succ m ih =>
    intro i hm hi
    have hx := hr _ (getD_memW L i (by omega))
    refine Ev.step (h := fun k => (evermoreref1_Words.f k (L.getD i []) w).bind fun r => if r = true then some L else evermoreref24_put.l2 k w ((i + 1 : Nat) : Int) L) (fun k => ?_) ?_
    · rw [evermoreref24_put.l2, if_pos (by omega), if_pos (by omega), if_pos (by omega), wrS i (by omega)]; rfl
    · refine Ev.bind (words_ev _ _ (by omega)) ?_
      rw [drop_getD [] L i (by omega)]
      by_cases h : L.getD i [] = w
      · simp only [h, decide_true, if_true, List.mem_cons, true_or]; exact Ev.now _
      · simp only [h, decide_false, Bool.false_eq_true, if_false]
        refine (ih (i + 1) (by omega) (by omega)).cast ?_
        have : (w ∈ L.getD i [] :: L.drop (i + 1)) ↔ w ∈ L.drop (i + 1) := by
          rw [List.mem_cons]; exact ⟨fun h' => h'.resolve_left (fun e => h e.symm), .inr⟩
        by_cases hm2 : w ∈ L.drop (i + 1)
        · rw [if_pos hm2, if_pos (this.2 hm2)]
        · rw [if_neg hm2, if_neg (fun h' => hm2 (this.1 h'))]
theorem rput_ev {L : List En} (O : WOk A W) (I : Inv W L) (e : En) : Ev (fun k => evermoreref24_put.f k e.1 (rests L)) (rests (putA L e)) := by
  have hle := I.le O
  have := rput_l2 (rests L) (by rw [List.length_map]; omega) (fun w hw => by
    obtain ⟨f, hf, rfl⟩ := List.mem_map.1 hw
    have := (ends_ok O (I.ok f hf).t).1; omega) e.1 _ 0 rfl (by omega)
  simp only [evermoreref24_put.f]
  refine Ev.cast this ?_
  rw [List.drop_zero, putA]
  split
  · rfl
  · simp
end Go.Proofs.YtfkilmmldjajmaaSx.CU
namespace Go.Proofs.YtfkilmmldjajmaaSx.CU
theorem tk (v : List Int) (n : Nat) : List.take (((n : Nat) : Int).toNat - Int.toNat 0) (List.drop (Int.toNat 0) v) = v.take n := by simp
theorem dk (v : List Int) (n : Nat) : List.take (((v.length : Nat) : Int).toNat - ((n : Nat) : Int).toNat) (List.drop ((n : Nat) : Int).toNat v) = v.drop n := by
  rw [Int.toNat_natCast, Int.toNat_natCast, List.take_of_length_le (by rw [List.length_drop]; omega)]
theorem begins_ev (w v : List Int) (hw : w.length ≤ 1000) : Ev (fun k => evermoreref24_Begins.f k w v) (decide (v.length ≤ w.length ∧ w.take v.length = v)) := by
  by_cases h : (w.length : Int) < (v.length : Int)
  · simp only [evermoreref24_Begins.f, if_pos h]
    exact (Ev.now _).cast (decide_eq_false (fun h' => by have := h'.1; omega)).symm
  · simp only [evermoreref24_Begins.f, if_neg h, if_pos (show (0 : Int) ≤ (v.length : Int) by omega), if_pos (show (v.length : Int) ≤ (w.length : Int) by omega), tk]
    refine Ev.bind (words_ev (w.take v.length) v (by rw [List.length_take]; omega)) ((Ev.now _).cast ?_)
    by_cases h2 : w.take v.length = v
    · rw [decide_eq_true h2, decide_eq_true ⟨by omega, h2⟩]
    · rw [decide_eq_false h2, decide_eq_false (fun h' => h2 h'.2)]
theorem clone_ev (b : List Int) (h : b.length < 1000000000) (k : Nat) : slices_Clone___int_int_.f k b = some b := by
  rw [slices_Clone___int_int_.f]; exact if_pos (short _ h)
variable {A : Int} {W : List (List Int)}
abbrev RP := List Int × List Int × Bool × Int
theorem wh_cons (i : Int) (l : List Int) : wh W (i :: l) = W.getD i.toNat [] ++ wh W l := by rw [wh, List.flatMap_cons]; rfl
theorem wh_app (l m : List Int) : wh W (l ++ m) = wh W l ++ wh W m := by rw [wh, List.flatMap_append]; rfl
theorem wh_one (i : Nat) : wh W [(i : Int)] = W.getD i [] := by rw [wh_cons, Int.toNat_natCast]; simp [wh]
/-- One couple of words, at the beginning. -/
theorem first_step (O : WOk A W) (i : Nat) (hi : i < W.length) : ∀ m k L, W.length - k = m → k ≤ W.length → Inv W L →
    ∃ L', Inv W L' ∧ (∀ R : RP, Ev (fun f => code_Unique.l8 f W W (W.length : Int) ((i + 1 : Nat) : Int) L' (seen L')) R → Ev (fun f => code_Unique.l11 f W (i : Int) (W.getD i []) W (W.length : Int) (i : Int) W (W.length : Int) (k : Int) L (seen L)) R) ∧
      (∀ R : Bool, Ev (fun f => evermoreref24_Unique.l3 f W ((i + 1 : Nat) : Int) (rests L')) R → Ev (fun f => evermoreref24_Unique.l6 f W (i : Int) (k : Int) (rests L)) R) := by
  have n10 := O.n10
  have hv := O.len _ (getD_memW W i hi)
  have ei : rd [] W (i : Int) = W.getD i [] := rd_nat _ _ _
  intro m
  induction m with
  | zero =>
    intro k L hm hk I
    refine ⟨L, I, fun R E => Ev.step (fun f => ?_) E, fun R E => Ev.step (fun f => ?_) E⟩
    · rw [code_Unique.l11, if_neg (by omega), wrS i (by omega)]
    · rw [evermoreref24_Unique.l6, if_neg (by omega), wrS i (by omega)]
  | succ m ih =>
    intro k L hm hk I
    have hw := O.len _ (getD_memW W k (by omega))
    have e : rd [] W (k : Int) = W.getD k [] := rd_nat _ _ _
    have j15 : ∀ (L2 : List En) (s2 : List (ByteArray × Int)) f, code_Unique.j15 (f + 1) W (i : Int) (W.getD i []) W (W.length : Int) (i : Int) W (W.length : Int) (k : Int) L2 s2 = code_Unique.l11 f W (i : Int) (W.getD i []) W (W.length : Int) (i : Int) W (W.length : Int) ((k + 1 : Nat) : Int) L2 s2 := by
      intro L2 s2 f; rw [code_Unique.j15, wrS k (by omega)]
    have j7 : ∀ (L2 : List (List Int)) f, evermoreref24_Unique.j7 (f + 1) W (i : Int) (k : Int) L2 = evermoreref24_Unique.l6 f W (i : Int) ((k + 1 : Nat) : Int) L2 := by
      intro L2 f; rw [evermoreref24_Unique.j7, wrS k (by omega)]
    by_cases hik : i = k
    · obtain ⟨L', I', h1, h2⟩ := ih (k + 1) L (by omega) (by omega) I
      refine ⟨L', I', fun R E => ?_, fun R E => ?_⟩
      · refine Ev.step (fun f => by rw [code_Unique.l11, if_pos (by omega), if_pos (by omega), if_pos (by omega), if_pos (by omega)]) ?_
        exact Ev.step (j15 _ _) (h1 R E)
      · refine Ev.step (fun f => by rw [evermoreref24_Unique.l6, if_pos (by omega), if_pos (by omega), if_pos (by omega), if_pos (by omega), if_pos (by omega), e, ei]) (Ev.bind (begins_ev _ _ (by omega)) ?_)
        simp only [if_pos (show (i : Int) = (k : Int) by omega)]
        exact Ev.step (j7 (rests L)) (h2 R E)
    · by_cases hlen : (W.getD k []).length ≤ (W.getD i []).length
      · by_cases hp : (W.getD i []).take (W.getD k []).length = W.getD k []
        · have hE : EOk W ((W.getD i []).drop (W.getD k []).length, [(i : Int)], [(k : Int)], ()) := by
            refine ⟨ends_word O (getD_memW W i hi) _, fun x hx => ?_, fun x hx => ?_, ?_, ⟨(i : Int), (k : Int), [], [], rfl, rfl, by omega⟩⟩
            · rw [List.mem_singleton] at hx; omega
            · rw [List.mem_singleton] at hx; omega
            · show wh W [(i : Int)] = wh W [(k : Int)] ++ (W.getD i []).drop (W.getD k []).length
              rw [wh_one, wh_one]
              conv => lhs; rw [← List.take_append_drop (W.getD k []).length (W.getD i []), hp]
          obtain ⟨I1, _, _⟩ := I.put O hE (by simp) (by simp)
          obtain ⟨L', I', h1, h2⟩ := ih (k + 1) _ (by omega) (by omega) I1
          refine ⟨L', I', fun R E => ?_, fun R E => ?_⟩
          · refine Ev.step (fun f => by rw [code_Unique.l11, if_pos (by omega), if_pos (by omega), if_pos (by omega), if_neg (by omega), e, if_pos (by omega), if_pos (by omega), if_pos (by omega), if_pos (by omega), tk]) (Ev.bind (equal_ev _ _ (by rw [List.length_take]; omega)) ?_)
            simp only [hp, decide_true, if_true, if_pos (show (0 : Int) ≤ ((W.getD k []).length : Int) by omega), if_pos (show ((W.getD k []).length : Int) ≤ ((W.getD i []).length : Int) by omega), if_pos (show ((W.getD i []).length : Int) ≤ ((W.getD i []).length : Int) by omega), dk]
            refine Ev.bind (pput_ev O I hE.t) ?_
            exact Ev.step (j15 _ _) (h1 R E)
          · refine Ev.step (fun f => by rw [evermoreref24_Unique.l6, if_pos (by omega), if_pos (by omega), if_pos (by omega), if_pos (by omega), if_pos (by omega), e, ei]) (Ev.bind (begins_ev _ _ (by omega)) ?_)
            simp only [if_neg (show ¬ (i : Int) = (k : Int) by omega), hlen, hp, and_self, decide_true, if_true, if_pos (show (0 : Int) ≤ (i : Int) by omega), if_pos (show (i : Int) < (W.length : Int) by omega), if_pos (show (0 : Int) ≤ (k : Int) by omega), if_pos (show (k : Int) < (W.length : Int) by omega), if_pos (show (0 : Int) ≤ ((W.getD k []).length : Int) by omega), if_pos (show ((W.getD k []).length : Int) ≤ ((W.getD i []).length : Int) by omega), if_pos (show ((W.getD i []).length : Int) ≤ ((W.getD i []).length : Int) by omega), dk]
            refine Ev.bind (rput_ev O I ((W.getD i []).drop (W.getD k []).length, [(i : Int)], [(k : Int)], ())) ?_
            exact Ev.step (j7 _) (h2 R E)
        · obtain ⟨L', I', h1, h2⟩ := ih (k + 1) L (by omega) (by omega) I
          refine ⟨L', I', fun R E => ?_, fun R E => ?_⟩
          · refine Ev.step (fun f => by rw [code_Unique.l11, if_pos (by omega), if_pos (by omega), if_pos (by omega), if_neg (by omega), e, if_pos (by omega), if_pos (by omega), if_pos (by omega), if_pos (by omega), tk]) (Ev.bind (equal_ev _ _ (by rw [List.length_take]; omega)) ?_)
            simp only [hp, decide_false, Bool.false_eq_true, if_false]
            exact Ev.step (j15 _ _) (h1 R E)
          · refine Ev.step (fun f => by rw [evermoreref24_Unique.l6, if_pos (by omega), if_pos (by omega), if_pos (by omega), if_pos (by omega), if_pos (by omega), e, ei]) (Ev.bind (begins_ev _ _ (by omega)) ?_)
            simp only [if_neg (show ¬ (i : Int) = (k : Int) by omega), hp, and_false, decide_false, Bool.false_eq_true, if_false]
            exact Ev.step (j7 _) (h2 R E)
      · obtain ⟨L', I', h1, h2⟩ := ih (k + 1) L (by omega) (by omega) I
        refine ⟨L', I', fun R E => ?_, fun R E => ?_⟩
        · refine Ev.step (fun f => by rw [code_Unique.l11, if_pos (by omega), if_pos (by omega), if_pos (by omega), if_neg (by omega), e, if_neg (by omega)]) ?_
          exact Ev.step (j15 _ _) (h1 R E)
        · refine Ev.step (fun f => by rw [evermoreref24_Unique.l6, if_pos (by omega), if_pos (by omega), if_pos (by omega), if_pos (by omega), if_pos (by omega), e, ei]) (Ev.bind (begins_ev _ _ (by omega)) ?_)
          simp only [if_neg (show ¬ (i : Int) = (k : Int) by omega), hlen, false_and, decide_false, Bool.false_eq_true, if_false]
          exact Ev.step (j7 _) (h2 R E)
theorem first_all (O : WOk A W) : ∀ m i L, W.length - i = m → i ≤ W.length → Inv W L →
    ∃ L', Inv W L' ∧ (∀ R : RP, Ev (fun f => code_Unique.l18 f W 0 L' (seen L')) R → Ev (fun f => code_Unique.l8 f W W (W.length : Int) (i : Int) L (seen L)) R) ∧
      (∀ R : Bool, Ev (fun f => evermoreref24_Unique.l12 f W 0 (rests L')) R → Ev (fun f => evermoreref24_Unique.l3 f W (i : Int) (rests L)) R) := by
  have n10 := O.n10
  intro m
  induction m with
  | zero =>
    intro i L hm hi I
    refine ⟨L, I, fun R E => Ev.step (fun f => ?_) E, fun R E => Ev.step (fun f => ?_) E⟩
    · rw [code_Unique.l8, if_neg (by omega)]
    · rw [evermoreref24_Unique.l3, if_neg (by omega)]
  | succ m ih =>
    intro i L hm hi I
    have ei : rd [] W (i : Int) = W.getD i [] := rd_nat _ _ _
    obtain ⟨L1, I1, a1, a2⟩ := first_step O i (by omega) _ 0 L rfl (by omega) I
    obtain ⟨L', I', h1, h2⟩ := ih (i + 1) L1 (by omega) (by omega) I1
    refine ⟨L', I', fun R E => Ev.step (fun f => ?_) (a1 R (h1 R E)), fun R E => Ev.step (fun f => ?_) (a2 R (h2 R E))⟩
    · rw [code_Unique.l8, if_pos (by omega), if_pos (by omega), if_pos (by omega), ei]; rfl
    · rw [evermoreref24_Unique.l3, if_pos (by omega)]; rfl
end Go.Proofs.YtfkilmmldjajmaaSx.CU
namespace Go.Proofs.YtfkilmmldjajmaaSx.CU
variable {A : Int} {W : List (List Int)}
/-- One word behind what is left. -/
theorem next_step (O : WOk A W) (j : Nat) (hj : j ≤ 200) (e : En) : ∀ m k L, W.length - k = m → k ≤ W.length → Inv W L → e ∈ L →
    ∃ L', Inv W L' ∧ L.length ≤ L'.length ∧ (∀ R : RP, Ev (fun f => code_Unique.l18 f W ((j + 1 : Nat) : Int) L' (seen L')) R → Ev (fun f => code_Unique.l24 f W (j : Int) W (W.length : Int) (k : Int) e.1 e.2.1 e.2.2.1 L (seen L)) R) ∧
      (∀ R : Bool, Ev (fun f => evermoreref24_Unique.l12 f W ((j + 1 : Nat) : Int) (rests L')) R → Ev (fun f => evermoreref24_Unique.l18 f W (j : Int) e.1 (k : Int) (rests L)) R) := by
  have n10 := O.n10
  intro m
  induction m with
  | zero =>
    intro k L hm hk I he
    refine ⟨L, I, Nat.le_refl _, fun R E => Ev.step (fun f => ?_) E, fun R E => Ev.step (fun f => ?_) E⟩
    · rw [code_Unique.l24, if_neg (by omega), wrS j (by omega)]
    · rw [evermoreref24_Unique.l18, if_neg (by omega), wrS j (by omega)]
  | succ m ih =>
    intro k L hm hk I he
    have hw := O.len _ (getD_memW W k (by omega))
    have ew : rd [] W (k : Int) = W.getD k [] := rd_nat _ _ _
    have hx := I.ok e he
    have hr := ends_ok O hx.t
    have hle := I.le O
    have hal := I.al e he
    have hcl : Ev (fun f => slices_Clone___int_int_.f f e.2.2.1) e.2.2.1 := Ev.all (clone_ev e.2.2.1 (by omega))
    obtain ⟨w, hwe⟩ : ∃ w, w = W.getD k [] := ⟨_, rfl⟩
    rw [← hwe] at hw ew
    have hmore : wh W (e.2.2.1 ++ [(k : Int)]) = wh W e.2.2.1 ++ w := by rw [wh_app, wh_one, hwe]
    have hmb : ∀ x ∈ e.2.2.1 ++ [(k : Int)], 0 ≤ x ∧ x < (W.length : Int) := by
      intro x h
      rcases List.mem_append.1 h with h | h
      · exact hx.b x h
      · rw [List.mem_singleton] at h; omega
    have hmn : ∃ y v, e.2.2.1 ++ [(k : Int)] = y :: v ∧ e.2.2.1 = y :: (e.2.2.1).tail := by
      obtain ⟨x, y, u, v, _, h2, _⟩ := hx.ne
      exact ⟨y, v ++ [(k : Int)], by rw [h2]; rfl, by rw [h2]; rfl⟩
    have hml : (e.2.2.1 ++ [(k : Int)]).length = e.2.2.1.length + 1 := by rw [List.length_append]; rfl
    have j32 : ∀ (L2 : List En) (s2 : List (ByteArray × Int)) f, code_Unique.j32 (f + 1) W (j : Int) W (W.length : Int) (k : Int) e.1 e.2.1 e.2.2.1 L2 s2 = code_Unique.l24 f W (j : Int) W (W.length : Int) ((k + 1 : Nat) : Int) e.1 e.2.1 e.2.2.1 L2 s2 := by
      intro L2 s2 f; rw [code_Unique.j32, wrS k (by omega)]
    have j19 : ∀ (L2 : List (List Int)) f, evermoreref24_Unique.j19 (f + 1) W (j : Int) e.1 (k : Int) L2 = evermoreref24_Unique.l18 f W (j : Int) e.1 ((k + 1 : Nat) : Int) L2 := by
      intro L2 f; rw [evermoreref24_Unique.j19, wrS k (by omega)]
    by_cases hlen : w.length ≤ e.1.length
    · have hmin : ¬ (e.1.length : Int) < (w.length : Int) := by omega
      have htw : w.take w.length = w := List.take_of_length_le (Nat.le_refl _)
      by_cases hp : e.1.take w.length = w
      · have hE : EOk W (e.1.drop w.length, e.2.1, e.2.2.1 ++ [(k : Int)], ()) := by
          refine ⟨ends_drop O hx.t _, hx.a, hmb, ?_, ?_⟩
          · show wh W e.2.1 = wh W (e.2.2.1 ++ [(k : Int)]) ++ e.1.drop w.length
            rw [hmore, hx.eq, List.append_assoc]
            congr 1
            conv => lhs; rw [← List.take_append_drop w.length e.1, hp]
          · obtain ⟨x, y, u, v, h1, h2, h3⟩ := hx.ne
            exact ⟨x, y, u, v ++ [(k : Int)], h1, by show e.2.2.1 ++ [(k : Int)] = _; rw [h2]; rfl, h3⟩
        obtain ⟨I1, hl1, hg1⟩ := I.put O hE (by show e.2.1.length ≤ _; omega) (by show (e.2.2.1 ++ [(k : Int)]).length ≤ _; omega)
        have he1 : e ∈ putA L (e.1.drop w.length, e.2.1, e.2.2.1 ++ [(k : Int)], ()) := by
          unfold putA; split
          · exact he
          · exact List.mem_append_left _ he
        obtain ⟨L', I', hl', h1, h2⟩ := ih (k + 1) _ (by omega) (by omega) I1 he1
        refine ⟨L', I', by omega, fun R E => ?_, fun R E => ?_⟩
        · refine Ev.step (fun f => by rw [code_Unique.l24, if_pos (by omega), if_pos (by omega), if_pos (by omega)]) (Ev.bind hcl ?_)
          simp only [if_pos (fit1 (b := 8) (e.2.2.1 ++ [(k : Int)]).length (by omega)), ew, if_neg hmin, if_pos (show (0 : Int) ≤ 0 by decide), if_pos (show (0 : Int) ≤ (w.length : Int) by omega), if_pos (show (w.length : Int) ≤ (w.length : Int) by omega), if_pos (show (w.length : Int) ≤ (e.1.length : Int) by omega), if_pos (show (e.1.length : Int) ≤ (e.1.length : Int) by omega), tk, htw, dk]
          refine Ev.bind (equal_ev _ _ (by omega)) ?_
          simp only [hp, decide_true, if_true, u2]
          refine Ev.bind (pput_ev O I hE.t) ?_
          exact Ev.step (j32 _ _) (h1 R E)
        · refine Ev.step (fun f => by rw [evermoreref24_Unique.l18, if_pos (by omega), if_pos (by omega), if_pos (by omega), ew]) (Ev.bind (begins_ev _ _ (by omega)) ?_)
          simp only [if_pos (show (0 : Int) ≤ (k : Int) by omega), if_pos (show (k : Int) < (W.length : Int) by omega)]
          refine Ev.bind (begins_ev _ _ (by omega)) ?_
          simp only [hlen, hp, and_self, decide_true, if_true, if_pos (show (0 : Int) ≤ (k : Int) by omega), if_pos (show (k : Int) < (W.length : Int) by omega), if_pos (show (0 : Int) ≤ (w.length : Int) by omega), if_pos (show (w.length : Int) ≤ (e.1.length : Int) by omega), if_pos (show (e.1.length : Int) ≤ (e.1.length : Int) by omega), dk]
          refine Ev.bind (rput_ev O I (e.1.drop w.length, e.2.1, e.2.2.1 ++ [(k : Int)], ())) ?_
          exact Ev.step (j19 _) (h2 R E)
      · have hp2 : ¬ w = e.1.take w.length := fun h => hp h.symm
        obtain ⟨L', I', hl', h1, h2⟩ := ih (k + 1) L (by omega) (by omega) I he
        refine ⟨L', I', hl', fun R E => ?_, fun R E => ?_⟩
        · refine Ev.step (fun f => by rw [code_Unique.l24, if_pos (by omega), if_pos (by omega), if_pos (by omega)]) (Ev.bind hcl ?_)
          simp only [if_pos (fit1 (b := 8) (e.2.2.1 ++ [(k : Int)]).length (by omega)), ew, if_neg hmin, if_pos (show (0 : Int) ≤ 0 by decide), if_pos (show (0 : Int) ≤ (w.length : Int) by omega), if_pos (show (w.length : Int) ≤ (w.length : Int) by omega), if_pos (show (w.length : Int) ≤ (e.1.length : Int) by omega), tk, htw]
          refine Ev.bind (equal_ev _ _ (by omega)) ?_
          simp only [hp2, decide_false, Bool.false_eq_true, if_false]
          exact Ev.step (j32 _ _) (h1 R E)
        · refine Ev.step (fun f => by rw [evermoreref24_Unique.l18, if_pos (by omega), if_pos (by omega), if_pos (by omega), ew]) (Ev.bind (begins_ev _ _ (by omega)) ?_)
          simp only [if_pos (show (0 : Int) ≤ (k : Int) by omega), if_pos (show (k : Int) < (W.length : Int) by omega)]
          refine Ev.bind (begins_ev _ _ (by omega)) ?_
          have htwo : ¬ (e.1.length ≤ w.length ∧ w.take e.1.length = e.1) := by
            rintro ⟨q1, q2⟩
            have : w.length = e.1.length := by omega
            rw [← this, htw] at q2
            exact hp (by rw [q2, List.take_of_length_le (Nat.le_refl _)])
          simp only [hp, and_false, htwo, decide_false, Bool.false_eq_true, if_false]
          exact Ev.step (j19 _) (h2 R E)
    · have hmin : (e.1.length : Int) < (w.length : Int) := by omega
      have htr : e.1.take e.1.length = e.1 := List.take_of_length_le (Nat.le_refl _)
      by_cases hp : w.take e.1.length = e.1
      · have hE : EOk W (w.drop e.1.length, e.2.2.1 ++ [(k : Int)], e.2.1, ()) := by
          refine ⟨by rw [hwe]; exact ends_word O (getD_memW W k (by omega)) _, hmb, hx.a, ?_, ?_⟩
          · show wh W (e.2.2.1 ++ [(k : Int)]) = wh W e.2.1 ++ w.drop e.1.length
            rw [hmore, hx.eq, List.append_assoc]
            congr 1
            conv => lhs; rw [← List.take_append_drop e.1.length w, hp]
          · obtain ⟨x, y, u, v, h1, h2, h3⟩ := hx.ne
            exact ⟨y, x, v ++ [(k : Int)], u, by show e.2.2.1 ++ [(k : Int)] = _; rw [h2]; rfl, h1, fun h => h3 h.symm⟩
        obtain ⟨I1, hl1, hg1⟩ := I.put O hE (by show (e.2.2.1 ++ [(k : Int)]).length ≤ _; omega) (by show e.2.1.length ≤ _; omega)
        have he1 : e ∈ putA L (w.drop e.1.length, e.2.2.1 ++ [(k : Int)], e.2.1, ()) := by
          unfold putA; split
          · exact he
          · exact List.mem_append_left _ he
        obtain ⟨L', I', hl', h1, h2⟩ := ih (k + 1) _ (by omega) (by omega) I1 he1
        refine ⟨L', I', by omega, fun R E => ?_, fun R E => ?_⟩
        · refine Ev.step (fun f => by rw [code_Unique.l24, if_pos (by omega), if_pos (by omega), if_pos (by omega)]) (Ev.bind hcl ?_)
          simp only [if_pos (fit1 (b := 8) (e.2.2.1 ++ [(k : Int)]).length (by omega)), ew, if_pos hmin, if_pos (show (0 : Int) ≤ 0 by decide), if_pos (show (0 : Int) ≤ (e.1.length : Int) by omega), if_pos (show (e.1.length : Int) ≤ (e.1.length : Int) by omega), if_pos (show (e.1.length : Int) ≤ (w.length : Int) by omega), if_pos (show (w.length : Int) ≤ (w.length : Int) by omega), if_neg (show ¬ (w.length : Int) ≤ (e.1.length : Int) by omega), tk, htr, dk]
          refine Ev.bind (equal_ev _ _ (by rw [List.length_take]; omega)) ?_
          simp only [hp, decide_true, if_true, u3]
          refine Ev.bind (pput_ev O I hE.t) ?_
          exact Ev.step (j32 _ _) (h1 R E)
        · refine Ev.step (fun f => by rw [evermoreref24_Unique.l18, if_pos (by omega), if_pos (by omega), if_pos (by omega), ew]) (Ev.bind (begins_ev _ _ (by omega)) ?_)
          simp only [if_pos (show (0 : Int) ≤ (k : Int) by omega), if_pos (show (k : Int) < (W.length : Int) by omega)]
          refine Ev.bind (begins_ev _ _ (by omega)) ?_
          simp only [hlen, hp, false_and, show e.1.length ≤ w.length by omega, and_self, decide_true, decide_false, Bool.false_eq_true, if_false, if_true, if_pos (show (0 : Int) ≤ (k : Int) by omega), if_pos (show (k : Int) < (W.length : Int) by omega), if_pos (show (0 : Int) ≤ (e.1.length : Int) by omega), if_pos (show (e.1.length : Int) ≤ (w.length : Int) by omega), if_pos (show (w.length : Int) ≤ (w.length : Int) by omega), dk]
          refine Ev.bind (rput_ev O I (w.drop e.1.length, e.2.2.1 ++ [(k : Int)], e.2.1, ())) ?_
          exact Ev.step (j19 _) (h2 R E)
      · obtain ⟨L', I', hl', h1, h2⟩ := ih (k + 1) L (by omega) (by omega) I he
        refine ⟨L', I', hl', fun R E => ?_, fun R E => ?_⟩
        · refine Ev.step (fun f => by rw [code_Unique.l24, if_pos (by omega), if_pos (by omega), if_pos (by omega)]) (Ev.bind hcl ?_)
          simp only [if_pos (fit1 (b := 8) (e.2.2.1 ++ [(k : Int)]).length (by omega)), ew, if_pos hmin, if_pos (show (0 : Int) ≤ 0 by decide), if_pos (show (0 : Int) ≤ (e.1.length : Int) by omega), if_pos (show (e.1.length : Int) ≤ (e.1.length : Int) by omega), if_pos (show (e.1.length : Int) ≤ (w.length : Int) by omega), tk, htr]
          refine Ev.bind (equal_ev _ _ (by rw [List.length_take]; omega)) ?_
          simp only [hp, decide_false, Bool.false_eq_true, if_false]
          exact Ev.step (j32 _ _) (h1 R E)
        · refine Ev.step (fun f => by rw [evermoreref24_Unique.l18, if_pos (by omega), if_pos (by omega), if_pos (by omega), ew]) (Ev.bind (begins_ev _ _ (by omega)) ?_)
          simp only [if_pos (show (0 : Int) ≤ (k : Int) by omega), if_pos (show (k : Int) < (W.length : Int) by omega)]
          refine Ev.bind (begins_ev _ _ (by omega)) ?_
          simp only [hlen, hp, false_and, and_false, decide_false, Bool.false_eq_true, if_false]
          exact Ev.step (j19 _) (h2 R E)
/-- How both come out. -/
def Out (W : List (List Int)) (R : RP) (u : Bool) : Prop := (u = true ∧ R = ([], [], true, 0)) ∨ (u = false ∧ ∃ e, EOk W e ∧ e.1 = [] ∧ e.2.1.length ≤ 200 ∧ e.2.2.1.length ≤ 200 ∧ R = (e.2.1, e.2.2.1, false, 0))
theorem main_loop (O : WOk A W) : ∀ (m j : Nat) (L : List En), 111 - j = m → j ≤ L.length → Inv W L → ∃ R u, Ev (fun f => code_Unique.l18 f W (j : Int) L (seen L)) R ∧ Ev (fun f => evermoreref24_Unique.l12 f W (j : Int) (rests L)) u ∧ Out W R u := by
  intro m
  induction m with
  | zero => intro j L hm hj I; have := I.le O; omega
  | succ m ih =>
    intro j L hm hj I
    have hle := I.le O
    have hlr : (rests L).length = L.length := List.length_map ..
    by_cases h : j < L.length
    · have hd : L.getD (j : Int).toNat ([], [], [], ()) = L[j] := by rw [Int.toNat_natCast, List.getD_eq_getElem?_getD, List.getElem?_eq_getElem h]; rfl
      have hd2 : (rests L).getD (j : Int).toNat [] = L[j].1 := by rw [Int.toNat_natCast, List.getD_eq_getElem?_getD, List.getElem?_map, List.getElem?_eq_getElem h]; rfl
      have hmem : L[j] ∈ L := List.getElem_mem h
      have hal := I.al _ hmem
      by_cases hz : L[j].1 = []
      · refine ⟨(L[j].2.1, L[j].2.2.1, false, 0), false, ?_, ?_, .inr ⟨rfl, L[j], I.ok _ hmem, hz, by omega, by omega, rfl⟩⟩
        · refine Ev.step (h := fun _ => some (L[j].2.1, L[j].2.2.1, false, 0)) (fun f => ?_) (Ev.now _)
          rw [code_Unique.l18, if_pos (by omega), if_pos (by omega), if_pos (by omega), hd, hz]; rfl
        · refine Ev.step (h := fun _ => some false) (fun f => ?_) (Ev.now _)
          rw [evermoreref24_Unique.l12, if_pos (by omega), if_pos (by omega), if_pos (by omega), hd2, hz]; rfl
      · have hne : ¬ ((L[j].1.length : Nat) : Int) = 0 := by
          intro h'; exact hz (List.length_eq_zero_iff.1 (by omega))
        obtain ⟨L', I', hl', h1, h2⟩ := next_step O j (by omega) L[j] _ 0 L rfl (by omega) I hmem
        obtain ⟨R, u, g1, g2, g3⟩ := ih (j + 1) L' (by omega) (by omega) I'
        refine ⟨R, u, Ev.step (fun f => ?_) (h1 R g1), Ev.step (fun f => ?_) (h2 u g2), g3⟩
        · rw [code_Unique.l18, if_pos (by omega), if_pos (by omega), if_pos (by omega), hd, if_neg hne]; rfl
        · rw [evermoreref24_Unique.l12, if_pos (by omega), if_pos (by omega), if_pos (by omega), hd2, if_neg hne]; rfl
    · refine ⟨([], [], true, 0), true, ?_, ?_, .inl ⟨rfl, rfl⟩⟩
      · refine Ev.step (h := fun _ => some ([], [], true, 0)) (fun f => ?_) (Ev.now _)
        rw [code_Unique.l18, if_neg (by omega)]
      · refine Ev.step (h := fun _ => some true) (fun f => ?_) (Ev.now _)
        rw [evermoreref24_Unique.l12, if_neg (by omega)]
theorem whole_l3 (O : WOk A W) (row : List Int) (hr : row.length ≤ 200) (hi : ∀ x ∈ row, 0 ≤ x ∧ x < (W.length : Int)) : ∀ m i out, row.length - i = m → i ≤ row.length → out.length ≤ 10 * i → Ev (fun f => evermoreref24_Whole.l3 f W row (i : Int) out) (true, out ++ wh W (row.drop i)) := by
  have n10 := O.n10
  intro m
  induction m with
  | zero =>
    intro i out hm hi2 ho
    rw [List.drop_eq_nil_of_le (by omega)]
    refine Ev.step (h := fun _ => some (true, out)) (fun f => ?_) ((Ev.now _).cast ?_)
    · rw [evermoreref24_Whole.l3, if_neg (by omega)]
    · simp [wh]
  | succ m ih =>
    intro i out hm hi2 ho
    have hx := hi _ (getD_memI row i (by omega))
    have e : rd (Int.ofNat 0) row (i : Int) = row.getD i 0 := rd_nat _ _ _
    have e2 : rd [] W (row.getD i 0) = W.getD (row.getD i 0).toNat [] := rfl
    have hw := O.len _ (getD_memW W (row.getD i 0).toNat (by omega))
    have hl : (out ++ W.getD (row.getD i 0).toNat []).length ≤ 10 * (i + 1) := by rw [List.length_append]; omega
    refine Ev.step (fun f => ?_) ((ih (i + 1) (out ++ W.getD (row.getD i 0).toNat []) (by omega) (by omega) hl).cast ?_)
    · rw [evermoreref24_Whole.l3, if_pos (by omega), if_pos (by omega), if_pos (by omega), e, if_neg (by omega), if_pos (by omega), if_pos (by omega), if_neg (by omega), if_pos (by omega), if_pos (by omega), if_pos (by omega), if_pos (by omega), e2, if_pos (fit1 _ (by omega)), wrS i (by omega)]
    · rw [drop_getD 0 row i (by omega), wh_cons, List.append_assoc]
theorem whole_ev (O : WOk A W) (row : List Int) (hr : row.length ≤ 200) (hi : ∀ x ∈ row, 0 ≤ x ∧ x < (W.length : Int)) : Ev (fun f => evermoreref24_Whole.f f W row) (true, wh W row) :=
  (whole_l3 O row hr hi _ 0 [] rfl (by omega) (by simp)).cast (by rw [List.drop_zero]; rfl)
theorem wh_len (O : WOk A W) : ∀ (row : List Int), (∀ x ∈ row, 0 ≤ x ∧ x < (W.length : Int)) → (wh W row).length ≤ 10 * row.length
  | [], _ => by simp [wh]
  | i :: row, h => by
    have := wh_len O row fun x hx => h x (List.mem_cons_of_mem _ hx)
    have hi := h i List.mem_cons_self
    have hw := O.len _ (getD_memW W i.toNat (by omega))
    rw [wh_cons, List.length_append, List.length_cons]; omega
theorem CodeUnique : evermorelaw_CodeUnique.PureH := by
  intro A W okA okW
  have hW24 : W.length * 24 ≤ 140737488351232 := okW.2.1
  have hrow : ∀ w ∈ W, w.length * 8 ≤ 140737488351232 := fun w hw => (okW.2.2 w hw).2.1
  refine Ev.get ?_
  obtain ⟨e, c1, c2, c3⟩ := check_ev A W
  simp only [evermorelaw_CodeUnique.f]
  refine Ev.bind (lists_ev W hW24 hrow) ?_
  have hs := same_ev W (by omega) (fun w hw => by have := hrow w hw; omega)
  by_cases he : e = 0
  · have O := c3 he
    subst he
    have I0 : Inv W [] := ⟨fun e h => by simp at h, by simp, fun e h => by simp at h⟩
    obtain ⟨L1, I1, a1, a2⟩ := first_all O _ 0 [] rfl (by omega) I0
    obtain ⟨R, u, g1, g2, g3⟩ := main_loop O _ 0 L1 rfl (by omega) I1
    have hp : Ev (fun k => code_Unique.f k A W) R := by
      simp only [code_Unique.f]
      refine Ev.bind c1 ?_
      simp only [if_true]
      exact a1 R g1
    have hu : Ev (fun k => evermoreref24_Unique.f k W) u := by
      simp only [evermoreref24_Unique.f]
      exact a2 u g2
    refine Ev.bind hp (Ev.bind c1 (Ev.bind hs (Ev.bind c2 ?_)))
    simp only [if_true]
    refine Ev.bind hu ?_
    rcases g3 with ⟨rfl, rfl⟩ | ⟨rfl, q, hq, hz, l1, l2, rfl⟩
    · simp only [Bool.not_true, Bool.false_eq_true, if_false, if_true, beq_self_eq_true]
      exact (Ev.now _).cast (by rfl)
    · have wa := whole_ev O _ l1 hq.a
      have wb := whole_ev O _ l2 hq.b
      have hne : q.2.1 ≠ q.2.2.1 := by
        obtain ⟨x, y, t, v, h1, h2, h3⟩ := hq.ne
        rw [h1, h2]; intro h; exact h3 (List.cons.inj h).1
      have heq : wh W q.2.1 = wh W q.2.2.1 := by rw [hq.eq, hz, List.append_nil]
      have hl := wh_len O _ hq.a
      simp only [Bool.not_false, Bool.false_eq_true, if_false, if_true, Bool.true_eq_false, beq_iff_eq]
      refine Ev.bind wa (Ev.bind wb (Ev.bind (words_ev q.2.1 q.2.2.1 (by omega)) (Ev.bind (words_ev (wh W q.2.1) (wh W q.2.2.1) (by omega)) ?_)))
      simp only [hne, heq, decide_false, decide_true, Bool.false_eq_true, if_false, if_true]
      exact Ev.now _
  · have hp : Ev (fun k => code_Unique.f k A W) ([], [], false, e) := by
      simp only [code_Unique.f]
      refine Ev.bind c1 ?_
      simp only [if_neg he]
      exact Ev.now _
    refine Ev.bind hp (Ev.bind c1 (Ev.bind hs (Ev.bind c2 ?_)))
    simp only [if_true, if_neg he, Bool.false_eq_true, if_false]
    exact (Ev.now _).cast (by rfl)
end Go.Proofs.YtfkilmmldjajmaaSx.CU
namespace Go.Proofs.Ytfkilmmldjajmaa
theorem Pure.CodeUnique : Go.Proofs.YtfkilmmldjajmaaSx.evermorelaw_CodeUnique.PureH := Go.Proofs.YtfkilmmldjajmaaSx.CU.CodeUnique
end Go.Proofs.Ytfkilmmldjajmaa
