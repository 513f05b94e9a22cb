/- For every transducer and every word the program's check and answer are the reference's. No conditions beyond the statement's. -/
import Derived.Test.YtklkcdphcmimoaaPTransRunsx8
import Derived.Test.YtklkcdphcmimoaaQTransRuns
namespace Go.Proofs.Ytklkcdphcmimoaa.Pure
open Go.RowKit Go.Proofs.Ytklkcdphcmimoaa.PTransRuns Go.Proofs.YtklkcdphcmimoaaW.PrintWords Go.Proofs.YtklkcdphcmimoaaW.PrintLast Go.Proofs.YtklkcdphcmimoaaW.PrintMore
set_option linter.unusedVariables false
set_option linter.unusedSimpArgs false
theorem w64 {n : Int} (h : -9223372036854775808 ≤ n) (h' : n ≤ 9223372036854775807) : wrap64 n = n := by unfold wrap64; omega
theorem rdn (l : List Int) (i : Nat) (h : i < l.length) : rd l (i : Int) = l[i] := by
  unfold rd; rw [Int.toNat_natCast, List.getD_eq_getElem?_getD, List.getElem?_eq_getElem h]; rfl
theorem rdOfn {α : Type} (d : α) (l : List α) (i : Nat) (h : i < l.length) : rdOf d l (i : Int) = l[i] := by
  unfold rdOf; rw [Int.toNat_natCast, List.getD_eq_getElem?_getD, List.getElem?_eq_getElem h]; rfl
theorem evc {α : Type} {g : Nat → Option α} {a b : α} (h : Ev g a) (e : a = b) : Ev g b := e ▸ h
theorem rdL (l : List (List Int)) (n : Nat) : rd_L1 l (n : Int) = l.getD n [] := by unfold rd_L1; rw [Int.toNat_natCast]
theorem rdN (l : List Int) (n : Nat) : rd l (n : Int) = l.getD n 0 := by unfold rd; rw [Int.toNat_natCast]
theorem w1 (i : Nat) (h : i ≤ 9223372036854775000) : wrap64 ((i : Int) + 1) = ((i + 1 : Nat) : Int) := by rw [w64 (by omega) (by omega)]; omega
theorem getD_mem {α : Type} (l : List α) (n : Nat) (d : α) (h : n < l.length) : l.getD n d ∈ l := by
  rw [List.getD_eq_getElem?_getD, List.getElem?_eq_getElem h]; exact List.getElem_mem h
theorem drop_getD {α : Type} (l : List α) (n : Nat) (d : α) (h : n < l.length) : l.drop n = l.getD n d :: l.drop (n + 1) := by
  rw [List.drop_eq_getElem_cons h, List.getD_eq_getElem?_getD, List.getElem?_eq_getElem h]; rfl
/-- the first place at which p holds, from i on; -1: none -/
def ixf {α : Type} (p : α → Bool) : List α → Nat → Int
  | [], _ => -1
  | x :: xs, i => if p x = true then (i : Int) else ixf p xs (i + 1)
theorem ixf_any {α : Type} (p : α → Bool) : ∀ (xs : List α) (i : Nat), decide (ixf p xs i ≥ 0) = xs.any p
  | [], _ => by simp [ixf]
  | x :: xs, i => by
    have ih := ixf_any p xs (i + 1)
    by_cases h : p x = true
    · rw [ixf, if_pos h, List.any_cons, h]
      simp
    · rw [ixf, if_neg h, List.any_cons, ih]
      simp [h]
/-- a loop over a list that ends at the first element of which p holds -/
theorem anyL_ev {α R : Type} (d0 : α) (xs : List α) (p : α → Bool) (a b : R) (L : Nat → Int → Option R)
    (hstop : ∀ i : Nat, i < xs.length → p (xs.getD i d0) = true → Ev (fun k => L k (i : Int)) a)
    (hgo : ∀ i : Nat, i < xs.length → p (xs.getD i d0) = false → ∀ r, Ev (fun k => L k ((i + 1 : Nat) : Int)) r → Ev (fun k => L k (i : Int)) r)
    (hend : xs.any p = false → Ev (fun k => L k (xs.length : Int)) b) : ∀ d i : Nat, i + d = xs.length → ((xs.drop i).any p = false → xs.any p = false) → Ev (fun k => L k (i : Int)) (if (xs.drop i).any p = true then a else b) := by
  intro d
  induction d with
  | zero =>
    intro i hi hp
    rw [List.drop_of_length_le (by omega)] at hp ⊢
    rw [show i = xs.length by omega]
    exact hend (hp rfl)
  | succ d ih =>
    intro i hi hp
    rw [drop_getD xs i d0 (by omega), List.any_cons] at hp ⊢
    cases h : p (xs.getD i d0) with
    | true => exact hstop i (by omega) h
    | false => exact hgo i (by omega) h _ (ih (i + 1) (by omega) (fun e => hp (by rw [h, e]; rfl)))
theorem anyL_ev0 {α R : Type} (d0 : α) (xs : List α) (p : α → Bool) (a b : R) (L : Nat → Int → Option R)
    (hstop : ∀ i : Nat, i < xs.length → p (xs.getD i d0) = true → Ev (fun k => L k (i : Int)) a)
    (hgo : ∀ i : Nat, i < xs.length → p (xs.getD i d0) = false → ∀ r, Ev (fun k => L k ((i + 1 : Nat) : Int)) r → Ev (fun k => L k (i : Int)) r)
    (hend : xs.any p = false → Ev (fun k => L k (xs.length : Int)) b) : Ev (fun k => L k 0) (if xs.any p = true then a else b) := by
  have := anyL_ev d0 xs p a b L hstop hgo hend xs.length 0 (by omega) (fun h => by rwa [List.drop_zero] at h)
  rwa [List.drop_zero] at this
/-- a loop over numbers that ends at the first one of which p holds -/
theorem anyN_ev {R : Type} (n : Nat) (p : Nat → Bool) (a b : R) (L : Nat → Int → Option R)
    (hstop : ∀ i : Nat, i < n → p i = true → Ev (fun k => L k (i : Int)) a)
    (hgo : ∀ i : Nat, i < n → p i = false → ∀ r, Ev (fun k => L k ((i + 1 : Nat) : Int)) r → Ev (fun k => L k (i : Int)) r)
    (hend : (List.range n).any p = false → Ev (fun k => L k (n : Int)) b) : Ev (fun k => L k 0) (if (List.range n).any p = true then a else b) := by
  have e : (List.range n).length = n := List.length_range
  have g : ∀ i, i < n → (List.range n).getD i 0 = i := fun i hi => by rw [List.getD_eq_getElem?_getD, List.getElem?_range hi]; rfl
  exact anyL_ev0 0 (List.range n) p a b L (fun i hi h => by rw [e] at hi; rw [g i hi] at h; exact hstop i hi h) (fun i hi h r hr => by rw [e] at hi; rw [g i hi] at h; exact hgo i hi h r hr) (fun h => by rw [e]; exact hend h)
theorem evs {α : Type} {x : Option α} {r : α} (h : x = some r) : Ev (fun _ => x) r := ⟨0, fun _ _ => h⟩
theorem evermoreref1_Words_l0 (a b : List Int) (hl : a.length = b.length) (hb : a.length ≤ 9223372036854775000) : ∀ d i : Nat, i + d = a.length → Ev (fun k => evermoreref1_Words.l0 k a b (i : Int)) (decide (a.drop i = b.drop i)) := by
  intro d
  induction d with
  | zero =>
    intro i hi
    refine Ev.step (fun k => by rw [evermoreref1_Words.l0]) ?_
    simp only [if_neg (show ¬ ((i : Int) < (a.length : Int)) by omega)]
    rw [List.drop_of_length_le (by omega), List.drop_of_length_le (by omega)]
    simpa using Ev.now true
  | succ d ih =>
    intro i hi
    refine Ev.step (fun k => by rw [evermoreref1_Words.l0]) ?_
    have h1 : i < a.length := by omega
    have h2 : i < b.length := by omega
    simp only [if_pos (show ((i : Int) < (a.length : Int)) by omega), if_pos (show (0 ≤ (i : Int)) by omega), if_pos (show ((i : Int) < (b.length : Int)) by omega), rdn a i h1, rdn b i h2]
    rw [List.drop_eq_getElem_cons h1, List.drop_eq_getElem_cons h2]
    by_cases e : a[i] = b[i]
    · simp only [if_pos e]
      have := ih (i + 1) (by omega)
      rw [show wrap64 ((i : Int) + 1) = ((i + 1 : Nat) : Int) from by rw [w64 (by omega) (by omega)]; omega]
      exact evc this (by simp only [List.cons.injEq, e, true_and])
    · simp only [if_neg e]
      exact evc (Ev.now false) (by simp only [List.cons.injEq, e, false_and, decide_false])
theorem evermoreref1_Words_ev (a b : List Int) (hb : a.length ≤ 9223372036854775000) : Ev (fun k => evermoreref1_Words.f k a b) (decide (a = b)) := by
  unfold evermoreref1_Words.f
  by_cases h : a.length = b.length
  · simp only [if_pos (show ((a.length : Int) = (b.length : Int)) by omega)]
    exact evermoreref1_Words_l0 a b h hb a.length 0 (by omega)
  · simp only [if_neg (show ¬ ((a.length : Int) = (b.length : Int)) by omega)]
    have : a ≠ b := fun e => h (by rw [e])
    simpa [this] using Ev.now false
def okB (n : Int) (l : List Int) : Bool := l.all (fun a => decide (0 ≤ a) && decide (a < n))
theorem okB_cons (n a : Int) (l : List Int) : okB n (a :: l) = (decide (0 ≤ a) && decide (a < n) && okB n l) := rfl
def mayS (n : Int) (l : List Int) : Int := if n < 1 ∨ n > 4 then 2 else if l.length > 60 then 1 else if okB n l = true then 0 else 2
theorem mayS_ok {n : Int} {l : List Int} (h : mayS n l = 0) : 1 ≤ n ∧ n ≤ 4 ∧ l.length ≤ 60 ∧ ∀ a ∈ l, 0 ≤ a ∧ a < n := by
  unfold mayS at h
  by_cases h1 : n < 1 ∨ n > 4
  · rw [if_pos h1] at h; omega
  · rw [if_neg h1] at h
    by_cases h2 : l.length > 60
    · rw [if_pos h2] at h; omega
    · rw [if_neg h2] at h
      by_cases h3 : okB n l = true
      · refine ⟨by omega, by omega, by omega, ?_⟩
        simpa [okB] using h3
      · rw [if_neg h3] at h; omega
theorem evermoreref1_May_l0 (n : Int) (l : List Int) (hl : l.length ≤ 60) : ∀ d i : Nat, i + d = l.length → Ev (fun k => evermoreref1_May.l0 k n l (i : Int)) (if okB n (l.drop i) = true then 0 else 2) := by
  intro d
  induction d with
  | zero =>
    intro i hi
    refine Ev.step (fun k => by rw [evermoreref1_May.l0]) ?_
    simp only [if_neg (show ¬ ((i : Int) < (l.length : Int)) by omega)]
    rw [List.drop_of_length_le (by omega)]
    exact Ev.now _
  | succ d ih =>
    intro i hi
    refine Ev.step (fun k => by rw [evermoreref1_May.l0]) ?_
    have h1 : i < l.length := by omega
    simp only [if_pos (show ((i : Int) < (l.length : Int)) by omega), if_pos (show (0 ≤ (i : Int)) by omega), rdn l i h1]
    rw [List.drop_eq_getElem_cons h1]
    have := ih (i + 1) (by omega)
    rw [show wrap64 ((i : Int) + 1) = ((i + 1 : Nat) : Int) from by rw [w64 (by omega) (by omega)]; omega]
    by_cases e : l[i] < 0
    · simp only [if_pos e]
      exact evc (Ev.now 2) (by rw [okB_cons, decide_eq_false (show ¬ (0 ≤ l[i]) by omega)]; rfl)
    · simp only [if_neg e]
      by_cases e' : l[i] ≥ n
      · simp only [if_pos e']
        exact evc (Ev.now 2) (by rw [okB_cons, decide_eq_false (show ¬ (l[i] < n) by omega), Bool.and_false]; rfl)
      · simp only [if_neg e']
        exact evc this (by rw [okB_cons, decide_eq_true (show (0 ≤ l[i]) by omega), decide_eq_true (show (l[i] < n) by omega), Bool.true_and, Bool.true_and])
theorem evermoreref1_May_ev (n : Int) (l : List Int) : Ev (fun k => evermoreref1_May.f k n l) (mayS n l) := by
  have key : ∀ b : Bool, (b = true ↔ (n < 1 ∨ n > 4)) → Ev (fun k => evermoreref1_May.j0 k n l b) (mayS n l) := by
    intro b hb
    refine Ev.step (fun k => by rw [evermoreref1_May.j0]) ?_
    unfold mayS
    by_cases h : b = true
    · simp only [if_pos h, if_pos (hb.1 h)]; exact Ev.now _
    · simp only [if_neg h, if_neg (fun x => h (hb.2 x))]
      by_cases h2 : l.length > 60
      · simp only [if_pos h2, if_pos (show (l.length : Int) > 60 by omega)]; exact Ev.now _
      · simp only [if_neg h2, if_neg (show ¬ (l.length : Int) > 60 by omega)]
        exact evermoreref1_May_l0 n l (by omega) l.length 0 (by omega)
  unfold evermoreref1_May.f
  by_cases h : n < 1
  · simp only [if_pos h]; exact key true (by simp; omega)
  · simp only [if_neg h]; exact key _ (by simp; omega)
theorem word_May_l0 (n : Int) (l : List Int) (hl : l.length ≤ 60) : ∀ d i : Nat, i + d = l.length → Ev (fun k => word_May.l0 k n l (l.length : Int) (i : Int)) (if okB n (l.drop i) = true then 0 else 2) := by
  intro d
  induction d with
  | zero =>
    intro i hi
    refine Ev.step (fun k => by rw [word_May.l0]) ?_
    simp only [if_neg (show ¬ ((i : Int) < (l.length : Int)) by omega)]
    rw [List.drop_of_length_le (by omega)]
    exact Ev.now _
  | succ d ih =>
    intro i hi
    refine Ev.step (fun k => by rw [word_May.l0]) ?_
    have h1 : i < l.length := by omega
    simp only [if_pos (show ((i : Int) < (l.length : Int)) by omega), if_pos (show (0 ≤ (i : Int)) by omega), rdn l i h1]
    rw [List.drop_eq_getElem_cons h1]
    have := ih (i + 1) (by omega)
    rw [show wrap64 ((i : Int) + 1) = ((i + 1 : Nat) : Int) from by rw [w64 (by omega) (by omega)]; omega]
    by_cases e : l[i] < 0
    · simp only [if_pos e]
      exact evc (Ev.now 2) (by rw [okB_cons, decide_eq_false (show ¬ (0 ≤ l[i]) by omega)]; rfl)
    · simp only [if_neg e]
      by_cases e' : l[i] ≥ n
      · simp only [if_pos e']
        exact evc (Ev.now 2) (by rw [okB_cons, decide_eq_false (show ¬ (l[i] < n) by omega), Bool.and_false]; rfl)
      · simp only [if_neg e']
        exact evc this (by rw [okB_cons, decide_eq_true (show (0 ≤ l[i]) by omega), decide_eq_true (show (l[i] < n) by omega), Bool.true_and, Bool.true_and])
theorem word_May_ev (n : Int) (l : List Int) : Ev (fun k => word_May.f k n l) (mayS n l) := by
  have key : ∀ b : Bool, (b = true ↔ (n < 1 ∨ n > 4)) → Ev (fun k => word_May.j0 k n l b) (mayS n l) := by
    intro b hb
    refine Ev.step (fun k => by rw [word_May.j0]) ?_
    unfold mayS
    by_cases h : b = true
    · simp only [if_pos h, if_pos (hb.1 h)]; exact Ev.now _
    · simp only [if_neg h, if_neg (fun x => h (hb.2 x))]
      by_cases h2 : l.length > 60
      · simp only [if_pos h2, if_pos (show (l.length : Int) > 60 by omega)]; exact Ev.now _
      · simp only [if_neg h2, if_neg (show ¬ (l.length : Int) > 60 by omega)]
        exact word_May_l0 n l (by omega) l.length 0 (by omega)
  unfold word_May.f
  by_cases h : n < 1
  · simp only [if_pos h]; exact key true (by simp; omega)
  · simp only [if_neg h]; exact key _ (by simp; omega)
theorem wf64 {n : Int} (h : (Lit.int .i64 n).wf = true) : -9223372036854775808 ≤ n ∧ n ≤ 9223372036854775807 := by
  simp [Lit.wf, IntKind.min, IntKind.max, IntKind.signed, IntKind.bits] at h
  omega
def badB (n : Int) (b : Int) : Bool := decide (b < 0) || decide (b ≥ n)
def lensB (a : Int) (l4 : List (List Int)) (l5 : List (List (List Int))) (i : Nat) : Bool := decide (((l4.getD i []).length : Int) ≠ a) || decide (((l5.getD i []).length : Int) ≠ a)
abbrev said (l3 : List Int) (l5 : List (List (List Int))) (l6 : List (List Int)) : List (List Int) := trans_long.said l3 l5 l6
def longB (x : List Int) : Bool := decide ((x.length : Int) > 8)
def vS (a0 a1 a2 : Int) (l3 : List Int) (l4 : List (List Int)) (l5 : List (List (List Int))) (l6 : List (List Int)) : Int :=
  if a0 < 1 ∨ a0 > 4 ∨ a1 < 1 ∨ a1 > 4 then 2 else if l4.length < 1 ∨ l4.length > 6 then 1 else if l5.length ≠ l4.length ∨ l6.length ≠ l4.length then 3
  else if (List.range l4.length).any (lensB a0 l4 l5) = true then 3
  else if badB l4.length a2 = true then 2 else if l4.any (fun x => x.any (badB l4.length)) = true then 2
  else if (said l3 l5 l6).any longB = true then 1
  else if (said l3 l5 l6).any (fun x => x.any (badB a1)) = true then 2 else 0
theorem rdL2 (l : List (List (List Int))) (n : Nat) : rd_L2 l (n : Int) = l.getD n [] := by unfold rd_L2; rw [Int.toNat_natCast]
theorem len_any {n : Nat} {a0 : Int} {l4 : List (List Int)} {l5 : List (List (List Int))} (h : ¬ (List.range n).any (lensB a0 l4 l5) = true) : ∀ i, i < n → ((l4.getD i []).length : Int) = a0 ∧ ((l5.getD i []).length : Int) = a0 := by
  intro i hi
  have hb : lensB a0 l4 l5 i = false := by
    cases e : lensB a0 l4 l5 i with
    | false => rfl
    | true => exact absurd (List.any_eq_true.2 ⟨i, List.mem_range.2 hi, e⟩) h
  unfold lensB at hb
  rw [Bool.or_eq_false_iff] at hb
  have e1 := of_decide_eq_false hb.1
  have e2 := of_decide_eq_false hb.2
  exact ⟨Classical.not_not.1 e1, Classical.not_not.1 e2⟩
theorem flat_len : ∀ (l : List (List (List Int))) (m : Nat), (∀ x ∈ l, x.length ≤ m) → l.flatten.length ≤ l.length * m
  | [], m, _ => by simp
  | x :: l, m, h => by
    have ih := flat_len l m (fun y hy => h y (List.mem_cons_of_mem _ hy))
    have hx := h x List.mem_cons_self
    rw [List.flatten_cons, List.length_append, List.length_cons, Nat.add_mul]
    omega
theorem said_len {n : Nat} {a0 : Int} {l3 : List Int} {l4 : List (List Int)} {l5 : List (List (List Int))} {l6 : List (List Int)} (ha : a0 ≤ 4) (hn : n ≤ 6) (h5 : l5.length = n) (h6 : l6.length = n) (h : ¬ (List.range n).any (lensB a0 l4 l5) = true) : (said l3 l5 l6).length ≤ 100 := by
  have hf := flat_len l5 4 (by
    intro x hx
    obtain ⟨i, hi, rfl⟩ := List.getElem_of_mem hx
    have := (len_any h i (by omega)).2
    rw [List.getD_eq_getElem?_getD, List.getElem?_eq_getElem hi] at this
    simp only [Option.getD_some] at this
    omega)
  unfold said trans_long.said
  rw [List.length_cons, List.length_append]
  omega
theorem c1_ev (a n : Int) : trans_Check_1.f a n = some (badB n a) := by
  unfold trans_Check_1.f badB
  by_cases h : a < 0
  · rw [if_pos h, decide_eq_true h, Bool.true_or]
  · rw [if_neg h, decide_eq_false h, Bool.false_or]
theorem c3_ev (a : Int) (a0 a1 a2 : Int) (l3 : List Int) (l4 : List (List Int)) (l5 : List (List (List Int))) (l6 : List (List Int)) : trans_Check_3.f a a0 a1 a2 l3 l4 l5 l6 = some (badB a1 a) := by
  unfold trans_Check_3.f badB
  by_cases h : a < 0
  · rw [if_pos h, decide_eq_true h, Bool.true_or]
  · rw [if_neg h, decide_eq_false h, Bool.false_or]
theorem slices_IndexFunc__trans_Check_1_l0_ev (xs : List (Int)) (a2_0 : Int) (p : Int → Bool) (hb : xs.length ≤ 4611686018427387904) (hp : ∀ x ∈ xs, Ev (fun k => trans_Check_1.f x a2_0) (p x)) : ∀ d i : Nat, i + d = xs.length → Ev (fun k => slices_IndexFunc__trans_Check_1.l0 k xs (xs.length : Int) (i : Int) a2_0) (ixf p (xs.drop i) i) := by
  intro d
  induction d with
  | zero =>
    intro i hi
    refine Ev.step (fun k => by rw [slices_IndexFunc__trans_Check_1.l0]) ?_
    simp only [if_neg (show ¬ ((i : Int) < (xs.length : Int)) by omega)]
    rw [List.drop_of_length_le (by omega)]
    exact Ev.now _
  | succ d ih =>
    intro i hi
    refine Ev.step (fun k => by rw [slices_IndexFunc__trans_Check_1.l0]) ?_
    have er : rd xs (i : Int) = xs.getD i 0 := by unfold rd; rw [Int.toNat_natCast]
    simp only [if_pos (show ((i : Int) < (xs.length : Int)) by omega), if_pos (show (0 ≤ (i : Int)) by omega), er]
    refine Ev.bind (hp _ (getD_mem xs i _ (by omega))) ?_
    rw [drop_getD xs i 0 (by omega), ixf]
    by_cases h : p (xs.getD i 0) = true
    · simp only [if_pos h]
      exact Ev.now _
    · simp only [if_neg h]
      rw [w1 i (by omega)]
      exact ih (i + 1) (by omega)
theorem slices_IndexFunc__trans_Check_1_ev (xs : List (Int)) (a2_0 : Int) (p : Int → Bool) (hb : xs.length ≤ 4611686018427387904) (hp : ∀ x ∈ xs, Ev (fun k => trans_Check_1.f x a2_0) (p x)) : Ev (fun k => slices_IndexFunc__trans_Check_1.f k xs a2_0) (ixf p xs 0) := by
  unfold slices_IndexFunc__trans_Check_1.f
  exact slices_IndexFunc__trans_Check_1_l0_ev xs a2_0 p hb hp xs.length 0 (by omega)
theorem slices_ContainsFunc__trans_Check_1_ev (xs : List (Int)) (a2_0 : Int) (p : Int → Bool) (hb : xs.length ≤ 4611686018427387904) (hp : ∀ x ∈ xs, Ev (fun k => trans_Check_1.f x a2_0) (p x)) : Ev (fun k => slices_ContainsFunc__trans_Check_1.f k xs a2_0) (xs.any p) := by
  unfold slices_ContainsFunc__trans_Check_1.f
  refine Ev.bind (slices_IndexFunc__trans_Check_1_ev xs a2_0 p hb hp) ?_
  rw [ixf_any]
  exact Ev.now _
theorem slices_IndexFunc__trans_Check_2_l0_ev (xs : List (List Int)) (a3_0 : Int) (p : (List Int) → Bool) (hb : xs.length ≤ 4611686018427387904) (hp : ∀ x ∈ xs, Ev (fun k => trans_Check_2.f k x a3_0) (p x)) : ∀ d i : Nat, i + d = xs.length → Ev (fun k => slices_IndexFunc__trans_Check_2.l0 k xs (xs.length : Int) (i : Int) a3_0) (ixf p (xs.drop i) i) := by
  intro d
  induction d with
  | zero =>
    intro i hi
    refine Ev.step (fun k => by rw [slices_IndexFunc__trans_Check_2.l0]) ?_
    simp only [if_neg (show ¬ ((i : Int) < (xs.length : Int)) by omega)]
    rw [List.drop_of_length_le (by omega)]
    exact Ev.now _
  | succ d ih =>
    intro i hi
    refine Ev.step (fun k => by rw [slices_IndexFunc__trans_Check_2.l0]) ?_
    have er : rd_L1 xs (i : Int) = xs.getD i [] := by unfold rd_L1; rw [Int.toNat_natCast]
    simp only [if_pos (show ((i : Int) < (xs.length : Int)) by omega), if_pos (show (0 ≤ (i : Int)) by omega), er]
    refine Ev.bind (hp _ (getD_mem xs i _ (by omega))) ?_
    rw [drop_getD xs i [] (by omega), ixf]
    by_cases h : p (xs.getD i []) = true
    · simp only [if_pos h]
      exact Ev.now _
    · simp only [if_neg h]
      rw [w1 i (by omega)]
      exact ih (i + 1) (by omega)
theorem slices_IndexFunc__trans_Check_2_ev (xs : List (List Int)) (a3_0 : Int) (p : (List Int) → Bool) (hb : xs.length ≤ 4611686018427387904) (hp : ∀ x ∈ xs, Ev (fun k => trans_Check_2.f k x a3_0) (p x)) : Ev (fun k => slices_IndexFunc__trans_Check_2.f k xs a3_0) (ixf p xs 0) := by
  unfold slices_IndexFunc__trans_Check_2.f
  exact slices_IndexFunc__trans_Check_2_l0_ev xs a3_0 p hb hp xs.length 0 (by omega)
theorem slices_ContainsFunc__trans_Check_2_ev (xs : List (List Int)) (a3_0 : Int) (p : (List Int) → Bool) (hb : xs.length ≤ 4611686018427387904) (hp : ∀ x ∈ xs, Ev (fun k => trans_Check_2.f k x a3_0) (p x)) : Ev (fun k => slices_ContainsFunc__trans_Check_2.f k xs a3_0) (xs.any p) := by
  unfold slices_ContainsFunc__trans_Check_2.f
  refine Ev.bind (slices_IndexFunc__trans_Check_2_ev xs a3_0 p hb hp) ?_
  rw [ixf_any]
  exact Ev.now _
theorem slices_IndexFunc__trans_Check_3_l0_ev (xs : List (Int)) (a2_0 : Int) (a2_1 : Int) (a2_2 : Int) (l2_3 : List Int) (l2_4 : List (List Int)) (l2_5 : List (List (List Int))) (l2_6 : List (List Int)) (p : Int → Bool) (hb : xs.length ≤ 4611686018427387904) (hp : ∀ x ∈ xs, Ev (fun k => trans_Check_3.f x a2_0 a2_1 a2_2 l2_3 l2_4 l2_5 l2_6) (p x)) : ∀ d i : Nat, i + d = xs.length → Ev (fun k => slices_IndexFunc__trans_Check_3.l0 k xs (xs.length : Int) (i : Int) a2_0 a2_1 a2_2 l2_3 l2_4 l2_5 l2_6) (ixf p (xs.drop i) i) := by
  intro d
  induction d with
  | zero =>
    intro i hi
    refine Ev.step (fun k => by rw [slices_IndexFunc__trans_Check_3.l0]) ?_
    simp only [if_neg (show ¬ ((i : Int) < (xs.length : Int)) by omega)]
    rw [List.drop_of_length_le (by omega)]
    exact Ev.now _
  | succ d ih =>
    intro i hi
    refine Ev.step (fun k => by rw [slices_IndexFunc__trans_Check_3.l0]) ?_
    have er : rd xs (i : Int) = xs.getD i 0 := by unfold rd; rw [Int.toNat_natCast]
    simp only [if_pos (show ((i : Int) < (xs.length : Int)) by omega), if_pos (show (0 ≤ (i : Int)) by omega), er]
    refine Ev.bind (hp _ (getD_mem xs i _ (by omega))) ?_
    rw [drop_getD xs i 0 (by omega), ixf]
    by_cases h : p (xs.getD i 0) = true
    · simp only [if_pos h]
      exact Ev.now _
    · simp only [if_neg h]
      rw [w1 i (by omega)]
      exact ih (i + 1) (by omega)
theorem slices_IndexFunc__trans_Check_3_ev (xs : List (Int)) (a2_0 : Int) (a2_1 : Int) (a2_2 : Int) (l2_3 : List Int) (l2_4 : List (List Int)) (l2_5 : List (List (List Int))) (l2_6 : List (List Int)) (p : Int → Bool) (hb : xs.length ≤ 4611686018427387904) (hp : ∀ x ∈ xs, Ev (fun k => trans_Check_3.f x a2_0 a2_1 a2_2 l2_3 l2_4 l2_5 l2_6) (p x)) : Ev (fun k => slices_IndexFunc__trans_Check_3.f k xs a2_0 a2_1 a2_2 l2_3 l2_4 l2_5 l2_6) (ixf p xs 0) := by
  unfold slices_IndexFunc__trans_Check_3.f
  exact slices_IndexFunc__trans_Check_3_l0_ev xs a2_0 a2_1 a2_2 l2_3 l2_4 l2_5 l2_6 p hb hp xs.length 0 (by omega)
theorem slices_ContainsFunc__trans_Check_3_ev (xs : List (Int)) (a2_0 : Int) (a2_1 : Int) (a2_2 : Int) (l2_3 : List Int) (l2_4 : List (List Int)) (l2_5 : List (List (List Int))) (l2_6 : List (List Int)) (p : Int → Bool) (hb : xs.length ≤ 4611686018427387904) (hp : ∀ x ∈ xs, Ev (fun k => trans_Check_3.f x a2_0 a2_1 a2_2 l2_3 l2_4 l2_5 l2_6) (p x)) : Ev (fun k => slices_ContainsFunc__trans_Check_3.f k xs a2_0 a2_1 a2_2 l2_3 l2_4 l2_5 l2_6) (xs.any p) := by
  unfold slices_ContainsFunc__trans_Check_3.f
  refine Ev.bind (slices_IndexFunc__trans_Check_3_ev xs a2_0 a2_1 a2_2 l2_3 l2_4 l2_5 l2_6 p hb hp) ?_
  rw [ixf_any]
  exact Ev.now _
theorem c2_ev (x : List Int) (hb : x.length ≤ 4611686018427387904) (n : Int) : Ev (fun k => trans_Check_2.f k x n) (x.any (badB n)) := by
  unfold trans_Check_2.f
  exact Ev.bind (slices_ContainsFunc__trans_Check_1_ev x n (badB n) hb (fun y _ => evs (c1_ev y n))) (Ev.now _)
theorem pchk_l2 (a0 a1 a2 : Int) (l3 : List Int) (l4 : List (List Int)) (l5 : List (List (List Int))) (l6 : List (List Int)) (xs : List (List Int)) (hx : xs.length ≤ 100) (hl : ∀ x ∈ xs, x.length ≤ 4611686018427387904) :
    Ev (fun k => trans_Check.l2 k xs (xs.length : Int) 0 a0 a1 a2 l3 l4 l5 l6) (if xs.any (fun x => x.any (badB a1)) = true then 2 else 0) := by
  refine anyL_ev0 [] xs _ 2 0 (fun k i => trans_Check.l2 k xs (xs.length : Int) i a0 a1 a2 l3 l4 l5 l6) ?_ ?_ ?_
  · intro i hi h
    refine Ev.step (fun k => by rw [trans_Check.l2]) ?_
    simp only [rdL, if_pos (show ((i : Int) < (xs.length : Int)) by omega), if_pos (show (0 ≤ (i : Int)) by omega)]
    refine Ev.bind (slices_ContainsFunc__trans_Check_3_ev (xs.getD i []) a0 a1 a2 l3 l4 l5 l6 (badB a1) (hl _ (getD_mem _ _ _ hi)) (fun y _ => evs (c3_ev y _ _ _ _ _ _ _))) ?_
    simp only [h, if_true]
    exact Ev.now _
  · intro i hi h r hr
    refine Ev.step (fun k => by rw [trans_Check.l2]) ?_
    simp only [rdL, if_pos (show ((i : Int) < (xs.length : Int)) by omega), if_pos (show (0 ≤ (i : Int)) by omega)]
    refine Ev.bind (slices_ContainsFunc__trans_Check_3_ev (xs.getD i []) a0 a1 a2 l3 l4 l5 l6 (badB a1) (hl _ (getD_mem _ _ _ hi)) (fun y _ => evs (c3_ev y _ _ _ _ _ _ _))) ?_
    simp only [h, if_neg (show ¬ (false = true) by decide), w1 i (by omega)]
    exact hr
  · intro _
    refine Ev.step (fun k => by rw [trans_Check.l2]) ?_
    simp only [if_neg (show ¬ ((xs.length : Int) < (xs.length : Int)) by omega)]
    exact Ev.now _
theorem pchk_j4 {n : Nat} (a0 a1 a2 : Int) (l3 : List Int) (l4 : List (List Int)) (l5 : List (List (List Int))) (l6 : List (List Int)) (ha : a0 ≤ 4) (hn : n ≤ 6) (h5 : l5.length = n) (h6 : l6.length = n) (h : ¬ (List.range n).any (lensB a0 l4 l5) = true) (hl : ∀ x ∈ said l3 l5 l6, x.length ≤ 4611686018427387904) (b : Bool) :
    Ev (fun k => trans_Check.j4 k b a0 a1 a2 l3 l4 l5 l6) (if b = true then 2 else if (said l3 l5 l6).any longB = true then 1 else if (said l3 l5 l6).any (fun x => x.any (badB a1)) = true then 2 else 0) := by
  have hs : (trans_long.said l3 l5 l6).length ≤ 100 := said_len (l3 := l3) ha hn h5 h6 h
  refine Ev.step (fun k => by rw [trans_Check.j4]) ?_
  cases b with
  | true => simp only [if_true]; exact Ev.now _
  | false =>
    simp only [if_neg (show ¬ (false = true) by decide)]
    have e : trans_long.f a0 a1 a2 l3 l4 l5 l6 = some ((said l3 l5 l6).any longB) := by
      unfold trans_long.f
      rw [if_pos ⟨by omega, by omega⟩]
      rfl
    refine Ev.bind (evs e) ?_
    cases q : (said l3 l5 l6).any longB with
    | true => simp only [if_true]; exact Ev.now _
    | false =>
      simp only [if_neg (show ¬ (false = true) by decide)]
      obtain ⟨k, hk⟩ := trans_long.said_ev a0 a1 a2 l3 l4 l5 l6 (by omega) (show (trans_long.said l3 l5 l6).length < 1000000 by omega)
      refine Ev.bind (Ev.of (fun k => trans_said.mono a0 a1 a2 l3 l4 l5 l6 k) hk) ?_
      exact pchk_l2 a0 a1 a2 l3 l4 l5 l6 (said l3 l5 l6) hs hl
theorem pchk_l1 (a0 a1 a2 : Int) (l3 : List Int) (l4 : List (List Int)) (l5 : List (List (List Int))) (l6 : List (List Int)) (ha : a0 ≤ 4) (hn : l4.length ≤ 6) (h5 : l5.length = l4.length) (h6 : l6.length = l4.length) (hl : ∀ x ∈ said l3 l5 l6, x.length ≤ 4611686018427387904) (hl4 : ∀ x ∈ l4, x.length ≤ 4611686018427387904) :
    Ev (fun k => trans_Check.l1 k (l4.length : Int) 0 a0 a1 a2 l3 l4 l5 l6 (l4.length : Int)) (if (List.range l4.length).any (lensB a0 l4 l5) = true then 3
  else if badB l4.length a2 = true then 2 else if l4.any (fun x => x.any (badB l4.length)) = true then 2
  else if (said l3 l5 l6).any longB = true then 1
  else if (said l3 l5 l6).any (fun x => x.any (badB a1)) = true then 2 else 0) := by
  refine anyN_ev l4.length (lensB a0 l4 l5) 3 _ (fun k i => trans_Check.l1 k (l4.length : Int) i a0 a1 a2 l3 l4 l5 l6 (l4.length : Int)) ?_ ?_ ?_
  · intro i hi h
    refine Ev.step (fun k => by rw [trans_Check.l1]) ?_
    simp only [rdL, rdL2, if_pos (show ((i : Int) < (l4.length : Int)) by omega), if_pos (show ((i : Int) < (l5.length : Int)) by omega), if_pos (show (0 ≤ (i : Int)) by omega)]
    unfold lensB at h
    rw [Bool.or_eq_true, decide_eq_true_iff, decide_eq_true_iff] at h
    by_cases e1 : ((l4.getD i []).length : Int) = a0
    · simp only [if_pos e1, if_neg (show ¬ ((l5.getD i []).length : Int) = a0 from fun x => h.elim (fun y => y e1) (fun y => y x))]
      exact Ev.now _
    · simp only [if_neg e1]
      exact Ev.now _
  · intro i hi h r hr
    refine Ev.step (fun k => by rw [trans_Check.l1]) ?_
    unfold lensB at h
    rw [Bool.or_eq_false_iff] at h
    have e1 := Classical.not_not.1 (of_decide_eq_false h.1)
    have e2 := Classical.not_not.1 (of_decide_eq_false h.2)
    simp only [rdL, rdL2, if_pos (show ((i : Int) < (l4.length : Int)) by omega), if_pos (show ((i : Int) < (l5.length : Int)) by omega), if_pos (show (0 ≤ (i : Int)) by omega), if_pos e1, if_pos e2, w1 i (by omega)]
    exact hr
  intro hL0
  have hL : ¬ (List.range l4.length).any (lensB a0 l4 l5) = true := by rw [hL0]; decide
  refine Ev.step (fun k => by rw [trans_Check.l1]) ?_
  simp only [if_neg (show ¬ ((l4.length : Int) < (l4.length : Int)) by omega)]
  refine Ev.bind (evs (c1_ev a2 _)) ?_
  cases q : badB l4.length a2 with
  | true =>
    simp only [if_true]
    exact pchk_j4 a0 a1 a2 l3 l4 l5 l6 ha hn h5 h6 hL hl true
  | false =>
    simp only [if_neg (show ¬ (false = true) by decide)]
    refine Ev.bind (slices_ContainsFunc__trans_Check_2_ev l4 (l4.length : Int) (fun x => x.any (badB l4.length)) (by omega) (fun x hx => c2_ev x (hl4 x hx) _)) ?_
    exact pchk_j4 a0 a1 a2 l3 l4 l5 l6 ha hn h5 h6 hL hl _
theorem pchk_j1 (a0 a1 a2 : Int) (l3 : List Int) (l4 : List (List Int)) (l5 : List (List (List Int))) (l6 : List (List Int)) (ha : a0 ≤ 4) (hl : ∀ x ∈ said l3 l5 l6, x.length ≤ 4611686018427387904) (hl4 : ∀ x ∈ l4, x.length ≤ 4611686018427387904) (b : Bool) (hb : b = true ↔ l4.length < 1 ∨ l4.length > 6) :
    Ev (fun k => trans_Check.j1 k b a0 a1 a2 l3 l4 l5 l6 (l4.length : Int)) (if l4.length < 1 ∨ l4.length > 6 then 1 else if l5.length ≠ l4.length ∨ l6.length ≠ l4.length then 3
  else if (List.range l4.length).any (lensB a0 l4 l5) = true then 3
  else if badB l4.length a2 = true then 2 else if l4.any (fun x => x.any (badB l4.length)) = true then 2
  else if (said l3 l5 l6).any longB = true then 1
  else if (said l3 l5 l6).any (fun x => x.any (badB a1)) = true then 2 else 0) := by
  refine Ev.step (fun k => by rw [trans_Check.j1]) ?_
  by_cases h : l4.length < 1 ∨ l4.length > 6
  · simp only [if_pos h, if_pos (hb.2 h)]; exact Ev.now _
  · have hbn : ¬ b = true := fun x => h (hb.1 x)
    simp only [if_neg h, if_neg hbn]
    by_cases h5 : l5.length = l4.length
    · simp only [if_pos (show (l5.length : Int) = (l4.length : Int) by omega)]
      refine Ev.step (fun k => by rw [trans_Check.j2]) ?_
      by_cases h6 : l6.length = l4.length
      · simp only [if_neg (show ¬ (((l6.length : Int) != (l4.length : Int)) = true) by rw [bne_iff_ne]; omega), if_neg (show ¬ (l5.length ≠ l4.length ∨ l6.length ≠ l4.length) by omega)]
        exact pchk_l1 a0 a1 a2 l3 l4 l5 l6 ha (by omega) h5 h6 hl hl4
      · simp only [if_pos (show (((l6.length : Int) != (l4.length : Int)) = true) by rw [bne_iff_ne]; omega), if_pos (show (l5.length ≠ l4.length ∨ l6.length ≠ l4.length) by omega)]
        exact Ev.now _
    · simp only [if_neg (show ¬ (l5.length : Int) = (l4.length : Int) by omega), if_pos (show (l5.length ≠ l4.length ∨ l6.length ≠ l4.length) by omega)]
      refine Ev.step (fun k => by rw [trans_Check.j2]) ?_
      simp only [if_true]
      exact Ev.now _
theorem pchk_ev (a0 a1 a2 : Int) (l3 : List Int) (l4 : List (List Int)) (l5 : List (List (List Int))) (l6 : List (List Int)) (hl : ∀ x ∈ said l3 l5 l6, x.length ≤ 4611686018427387904) (hl4 : ∀ x ∈ l4, x.length ≤ 4611686018427387904) :
    Ev (fun k => trans_Check.f k a0 a1 a2 l3 l4 l5 l6) (vS a0 a1 a2 l3 l4 l5 l6) := by
  unfold trans_Check.f vS
  simp only [Option.bind_some]
  have s2 : ((([a0, a1] : List Int).length : Nat) : Int) = 2 := rfl
  have r0 : rd [a0, a1] 0 = a0 := rfl
  have r1 : rd [a0, a1] 1 = a1 := rfl
  refine Ev.step (fun k => by rw [trans_Check.l0]) ?_
  simp only [s2, r0, if_pos (show (0 : Int) < 2 by decide), if_pos (show (0 : Int) ≤ 0 by decide)]
  by_cases h1 : a0 < 1
  · simp only [if_pos h1, if_pos (show a0 < 1 ∨ a0 > 4 ∨ a1 < 1 ∨ a1 > 4 by omega)]; exact Ev.now _
  simp only [if_neg h1]
  by_cases h2 : a0 > 4
  · simp only [if_pos h2, if_pos (show a0 < 1 ∨ a0 > 4 ∨ a1 < 1 ∨ a1 > 4 by omega)]; exact Ev.now _
  simp only [if_neg h2, show wrap64 (0 + 1) = 1 from w64 (n := 0 + 1) (by decide) (by decide)]
  refine Ev.step (fun k => by rw [trans_Check.l0]) ?_
  simp only [s2, r1, if_pos (show (1 : Int) < 2 by decide), if_pos (show (0 : Int) ≤ 1 by decide)]
  by_cases h3 : a1 < 1
  · simp only [if_pos h3, if_pos (show a0 < 1 ∨ a0 > 4 ∨ a1 < 1 ∨ a1 > 4 by omega)]; exact Ev.now _
  simp only [if_neg h3]
  by_cases h4 : a1 > 4
  · simp only [if_pos h4, if_pos (show a0 < 1 ∨ a0 > 4 ∨ a1 < 1 ∨ a1 > 4 by omega)]; exact Ev.now _
  simp only [if_neg h4, show wrap64 (1 + 1) = 2 from w64 (n := 1 + 1) (by decide) (by decide)]
  refine Ev.step (fun k => by rw [trans_Check.l0]) ?_
  simp only [s2, if_neg (show ¬ (2 : Int) < 2 by decide), if_neg (show ¬ (a0 < 1 ∨ a0 > 4 ∨ a1 < 1 ∨ a1 > 4) by omega)]
  by_cases h5 : l4.length < 1
  · simp only [if_pos (show (l4.length : Int) < 1 by omega)]
    exact pchk_j1 a0 a1 a2 l3 l4 l5 l6 (by omega) hl hl4 true ⟨fun _ => .inl h5, fun _ => rfl⟩
  · simp only [if_neg (show ¬ (l4.length : Int) < 1 by omega)]
    exact pchk_j1 a0 a1 a2 l3 l4 l5 l6 (by omega) hl hl4 _ (by rw [decide_eq_true_iff]; omega)
theorem rwords_l0 (a0 a1 a2 : Int) (l3 : List Int) (l4 : List (List Int)) (l5 : List (List (List Int))) (l6 : List (List Int)) (hl : l5.length ≤ 1000) : ∀ (d i : Nat) (acc : List (List Int)), i + d = l5.length → (acc ++ (l5.drop i).flatten).length < 1000000 → Ev (fun k => evermoreref16_Words.l0 k acc (i : Int) a0 a1 a2 l3 l4 l5 l6) (acc ++ (l5.drop i).flatten) := by
  intro d
  induction d with
  | zero =>
    intro i acc hi _
    refine Ev.step (fun k => by rw [evermoreref16_Words.l0]) ?_
    simp only [if_neg (show ¬ ((i : Int) < (l5.length : Int)) by omega)]
    rw [List.drop_of_length_le (by omega), List.flatten_nil, List.append_nil]
    exact Ev.now _
  | succ d ih =>
    intro i acc hi hs
    rw [drop_getD l5 i [] (by omega), List.flatten_cons, ← List.append_assoc] at hs ⊢
    have hb : acc.length + (l5.getD i []).length < 5864062014805 := by
      rw [List.length_append, List.length_append] at hs; omega
    refine Ev.step (fun k => by rw [evermoreref16_Words.l0]) ?_
    simp only [rdL2, if_pos (show ((i : Int) < (l5.length : Int)) by omega), if_pos (show (0 ≤ (i : Int)) by omega), if_pos hb, w1 i (by omega)]
    exact ih (i + 1) (acc ++ l5.getD i []) (by omega) hs
theorem rwords_ev (a0 a1 a2 : Int) (l3 : List Int) (l4 : List (List Int)) (l5 : List (List (List Int))) (l6 : List (List Int)) (hl : l5.length ≤ 1000) (hs : (said l3 l5 l6).length ≤ 100) : Ev (fun k => evermoreref16_Words.f k a0 a1 a2 l3 l4 l5 l6) (said l3 l5 l6) := by
  unfold evermoreref16_Words.f
  simp only [List.nil_append, List.length_nil, if_pos (show (0 : Nat) < 5864062014805 by decide), Option.bind_some]
  unfold said trans_long.said at hs ⊢
  have h6 : [l3].length + l6.length < 5864062014805 := by
    rw [List.length_cons, List.length_append] at hs
    simp only [List.length_cons, List.length_nil]; omega
  simp only [if_pos h6]
  have := rwords_l0 a0 a1 a2 l3 l4 l5 l6 hl l5.length 0 ([l3] ++ l6) (by omega) (by rw [List.drop_zero]; simp only [List.singleton_append, List.cons_append, List.nil_append]; omega)
  rw [List.drop_zero] at this
  exact this
theorem rlong_ev (a0 a1 a2 : Int) (l3 : List Int) (l4 : List (List Int)) (l5 : List (List (List Int))) (l6 : List (List Int)) (hl : l5.length ≤ 1000) (hs : (said l3 l5 l6).length ≤ 100) : Ev (fun k => evermoreref16_Long.f k a0 a1 a2 l3 l4 l5 l6) ((said l3 l5 l6).any longB) := by
  unfold evermoreref16_Long.f
  refine Ev.bind (rwords_ev a0 a1 a2 l3 l4 l5 l6 hl hs) ?_
  generalize said l3 l5 l6 = xs at hs
  refine evc (anyL_ev0 [] xs longB true false (fun k i => evermoreref16_Long.l0 k xs i) ?_ ?_ ?_) (by cases xs.any longB <;> rfl)
  · intro i hi h
    refine Ev.step (fun k => by rw [evermoreref16_Long.l0]) ?_
    simp only [rdL, if_pos (show ((i : Int) < (xs.length : Int)) by omega), if_pos (show (0 ≤ (i : Int)) by omega), if_pos (of_decide_eq_true h)]
    exact Ev.now _
  · intro i hi h r hr
    refine Ev.step (fun k => by rw [evermoreref16_Long.l0]) ?_
    simp only [rdL, if_pos (show ((i : Int) < (xs.length : Int)) by omega), if_pos (show (0 ≤ (i : Int)) by omega), if_neg (of_decide_eq_false h), w1 i (by omega)]
    exact hr
  · intro _
    refine Ev.step (fun k => by rw [evermoreref16_Long.l0]) ?_
    simp only [if_neg (show ¬ ((xs.length : Int) < (xs.length : Int)) by omega)]
    exact Ev.now _
theorem badB_t {n b : Int} (h : badB n b = true) : b < 0 ∨ (¬ b < 0 ∧ b ≥ n) := by
  unfold badB at h
  rw [Bool.or_eq_true, decide_eq_true_iff, decide_eq_true_iff] at h
  omega
theorem badB_f {n b : Int} (h : badB n b = false) : ¬ b < 0 ∧ ¬ b ≥ n := by
  unfold badB at h
  rw [Bool.or_eq_false_iff] at h
  exact ⟨of_decide_eq_false h.1, of_decide_eq_false h.2⟩
theorem rletters_ev (xs : List Int) (hx : xs.length ≤ 4611686018427387904) (a1 : Int) : Ev (fun k => evermoreref16_letters.f k xs a1) (if xs.any (badB a1) = true then 2 else 0) := by
  unfold evermoreref16_letters.f
  refine anyL_ev0 0 xs (badB a1) 2 0 (fun k i => evermoreref16_letters.l0 k xs a1 i) ?_ ?_ ?_
  · intro i hi h
    refine Ev.step (fun k => by rw [evermoreref16_letters.l0]) ?_
    simp only [rdN, if_pos (show ((i : Int) < (xs.length : Int)) by omega), if_pos (show (0 ≤ (i : Int)) by omega)]
    rcases badB_t h with h | ⟨h, h'⟩
    · simp only [if_pos h]; exact Ev.now _
    · simp only [if_neg h, if_pos h']; exact Ev.now _
  · intro i hi h r hr
    refine Ev.step (fun k => by rw [evermoreref16_letters.l0]) ?_
    simp only [rdN, if_pos (show ((i : Int) < (xs.length : Int)) by omega), if_pos (show (0 ≤ (i : Int)) by omega), if_neg (badB_f h).1, if_neg (badB_f h).2, w1 i (by omega)]
    exact hr
  · intro _
    refine Ev.step (fun k => by rw [evermoreref16_letters.l0]) ?_
    simp only [if_neg (show ¬ ((xs.length : Int) < (xs.length : Int)) by omega)]
    exact Ev.now _
theorem rchk_l3 (n : Int) (a0 a1 a2 : Int) (l3 : List Int) (l4 : List (List Int)) (l5 : List (List (List Int))) (l6 : List (List Int)) (xs : List (List Int)) (hx : xs.length ≤ 100) (hl : ∀ x ∈ xs, x.length ≤ 4611686018427387904) :
    Ev (fun k => evermoreref16_Check.l3 k xs 0 a0 a1 a2 l3 l4 l5 l6) (if xs.any (fun x => x.any (badB a1)) = true then 2 else 0) := by
  refine anyL_ev0 [] xs _ 2 0 (fun k i => evermoreref16_Check.l3 k xs i a0 a1 a2 l3 l4 l5 l6) ?_ ?_ ?_
  · intro i hi h
    refine Ev.step (fun k => by rw [evermoreref16_Check.l3]) ?_
    simp only [rdL, if_pos (show ((i : Int) < (xs.length : Int)) by omega), if_pos (show (0 ≤ (i : Int)) by omega)]
    refine Ev.bind (rletters_ev (xs.getD i []) (hl _ (getD_mem _ _ _ hi)) a1) ?_
    simp only [h, if_true, if_neg (show ¬ (2 : Int) = 0 by decide)]
    exact Ev.now _
  · intro i hi h r hr
    refine Ev.step (fun k => by rw [evermoreref16_Check.l3]) ?_
    simp only [rdL, if_pos (show ((i : Int) < (xs.length : Int)) by omega), if_pos (show (0 ≤ (i : Int)) by omega)]
    refine Ev.bind (rletters_ev (xs.getD i []) (hl _ (getD_mem _ _ _ hi)) a1) ?_
    simp only [h, if_neg (show ¬ (false = true) by decide), if_true, w1 i (by omega)]
    exact hr
  · intro _
    refine Ev.step (fun k => by rw [evermoreref16_Check.l3]) ?_
    simp only [if_neg (show ¬ ((xs.length : Int) < (xs.length : Int)) by omega)]
    exact Ev.now _
theorem rchk_l1 (a0 a1 a2 : Int) (l3 : List Int) (l4 : List (List Int)) (l5 : List (List (List Int))) (l6 : List (List Int)) (ha : a0 ≤ 4) (hn : l4.length ≤ 6) (h5 : l5.length = l4.length) (h6 : l6.length = l4.length) (hL : ¬ (List.range l4.length).any (lensB a0 l4 l5) = true) (hl : ∀ x ∈ said l3 l5 l6, x.length ≤ 4611686018427387904) :
    Ev (fun k => evermoreref16_Check.l1 k (l4.length : Int) 0 a0 a1 a2 l3 l4 l5 l6) (if l4.any (fun x => x.any (badB l4.length)) = true then 2 else if (said l3 l5 l6).any longB = true then 1 else if (said l3 l5 l6).any (fun x => x.any (badB a1)) = true then 2 else 0) := by
  have hs := said_len (l3 := l3) ha hn h5 h6 hL
  have row : ∀ i, i < l4.length → ∀ r : Int, ((l4.getD i []).any (badB l4.length) = false → Ev (fun k => evermoreref16_Check.l1 k (l4.length : Int) ((i + 1 : Nat) : Int) a0 a1 a2 l3 l4 l5 l6) r) → Ev (fun k => evermoreref16_Check.l1 k (l4.length : Int) (i : Int) a0 a1 a2 l3 l4 l5 l6) (if (l4.getD i []).any (badB l4.length) = true then 2 else r) := by
    intro i hi r hr
    refine Ev.step (fun k => by rw [evermoreref16_Check.l1]) ?_
    simp only [if_pos (show ((i : Int) < (l4.length : Int)) by omega)]
    have hlen := (len_any hL i hi).1
    refine anyL_ev0 0 (l4.getD i []) (badB l4.length) 2 r (fun k j => evermoreref16_Check.l2 k (l4.length : Int) (i : Int) j a0 a1 a2 l3 l4 l5 l6) ?_ ?_ ?_
    · intro j hj h
      refine Ev.step (fun k => by rw [evermoreref16_Check.l2]) ?_
      simp only [rdL, rdN, if_pos (show ((j : Int) < a0) by omega), if_pos (show ((i : Int) < (l4.length : Int)) by omega), if_pos (show (0 ≤ (i : Int)) by omega), if_pos (show ((j : Int) < ((l4.getD i []).length : Int)) by omega), if_pos (show (0 ≤ (j : Int)) by omega)]
      rcases badB_t h with h | ⟨h, h'⟩
      · simp only [if_pos h]; exact Ev.now _
      · simp only [if_neg h, if_pos h']; exact Ev.now _
    · intro j hj h r hr
      refine Ev.step (fun k => by rw [evermoreref16_Check.l2]) ?_
      simp only [rdL, rdN, if_pos (show ((j : Int) < a0) by omega), if_pos (show ((i : Int) < (l4.length : Int)) by omega), if_pos (show (0 ≤ (i : Int)) by omega), if_pos (show ((j : Int) < ((l4.getD i []).length : Int)) by omega), if_pos (show (0 ≤ (j : Int)) by omega), if_neg (badB_f h).1, if_neg (badB_f h).2, w1 j (by omega)]
      exact hr
    · intro h
      refine Ev.step (fun k => by rw [evermoreref16_Check.l2]) ?_
      simp only [if_neg (show ¬ (((l4.getD i []).length : Int) < a0) by omega), w1 i (by omega)]
      exact hr h
  refine anyL_ev0 [] l4 (fun x => x.any (badB l4.length)) 2 _ (fun k i => evermoreref16_Check.l1 k (l4.length : Int) i a0 a1 a2 l3 l4 l5 l6) ?_ ?_ ?_
  · intro i hi h
    exact evc (row i hi 2 (fun e => by rw [e] at h; cases h)) (by rw [h]; rfl)
  · intro i hi h r hr
    exact evc (row i hi r (fun _ => hr)) (by rw [h]; rfl)
  · intro _
    refine Ev.step (fun k => by rw [evermoreref16_Check.l1]) ?_
    simp only [if_neg (show ¬ ((l4.length : Int) < (l4.length : Int)) by omega)]
    refine Ev.bind (rlong_ev a0 a1 a2 l3 l4 l5 l6 (by omega) hs) ?_
    cases q : (said l3 l5 l6).any longB with
    | true => simp only [if_true]; exact Ev.now _
    | false =>
      simp only [if_neg (show ¬ (false = true) by decide)]
      refine Ev.bind (rwords_ev a0 a1 a2 l3 l4 l5 l6 (by omega) hs) ?_
      exact rchk_l3 0 a0 a1 a2 l3 l4 l5 l6 _ hs hl
theorem rchk_l0 (a0 a1 a2 : Int) (l3 : List Int) (l4 : List (List Int)) (l5 : List (List (List Int))) (l6 : List (List Int)) (ha : a0 ≤ 4) (hn : l4.length ≤ 6) (h5 : l5.length = l4.length) (h6 : l6.length = l4.length) (hl : ∀ x ∈ said l3 l5 l6, x.length ≤ 4611686018427387904) :
    Ev (fun k => evermoreref16_Check.l0 k (l4.length : Int) 0 a0 a1 a2 l3 l4 l5 l6) (if (List.range l4.length).any (lensB a0 l4 l5) = true then 3
  else if badB l4.length a2 = true then 2 else if l4.any (fun x => x.any (badB l4.length)) = true then 2
  else if (said l3 l5 l6).any longB = true then 1
  else if (said l3 l5 l6).any (fun x => x.any (badB a1)) = true then 2 else 0) := by
  refine anyN_ev l4.length (lensB a0 l4 l5) 3 _ (fun k i => evermoreref16_Check.l0 k (l4.length : Int) i a0 a1 a2 l3 l4 l5 l6) ?_ ?_ ?_
  · intro i hi h
    refine Ev.step (fun k => by rw [evermoreref16_Check.l0]) ?_
    simp only [rdL, rdL2, if_pos (show ((i : Int) < (l4.length : Int)) by omega), if_pos (show ((i : Int) < (l5.length : Int)) by omega), if_pos (show (0 ≤ (i : Int)) by omega)]
    unfold lensB at h
    rw [Bool.or_eq_true, decide_eq_true_iff, decide_eq_true_iff] at h
    by_cases e1 : ((l4.getD i []).length : Int) = a0
    · simp only [if_pos e1, if_neg (show ¬ ((l5.getD i []).length : Int) = a0 from fun x => h.elim (fun y => y e1) (fun y => y x))]
      exact Ev.now _
    · simp only [if_neg e1]
      exact Ev.now _
  · intro i hi h r hr
    refine Ev.step (fun k => by rw [evermoreref16_Check.l0]) ?_
    unfold lensB at h
    rw [Bool.or_eq_false_iff] at h
    have e1 := Classical.not_not.1 (of_decide_eq_false h.1)
    have e2 := Classical.not_not.1 (of_decide_eq_false h.2)
    simp only [rdL, rdL2, if_pos (show ((i : Int) < (l4.length : Int)) by omega), if_pos (show ((i : Int) < (l5.length : Int)) by omega), if_pos (show (0 ≤ (i : Int)) by omega), if_pos e1, if_pos e2, w1 i (by omega)]
    exact hr
  intro hL0
  have hL : ¬ (List.range l4.length).any (lensB a0 l4 l5) = true := by rw [hL0]; decide
  refine Ev.step (fun k => by rw [evermoreref16_Check.l0]) ?_
  simp only [if_neg (show ¬ ((l4.length : Int) < (l4.length : Int)) by omega)]
  have j4 : ∀ b : Bool, (b = badB l4.length a2) → Ev (fun k => evermoreref16_Check.j4 k (l4.length : Int) b a0 a1 a2 l3 l4 l5 l6) (if badB l4.length a2 = true then 2 else if l4.any (fun x => x.any (badB l4.length)) = true then 2 else if (said l3 l5 l6).any longB = true then 1 else if (said l3 l5 l6).any (fun x => x.any (badB a1)) = true then 2 else 0) := by
    intro b hb
    refine Ev.step (fun k => by rw [evermoreref16_Check.j4]) ?_
    rw [← hb]
    cases b with
    | true => simp only [if_true]; exact Ev.now _
    | false =>
      simp only [if_neg (show ¬ (false = true) by decide)]
      exact rchk_l1 a0 a1 a2 l3 l4 l5 l6 ha hn h5 h6 hL hl
  by_cases h : a2 < 0
  · simp only [if_pos h]
    exact j4 true (by unfold badB; rw [decide_eq_true h]; rfl)
  · simp only [if_neg h]
    exact j4 _ (by unfold badB; rw [decide_eq_false h]; rfl)
theorem rchk_ev (a0 a1 a2 : Int) (l3 : List Int) (l4 : List (List Int)) (l5 : List (List (List Int))) (l6 : List (List Int)) (hl : ∀ x ∈ said l3 l5 l6, x.length ≤ 4611686018427387904) :
    Ev (fun k => evermoreref16_Check.f k a0 a1 a2 l3 l4 l5 l6) (vS a0 a1 a2 l3 l4 l5 l6) := by
  have j1 : a0 ≤ 4 → ∀ b : Bool, (b = true ↔ l4.length < 1 ∨ l4.length > 6) → Ev (fun k => evermoreref16_Check.j1 k (l4.length : Int) b a0 a1 a2 l3 l4 l5 l6) (if l4.length < 1 ∨ l4.length > 6 then 1 else if l5.length ≠ l4.length ∨ l6.length ≠ l4.length then 3
  else if (List.range l4.length).any (lensB a0 l4 l5) = true then 3
  else if badB l4.length a2 = true then 2 else if l4.any (fun x => x.any (badB l4.length)) = true then 2
  else if (said l3 l5 l6).any longB = true then 1
  else if (said l3 l5 l6).any (fun x => x.any (badB a1)) = true then 2 else 0) := by
    intro ha b hb
    refine Ev.step (fun k => by rw [evermoreref16_Check.j1]) ?_
    by_cases h : l4.length < 1 ∨ l4.length > 6
    · simp only [if_pos h, if_pos (hb.2 h)]; exact Ev.now _
    · have hbn : ¬ b = true := fun x => h (hb.1 x)
      simp only [if_neg h, if_neg hbn]
      by_cases h5 : l5.length = l4.length
      · simp only [if_pos (show (l5.length : Int) = (l4.length : Int) by omega)]
        refine Ev.step (fun k => by rw [evermoreref16_Check.j2]) ?_
        by_cases h6 : l6.length = l4.length
        · simp only [if_neg (show ¬ (((l6.length : Int) != (l4.length : Int)) = true) by rw [bne_iff_ne]; omega), if_neg (show ¬ (l5.length ≠ l4.length ∨ l6.length ≠ l4.length) by omega)]
          exact rchk_l0 a0 a1 a2 l3 l4 l5 l6 ha (by omega) h5 h6 hl
        · simp only [if_pos (show (((l6.length : Int) != (l4.length : Int)) = true) by rw [bne_iff_ne]; omega), if_pos (show (l5.length ≠ l4.length ∨ l6.length ≠ l4.length) by omega)]
          exact Ev.now _
      · simp only [if_neg (show ¬ (l5.length : Int) = (l4.length : Int) by omega), if_pos (show (l5.length ≠ l4.length ∨ l6.length ≠ l4.length) by omega)]
        refine Ev.step (fun k => by rw [evermoreref16_Check.j2]) ?_
        simp only [if_true]
        exact Ev.now _
  have j0 : ∀ b : Bool, (b = true ↔ (a0 < 1 ∨ a0 > 4 ∨ a1 < 1 ∨ a1 > 4)) → Ev (fun k => evermoreref16_Check.j0 k b a0 a1 a2 l3 l4 l5 l6) (vS a0 a1 a2 l3 l4 l5 l6) := by
    intro b hb
    refine Ev.step (fun k => by rw [evermoreref16_Check.j0]) ?_
    unfold vS
    by_cases h : a0 < 1 ∨ a0 > 4 ∨ a1 < 1 ∨ a1 > 4
    · simp only [if_pos h, if_pos (hb.2 h)]; exact Ev.now _
    · have hbn : ¬ b = true := fun x => h (hb.1 x)
      simp only [if_neg h, if_neg hbn]
      by_cases h5 : l4.length < 1
      · simp only [if_pos (show (l4.length : Int) < 1 by omega)]
        exact j1 (by omega) true ⟨fun _ => .inl h5, fun _ => rfl⟩
      · simp only [if_neg (show ¬ (l4.length : Int) < 1 by omega)]
        exact j1 (by omega) _ (by rw [decide_eq_true_iff]; omega)
  unfold evermoreref16_Check.f
  by_cases h1 : a0 < 1
  · simp only [if_pos h1]; exact j0 true (by simp; omega)
  simp only [if_neg h1]
  by_cases h2 : a0 > 4
  · simp only [if_pos h2]; exact j0 true (by simp; omega)
  simp only [if_neg h2]
  by_cases h3 : a1 < 1
  · simp only [if_pos h3]; exact j0 true (by simp; omega)
  simp only [if_neg h3]
  exact j0 _ (by rw [decide_eq_true_iff]; omega)
/-- what it says, and where it is then -/
def ro (next : List (List Int)) (says : List (List (List Int))) : Nat → List Int → List Int × Nat
  | q, [] => ([], q)
  | q, x :: w => ((says.getD q []).getD x.toNat [] ++ (ro next says ((next.getD q []).getD x.toNat 0).toNat w).1, (ro next says ((next.getD q []).getD x.toNat 0).toNat w).2)
structure TOk (a0 a2 : Int) (l3 : List Int) (l4 : List (List Int)) (l5 : List (List (List Int))) (l6 : List (List Int)) : Prop where
  a4 : a0 ≤ 4
  n6 : l4.length ≤ 6
  h5 : l5.length = l4.length
  h6 : l6.length = l4.length
  len : ∀ i, i < l4.length → ((l4.getD i []).length : Int) = a0 ∧ ((l5.getD i []).length : Int) = a0
  st : 0 ≤ a2 ∧ a2 < (l4.length : Int)
  rng : ∀ q, q < l4.length → ∀ j, j < (l4.getD q []).length → 0 ≤ (l4.getD q []).getD j 0 ∧ (l4.getD q []).getD j 0 < (l4.length : Int)
  lg : ∀ x ∈ said l3 l5 l6, x.length ≤ 8
theorem anyf {α : Type} {xs : List α} {p : α → Bool} (h : ¬ xs.any p = true) : ∀ x ∈ xs, p x = false := by
  intro x hx
  cases e : p x with
  | false => rfl
  | true => exact absurd (List.any_eq_true.2 ⟨x, hx, e⟩) h
theorem vS_ok {a0 a1 a2 : Int} {l3 : List Int} {l4 : List (List Int)} {l5 : List (List (List Int))} {l6 : List (List Int)} (h : vS a0 a1 a2 l3 l4 l5 l6 = 0) : TOk a0 a2 l3 l4 l5 l6 := by
  unfold vS at h
  by_cases h1 : a0 < 1 ∨ a0 > 4 ∨ a1 < 1 ∨ a1 > 4
  · rw [if_pos h1] at h; omega
  rw [if_neg h1] at h
  by_cases h2 : l4.length < 1 ∨ l4.length > 6
  · rw [if_pos h2] at h; omega
  rw [if_neg h2] at h
  by_cases h3 : l5.length ≠ l4.length ∨ l6.length ≠ l4.length
  · rw [if_pos h3] at h; omega
  rw [if_neg h3] at h
  by_cases h4 : (List.range l4.length).any (lensB a0 l4 l5) = true
  · rw [if_pos h4] at h; omega
  rw [if_neg h4] at h
  by_cases h5 : badB l4.length a2 = true
  · rw [if_pos h5] at h; omega
  rw [if_neg h5] at h
  by_cases h6 : l4.any (fun x => x.any (badB l4.length)) = true
  · rw [if_pos h6] at h; omega
  rw [if_neg h6] at h
  by_cases h7 : (said l3 l5 l6).any longB = true
  · rw [if_pos h7] at h; omega
  rw [Bool.not_eq_true] at h5
  have b5 := badB_f h5
  refine ⟨by omega, by omega, by omega, by omega, len_any h4, ⟨by omega, by omega⟩, ?_, ?_⟩
  · intro q hq j hj
    have := anyf (by rw [anyf h6 _ (getD_mem l4 q [] hq)]; decide) _ (getD_mem (l4.getD q []) j 0 hj)
    have := badB_f this
    omega
  · intro x hx
    have := of_decide_eq_false (anyf h7 x hx)
    omega
theorem TOk.nx {a0 a2 : Int} {l3 : List Int} {l4 : List (List Int)} {l5 : List (List (List Int))} {l6 : List (List Int)} (T : TOk a0 a2 l3 l4 l5 l6) {q : Nat} (hq : q < l4.length) {x : Nat} (hx : (x : Int) < a0) : ((l4.getD q []).getD x 0).toNat < l4.length ∧ (l4.getD q []).getD x 0 = (((l4.getD q []).getD x 0).toNat : Int) ∧ ((l5.getD q []).getD x []).length ≤ 8 ∧ (x : Int) < ((l4.getD q []).length : Int) ∧ (x : Int) < ((l5.getD q []).length : Int) := by
  have h := T.len q hq
  have h2 := T.rng q hq x (by omega)
  refine ⟨by omega, by omega, ?_, by omega, by omega⟩
  refine T.lg _ (List.mem_cons_of_mem _ (List.mem_append_right _ (List.mem_flatten.2 ⟨l5.getD q [], getD_mem _ _ _ (by have := T.h5; omega), getD_mem _ _ _ (by omega)⟩)))
theorem ro_len {a0 a2 : Int} {l3 : List Int} {l4 : List (List Int)} {l5 : List (List (List Int))} {l6 : List (List Int)} (T : TOk a0 a2 l3 l4 l5 l6) : ∀ (w : List Int) (q : Nat), q < l4.length → (∀ x ∈ w, 0 ≤ x ∧ x < a0) → (ro l4 l5 q w).1.length ≤ 8 * w.length ∧ (ro l4 l5 q w).2 < l4.length
  | [], q, hq, _ => ⟨by simp [ro], hq⟩
  | x :: w, q, hq, h => by
    have hx := h x List.mem_cons_self
    obtain ⟨h1, h2, h3, _⟩ := T.nx hq (x := x.toNat) (by omega)
    have ih := ro_len T w _ h1 (fun y hy => h y (List.mem_cons_of_mem _ hy))
    refine ⟨?_, ih.2⟩
    rw [ro, List.length_append, List.length_cons]
    omega
theorem prun_l0 {a0 a1 a2 : Int} {l3 : List Int} {l4 : List (List Int)} {l5 : List (List (List Int))} {l6 : List (List Int)} (T : TOk a0 a2 l3 l4 l5 l6) (w : List Int) (hw : ∀ x ∈ w, 0 ≤ x ∧ x < a0) (hl : w.length ≤ 60) : ∀ (d i q : Nat) (out : List Int), i + d = w.length → q < l4.length → out.length ≤ 1000000 + 8 * i →
    Ev (fun k => trans_run.l0 k (q : Int) out w (w.length : Int) (i : Int) a0 a1 a2 l3 l4 l5 l6) (out ++ (ro l4 l5 q (w.drop i)).1, ((ro l4 l5 q (w.drop i)).2 : Int)) := by
  intro d
  induction d with
  | zero =>
    intro i q out hi hq ho
    refine Ev.step (fun k => by rw [trans_run.l0]) ?_
    simp only [if_neg (show ¬ ((i : Int) < (w.length : Int)) by omega)]
    rw [List.drop_of_length_le (by omega), ro, List.append_nil]
    exact Ev.now _
  | succ d ih =>
    intro i q out hi hq ho
    have hx := hw _ (getD_mem w i 0 (by omega))
    obtain ⟨x, hx'⟩ := Int.eq_ofNat_of_zero_le hx.1
    rw [hx'] at hx
    obtain ⟨h1, h2, h3, h4, h5⟩ := T.nx hq (x := x) hx.2
    have e5 := T.h5
    refine Ev.step (fun k => by rw [trans_run.l0]) ?_
    simp only [rdL, rdL2, rdN, hx', if_pos (show ((i : Int) < (w.length : Int)) by omega), if_pos (show (0 ≤ (i : Int)) by omega), if_pos (show (0 ≤ (q : Int)) by omega), if_pos (show (q : Int) < (l5.length : Int) by omega), if_pos (show (q : Int) < (l4.length : Int) by omega), if_pos (show (0 ≤ (x : Int)) by omega), if_pos h4, if_pos h5, if_pos (show out.length + ((l5.getD q []).getD x []).length < 17592186044416 by omega), w1 i (by omega)]
    rw [drop_getD w i 0 (by omega), hx', ro, Int.toNat_natCast, h2, Int.toNat_natCast, ← List.append_assoc]
    exact ih (i + 1) _ _ (by omega) h1 (by rw [List.length_append]; omega)
theorem rrun_l0 {a0 a1 a2 : Int} {l3 : List Int} {l4 : List (List Int)} {l5 : List (List (List Int))} {l6 : List (List Int)} (T : TOk a0 a2 l3 l4 l5 l6) (w : List Int) (hw : ∀ x ∈ w, 0 ≤ x ∧ x < a0) (hl : w.length ≤ 60) : ∀ (d i q : Nat) (out : List Int), i + d = w.length → q < l4.length → out.length ≤ 1000000 + 8 * i →
    Ev (fun k => evermoreref16_Run.l0 k w out (q : Int) (i : Int) a0 a1 a2 l3 l4 l5 l6) (out ++ (ro l4 l5 q (w.drop i)).1 ++ l6.getD (ro l4 l5 q (w.drop i)).2 []) := by
  intro d
  induction d with
  | zero =>
    intro i q out hi hq ho
    have e6 := T.h6
    have hlast : (l6.getD q []).length ≤ 8 := T.lg _ (List.mem_cons_of_mem _ (List.mem_append_left _ (getD_mem _ _ _ (by omega))))
    refine Ev.step (fun k => by rw [evermoreref16_Run.l0]) ?_
    simp only [rdL, if_neg (show ¬ ((i : Int) < (w.length : Int)) by omega), if_pos (show (0 ≤ (q : Int)) by omega), if_pos (show (q : Int) < (l6.length : Int) by omega), if_pos (show out.length + (l6.getD q []).length < 17592186044416 by omega)]
    rw [List.drop_of_length_le (by omega), ro, List.append_nil]
    exact Ev.now _
  | succ d ih =>
    intro i q out hi hq ho
    have hx := hw _ (getD_mem w i 0 (by omega))
    obtain ⟨x, hx'⟩ := Int.eq_ofNat_of_zero_le hx.1
    rw [hx'] at hx
    obtain ⟨h1, h2, h3, h4, h5⟩ := T.nx hq (x := x) hx.2
    have e5 := T.h5
    refine Ev.step (fun k => by rw [evermoreref16_Run.l0]) ?_
    simp only [rdL, rdL2, rdN, hx', if_pos (show ((i : Int) < (w.length : Int)) by omega), if_pos (show (0 ≤ (i : Int)) by omega), if_pos (show (0 ≤ (q : Int)) by omega), if_pos (show (q : Int) < (l5.length : Int) by omega), if_pos (show (q : Int) < (l4.length : Int) by omega), if_pos (show (0 ≤ (x : Int)) by omega), if_pos h4, if_pos h5, if_pos (show out.length + ((l5.getD q []).getD x []).length < 17592186044416 by omega), w1 i (by omega)]
    rw [drop_getD w i 0 (by omega), hx', ro, Int.toNat_natCast, h2, Int.toNat_natCast, ← List.append_assoc]
    exact ih (i + 1) _ _ (by omega) h1 (by rw [List.length_append]; omega)
def outS (a2 : Int) (l3 : List Int) (l4 : List (List Int)) (l5 : List (List (List Int))) (l6 : List (List Int)) (w : List Int) : List Int := l3 ++ (ro l4 l5 a2.toNat w).1 ++ l6.getD (ro l4 l5 a2.toNat w).2 []
theorem pwhole_ev {a0 a1 a2 : Int} {l3 : List Int} {l4 : List (List Int)} {l5 : List (List (List Int))} {l6 : List (List Int)} (T : TOk a0 a2 l3 l4 l5 l6) (w : List Int) (hw : ∀ x ∈ w, 0 ≤ x ∧ x < a0) (hl : w.length ≤ 60) : Ev (fun k => trans_whole.f k a0 a1 a2 l3 l4 l5 l6 w) (outS a2 l3 l4 l5 l6 w) := by
  unfold trans_whole.f trans_run.f
  obtain ⟨q, hq⟩ := Int.eq_ofNat_of_zero_le T.st.1
  have hq2 : q < l4.length := by have := T.st.2; omega
  have e := prun_l0 (a1 := a1) T w hw hl w.length 0 q [] (by omega) hq2 (by simp)
  rw [List.drop_zero, List.nil_append] at e
  have r := ro_len T w q hq2 hw
  have e6 := T.h6
  have hlast : (l6.getD (ro l4 l5 q w).2 []).length ≤ 8 := T.lg _ (List.mem_cons_of_mem _ (List.mem_append_left _ (getD_mem _ _ _ (by omega))))
  have h3 : l3.length ≤ 8 := T.lg _ List.mem_cons_self
  unfold outS
  rw [hq, Int.toNat_natCast]
  rw [hq] at e
  refine Ev.bind e ?_
  simp only [rdL, if_pos (show (0 ≤ ((ro l4 l5 q w).2 : Int)) by omega), if_pos (show (((ro l4 l5 q w).2 : Nat) : Int) < (l6.length : Int) by omega)]
  refine Ev.bind (evs (show slices_Concat_int_int.f [l3, (ro l4 l5 q w).1, l6.getD (ro l4 l5 q w).2 []] = some (l3 ++ (ro l4 l5 q w).1 ++ l6.getD (ro l4 l5 q w).2 []) from ?_)) (Ev.now _)
  unfold slices_Concat_int_int.f
  have ef : ([l3, (ro l4 l5 q w).1, l6.getD (ro l4 l5 q w).2 []] : List (List Int)).flatten = l3 ++ (ro l4 l5 q w).1 ++ l6.getD (ro l4 l5 q w).2 [] := by simp
  rw [ef, if_pos (by rw [List.length_append, List.length_append]; omega)]
theorem rrun_ev {a0 a1 a2 : Int} {l3 : List Int} {l4 : List (List Int)} {l5 : List (List (List Int))} {l6 : List (List Int)} (T : TOk a0 a2 l3 l4 l5 l6) (w : List Int) (hw : ∀ x ∈ w, 0 ≤ x ∧ x < a0) (hl : w.length ≤ 60) : Ev (fun k => evermoreref16_Run.f k a0 a1 a2 l3 l4 l5 l6 w) (outS a2 l3 l4 l5 l6 w) := by
  unfold evermoreref16_Run.f
  obtain ⟨q, hq⟩ := Int.eq_ofNat_of_zero_le T.st.1
  have hq2 : q < l4.length := by have := T.st.2; omega
  have h3 : l3.length ≤ 8 := T.lg _ List.mem_cons_self
  have e := rrun_l0 (a1 := a1) T w hw hl w.length 0 q l3 (by omega) hq2 (by omega)
  rw [List.drop_zero] at e
  unfold outS
  rw [hq] at e ⊢
  simp only [Option.bind_some, List.length_nil, List.nil_append, Nat.zero_add, if_pos (show l3.length < 17592186044416 by omega), Int.toNat_natCast]
  exact e
theorem TransRuns : evermorelaw_TransRuns.PureH := by
  intro a0 a1 a2 l3 l4 l5 l6 w hp hwp
  obtain ⟨_, _, _, ⟨_, h3b, _⟩, ⟨_, h4b, h4i⟩, ⟨_, h5b, h5i⟩, ⟨_, h6b, h6i⟩⟩ := hp
  have hl4 : ∀ x ∈ l4, x.length ≤ 4611686018427387904 := fun x hx => by have := (h4i x hx).2.1; omega
  have hl : ∀ x ∈ said l3 l5 l6, x.length ≤ 4611686018427387904 := by
    intro x hx
    rcases List.mem_cons.1 hx with rfl | hx
    · omega
    · rcases List.mem_append.1 hx with hx | hx
      · have := (h6i x hx).2.1; omega
      · obtain ⟨y, hy, hx⟩ := List.mem_flatten.1 hx
        have := ((h5i y hy).2.2 x hx).2.1; omega
  refine Ev.rounds ?_
  unfold evermorelaw_TransRuns.f
  refine Ev.bind (pchk_ev a0 a1 a2 l3 l4 l5 l6 hl hl4) ?_
  refine Ev.bind (rchk_ev a0 a1 a2 l3 l4 l5 l6 hl) ?_
  generalize hv : vS a0 a1 a2 l3 l4 l5 l6 = v
  have hrun : ∀ R : List Int × Int, (v ≠ 0 → R = ([], v)) → (v = 0 → mayS a0 w ≠ 0 → R = ([], mayS a0 w)) → (v = 0 → mayS a0 w = 0 → R = (outS a2 l3 l4 l5 l6 w, 0)) → Ev (fun k => trans_Run.f k a0 a1 a2 l3 l4 l5 l6 w) R := by
    intro R r1 r2 r3
    unfold trans_Run.f
    refine Ev.bind (pchk_ev a0 a1 a2 l3 l4 l5 l6 hl hl4) ?_
    rw [hv]
    by_cases h0 : v = 0
    · simp only [if_pos h0]
      refine Ev.bind (word_May_ev a0 w) ?_
      by_cases hm : mayS a0 w = 0
      · simp only [if_pos hm]
        obtain ⟨_, _, m1, m2⟩ := mayS_ok hm
        rw [r3 h0 hm]
        exact Ev.bind (pwhole_ev (vS_ok (hv.trans h0)) w m2 m1) (Ev.now _)
      · simp only [if_neg hm]
        rw [r2 h0 hm]
        exact Ev.now _
    · simp only [if_neg h0]
      rw [r1 h0]
      exact Ev.now _
  by_cases h0 : v = 0
  · by_cases hm : mayS a0 w = 0
    · obtain ⟨_, _, m1, m2⟩ := mayS_ok hm
      have T := vS_ok (hv.trans h0)
      refine Ev.bind (hrun (outS a2 l3 l4 l5 l6 w, 0) (fun h => absurd h0 h) (fun _ h => absurd hm h) (fun _ _ => rfl)) ?_
      simp only [if_true, if_pos h0]
      refine Ev.bind (evermoreref1_May_ev a0 w) ?_
      rw [hm]
      refine Ev.step (fun k => by rw [evermorelaw_TransRuns.j0]) ?_
      simp only [if_true]
      refine Ev.bind (rrun_ev T w m2 m1) ?_
      have ro' := ro_len T w a2.toNat (by have := T.st; omega) m2
      have h3 : l3.length ≤ 8 := T.lg _ List.mem_cons_self
      have e6 := T.h6
      have hlast : (l6.getD (ro l4 l5 a2.toNat w).2 []).length ≤ 8 := T.lg _ (List.mem_cons_of_mem _ (List.mem_append_left _ (getD_mem _ _ _ (by omega))))
      refine Ev.bind (evermoreref1_Words_ev _ _ (by unfold outS; rw [List.length_append, List.length_append]; omega)) ?_
      exact evc (Ev.now _) (by simp)
    · refine Ev.bind (hrun ([], mayS a0 w) (fun h => absurd h0 h) (fun _ _ => rfl) (fun _ h => absurd h hm)) ?_
      simp only [if_true, if_pos h0]
      refine Ev.bind (evermoreref1_May_ev a0 w) ?_
      refine Ev.step (fun k => by rw [evermorelaw_TransRuns.j0]) ?_
      simp only [if_neg hm, if_true]
      exact Ev.now _
  · refine Ev.bind (hrun ([], v) (fun _ => rfl) (fun h => absurd h h0) (fun h => absurd h h0)) ?_
    simp only [if_true, if_neg h0]
    refine Ev.step (fun k => by rw [evermorelaw_TransRuns.j0]) ?_
    simp only [if_neg h0, if_true]
    exact Ev.now _

end Go.Proofs.Ytklkcdphcmimoaa.Pure
