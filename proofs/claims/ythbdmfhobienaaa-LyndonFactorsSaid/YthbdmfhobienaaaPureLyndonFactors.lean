/- For every word the program's factors are Lyndon's words that fall, and together the word. No conditions beyond the statement's. -/
import Derived.Test.YthbdmfhobienaaaPLyndonFactorsx3
import Derived.Test.YthbdmfhobienaaaWSized
namespace Go.Proofs.Ythbdmfhobienaaa.Pure
open Go.RowKit Go.Proofs.Ythbdmfhobienaaa.PLyndonFactors Go.Proofs.YthbdmfhobienaaaW.PrintWords Go.Proofs.YthbdmfhobienaaaW.PrintLast Go.Proofs.YthbdmfhobienaaaW.PrintMore
set_option linter.unusedVariables false
set_option linter.unusedSimpArgs false
theorem w64 {n : Int} (h : -9223372036854775808 ≤ n) (h' : n ≤ 9223372036854775807) : wrap64 n = n := by unfold wrap64; omega
theorem rdn (l : List Int) (i : Nat) (h : i < l.length) : rd l (i : Int) = l[i] := by
  unfold rd; rw [Int.toNat_natCast, List.getD_eq_getElem?_getD, List.getElem?_eq_getElem h]; rfl
theorem rdOfn {α : Type} (d : α) (l : List α) (i : Nat) (h : i < l.length) : rdOf d l (i : Int) = l[i] := by
  unfold rdOf; rw [Int.toNat_natCast, List.getD_eq_getElem?_getD, List.getElem?_eq_getElem h]; rfl
theorem evc {α : Type} {g : Nat → Option α} {a b : α} (h : Ev g a) (e : a = b) : Ev g b := e ▸ h
theorem evermoreref1_Words_l0 (a b : List Int) (hl : a.length = b.length) (hb : a.length ≤ 9223372036854775000) : ∀ d i : Nat, i + d = a.length → Ev (fun k => evermoreref1_Words.l0 k a b (i : Int)) (decide (a.drop i = b.drop i)) := by
  intro d
  induction d with
  | zero =>
    intro i hi
    refine Ev.step (fun k => by rw [evermoreref1_Words.l0]) ?_
    simp only [if_neg (show ¬ ((i : Int) < (a.length : Int)) by omega)]
    rw [List.drop_of_length_le (by omega), List.drop_of_length_le (by omega)]
    simpa using Ev.now true
  | succ d ih =>
    intro i hi
    refine Ev.step (fun k => by rw [evermoreref1_Words.l0]) ?_
    have h1 : i < a.length := by omega
    have h2 : i < b.length := by omega
    simp only [if_pos (show ((i : Int) < (a.length : Int)) by omega), if_pos (show (0 ≤ (i : Int)) by omega), if_pos (show ((i : Int) < (b.length : Int)) by omega), rdn a i h1, rdn b i h2]
    rw [List.drop_eq_getElem_cons h1, List.drop_eq_getElem_cons h2]
    by_cases e : a[i] = b[i]
    · simp only [if_pos e]
      have := ih (i + 1) (by omega)
      rw [show wrap64 ((i : Int) + 1) = ((i + 1 : Nat) : Int) from by rw [w64 (by omega) (by omega)]; omega]
      exact evc this (by simp only [List.cons.injEq, e, true_and])
    · simp only [if_neg e]
      exact evc (Ev.now false) (by simp only [List.cons.injEq, e, false_and, decide_false])
theorem evermoreref1_Words_ev (a b : List Int) (hb : a.length ≤ 9223372036854775000) : Ev (fun k => evermoreref1_Words.f k a b) (decide (a = b)) := by
  unfold evermoreref1_Words.f
  by_cases h : a.length = b.length
  · simp only [if_pos (show ((a.length : Int) = (b.length : Int)) by omega)]
    exact evermoreref1_Words_l0 a b h hb a.length 0 (by omega)
  · simp only [if_neg (show ¬ ((a.length : Int) = (b.length : Int)) by omega)]
    have : a ≠ b := fun e => h (by rw [e])
    simpa [this] using Ev.now false
def okB (n : Int) (l : List Int) : Bool := l.all (fun a => decide (0 ≤ a) && decide (a < n))
theorem okB_cons (n a : Int) (l : List Int) : okB n (a :: l) = (decide (0 ≤ a) && decide (a < n) && okB n l) := rfl
def mayS (n : Int) (l : List Int) : Int := if n < 1 ∨ n > 4 then 2 else if l.length > 60 then 1 else if okB n l = true then 0 else 2
theorem mayS_ok {n : Int} {l : List Int} (h : mayS n l = 0) : 1 ≤ n ∧ n ≤ 4 ∧ l.length ≤ 60 ∧ ∀ a ∈ l, 0 ≤ a ∧ a < n := by
  unfold mayS at h
  by_cases h1 : n < 1 ∨ n > 4
  · rw [if_pos h1] at h; omega
  · rw [if_neg h1] at h
    by_cases h2 : l.length > 60
    · rw [if_pos h2] at h; omega
    · rw [if_neg h2] at h
      by_cases h3 : okB n l = true
      · refine ⟨by omega, by omega, by omega, ?_⟩
        simpa [okB] using h3
      · rw [if_neg h3] at h; omega
theorem evermoreref1_May_l0 (n : Int) (l : List Int) (hl : l.length ≤ 60) : ∀ d i : Nat, i + d = l.length → Ev (fun k => evermoreref1_May.l0 k n l (i : Int)) (if okB n (l.drop i) = true then 0 else 2) := by
  intro d
  induction d with
  | zero =>
    intro i hi
    refine Ev.step (fun k => by rw [evermoreref1_May.l0]) ?_
    simp only [if_neg (show ¬ ((i : Int) < (l.length : Int)) by omega)]
    rw [List.drop_of_length_le (by omega)]
    exact Ev.now _
  | succ d ih =>
    intro i hi
    refine Ev.step (fun k => by rw [evermoreref1_May.l0]) ?_
    have h1 : i < l.length := by omega
    simp only [if_pos (show ((i : Int) < (l.length : Int)) by omega), if_pos (show (0 ≤ (i : Int)) by omega), rdn l i h1]
    rw [List.drop_eq_getElem_cons h1]
    have := ih (i + 1) (by omega)
    rw [show wrap64 ((i : Int) + 1) = ((i + 1 : Nat) : Int) from by rw [w64 (by omega) (by omega)]; omega]
    by_cases e : l[i] < 0
    · simp only [if_pos e]
      exact evc (Ev.now 2) (by rw [okB_cons, decide_eq_false (show ¬ (0 ≤ l[i]) by omega)]; rfl)
    · simp only [if_neg e]
      by_cases e' : l[i] ≥ n
      · simp only [if_pos e']
        exact evc (Ev.now 2) (by rw [okB_cons, decide_eq_false (show ¬ (l[i] < n) by omega), Bool.and_false]; rfl)
      · simp only [if_neg e']
        exact evc this (by rw [okB_cons, decide_eq_true (show (0 ≤ l[i]) by omega), decide_eq_true (show (l[i] < n) by omega), Bool.true_and, Bool.true_and])
theorem evermoreref1_May_ev (n : Int) (l : List Int) : Ev (fun k => evermoreref1_May.f k n l) (mayS n l) := by
  have key : ∀ b : Bool, (b = true ↔ (n < 1 ∨ n > 4)) → Ev (fun k => evermoreref1_May.j0 k n l b) (mayS n l) := by
    intro b hb
    refine Ev.step (fun k => by rw [evermoreref1_May.j0]) ?_
    unfold mayS
    by_cases h : b = true
    · simp only [if_pos h, if_pos (hb.1 h)]; exact Ev.now _
    · simp only [if_neg h, if_neg (fun x => h (hb.2 x))]
      by_cases h2 : l.length > 60
      · simp only [if_pos h2, if_pos (show (l.length : Int) > 60 by omega)]; exact Ev.now _
      · simp only [if_neg h2, if_neg (show ¬ (l.length : Int) > 60 by omega)]
        exact evermoreref1_May_l0 n l (by omega) l.length 0 (by omega)
  unfold evermoreref1_May.f
  by_cases h : n < 1
  · simp only [if_pos h]; exact key true (by simp; omega)
  · simp only [if_neg h]; exact key _ (by simp; omega)
theorem word_May_l0 (n : Int) (l : List Int) (hl : l.length ≤ 60) : ∀ d i : Nat, i + d = l.length → Ev (fun k => word_May.l0 k n l (l.length : Int) (i : Int)) (if okB n (l.drop i) = true then 0 else 2) := by
  intro d
  induction d with
  | zero =>
    intro i hi
    refine Ev.step (fun k => by rw [word_May.l0]) ?_
    simp only [if_neg (show ¬ ((i : Int) < (l.length : Int)) by omega)]
    rw [List.drop_of_length_le (by omega)]
    exact Ev.now _
  | succ d ih =>
    intro i hi
    refine Ev.step (fun k => by rw [word_May.l0]) ?_
    have h1 : i < l.length := by omega
    simp only [if_pos (show ((i : Int) < (l.length : Int)) by omega), if_pos (show (0 ≤ (i : Int)) by omega), rdn l i h1]
    rw [List.drop_eq_getElem_cons h1]
    have := ih (i + 1) (by omega)
    rw [show wrap64 ((i : Int) + 1) = ((i + 1 : Nat) : Int) from by rw [w64 (by omega) (by omega)]; omega]
    by_cases e : l[i] < 0
    · simp only [if_pos e]
      exact evc (Ev.now 2) (by rw [okB_cons, decide_eq_false (show ¬ (0 ≤ l[i]) by omega)]; rfl)
    · simp only [if_neg e]
      by_cases e' : l[i] ≥ n
      · simp only [if_pos e']
        exact evc (Ev.now 2) (by rw [okB_cons, decide_eq_false (show ¬ (l[i] < n) by omega), Bool.and_false]; rfl)
      · simp only [if_neg e']
        exact evc this (by rw [okB_cons, decide_eq_true (show (0 ≤ l[i]) by omega), decide_eq_true (show (l[i] < n) by omega), Bool.true_and, Bool.true_and])
theorem word_May_ev (n : Int) (l : List Int) : Ev (fun k => word_May.f k n l) (mayS n l) := by
  have key : ∀ b : Bool, (b = true ↔ (n < 1 ∨ n > 4)) → Ev (fun k => word_May.j0 k n l b) (mayS n l) := by
    intro b hb
    refine Ev.step (fun k => by rw [word_May.j0]) ?_
    unfold mayS
    by_cases h : b = true
    · simp only [if_pos h, if_pos (hb.1 h)]; exact Ev.now _
    · simp only [if_neg h, if_neg (fun x => h (hb.2 x))]
      by_cases h2 : l.length > 60
      · simp only [if_pos h2, if_pos (show (l.length : Int) > 60 by omega)]; exact Ev.now _
      · simp only [if_neg h2, if_neg (show ¬ (l.length : Int) > 60 by omega)]
        exact word_May_l0 n l (by omega) l.length 0 (by omega)
  unfold word_May.f
  by_cases h : n < 1
  · simp only [if_pos h]; exact key true (by simp; omega)
  · simp only [if_neg h]; exact key _ (by simp; omega)
theorem rdL (l : List (List Int)) (n : Nat) : rd_L1 l (n : Int) = l.getD n [] := by unfold rd_L1; rw [Int.toNat_natCast]
theorem rdN (l : List Int) (n : Nat) : rd l (n : Int) = l.getD n 0 := by unfold rd; rw [Int.toNat_natCast]
theorem w1 (i : Nat) (h : i ≤ 9223372036854775000) : wrap64 ((i : Int) + 1) = ((i + 1 : Nat) : Int) := by rw [w64 (by omega) (by omega)]; omega
theorem getD_mem {α : Type} (l : List α) (n : Nat) (d : α) (h : n < l.length) : l.getD n d ∈ l := by
  rw [List.getD_eq_getElem?_getD, List.getElem?_eq_getElem h]; exact List.getElem_mem h
theorem drop_getD {α : Type} (l : List α) (n : Nat) (d : α) (h : n < l.length) : l.drop n = l.getD n d :: l.drop (n + 1) := by
  rw [List.drop_eq_getElem_cons h, List.getD_eq_getElem?_getD, List.getElem?_eq_getElem h]; rfl
/-- the order of dictionaries -/
def AhB : List Int → List Int → Bool
  | [], [] => false
  | [], _ :: _ => true
  | _ :: _, [] => false
  | a :: x, b :: y => if a = b then AhB x y else decide (a < b)
theorem AhB_iff : ∀ x y : List Int, AhB x y = true ↔ ((∃ q, q < x.length ∧ q < y.length ∧ (∀ r, r < q → x.getD r 0 = y.getD r 0) ∧ x.getD q 0 < y.getD q 0) ∨ (x.length < y.length ∧ ∀ r, r < x.length → x.getD r 0 = y.getD r 0))
  | [], [] => by simp [AhB]
  | [], _ :: _ => by simp [AhB]
  | _ :: _, [] => by simp [AhB]
  | a :: x, b :: y => by
    have ih := AhB_iff x y
    unfold AhB
    by_cases e : a = b
    · rw [if_pos e, ih]
      constructor
      · rintro (⟨q, h1, h2, h3, h4⟩ | ⟨h1, h2⟩)
        · refine .inl ⟨q + 1, by simpa using h1, by simpa using h2, fun r hr => ?_, by simpa using h4⟩
          cases r with
          | zero => simpa using e
          | succ r => simpa using h3 r (by omega)
        · refine .inr ⟨by simpa using h1, fun r hr => ?_⟩
          cases r with
          | zero => simpa using e
          | succ r => simpa using h2 r (by simpa using hr)
      · rintro (⟨q, h1, h2, h3, h4⟩ | ⟨h1, h2⟩)
        · cases q with
          | zero => simp at h4; omega
          | succ q => exact .inl ⟨q, by simpa using h1, by simpa using h2, fun r hr => by simpa using h3 (r + 1) (by omega), by simpa using h4⟩
        · exact .inr ⟨by simpa using h1, fun r hr => by simpa using h2 (r + 1) (by simpa using hr)⟩
    · rw [if_neg e, decide_eq_true_iff]
      constructor
      · intro h; exact .inl ⟨0, by simp, by simp, fun r hr => absurd hr (Nat.not_lt_zero _), by simpa using h⟩
      · rintro (⟨q, h1, h2, h3, h4⟩ | ⟨h1, h2⟩)
        · cases q with
          | zero => simpa using h4
          | succ q => exact absurd (by simpa using h3 0 (by omega)) e
        · exact absurd (by simpa using h2 0 (by simp)) e
theorem AhB_irrefl (x : List Int) : AhB x x = false := by
  cases h : AhB x x with
  | false => rfl
  | true =>
    rcases (AhB_iff x x).1 h with ⟨q, _, _, _, h4⟩ | ⟨h1, _⟩ <;> omega
theorem Ahead_l0 (x y : List Int) (hx : x.length ≤ 9223372036854775000) : ∀ d i : Nat, i + d = x.length → Ev (fun k => evermoreref31_Ahead.l0 k x y (i : Int)) (if (x.take i = y.take i) then AhB (x.drop i) (y.drop i) else AhB (x.drop i) (y.drop i)) := by
  intro d
  induction d with
  | zero =>
    intro i hi
    rw [ite_self]
    refine Ev.step (fun k => by rw [evermoreref31_Ahead.l0]) ?_
    simp only [if_neg (show ¬ (i : Int) < (x.length : Int) by omega)]
    refine Ev.step (fun k => by rw [evermoreref31_Ahead.j1]) ?_
    simp only [if_neg (show ¬ (false = true) by decide)]
    refine evc (Ev.now _) ?_
    rw [List.drop_of_length_le (show x.length ≤ i by omega)]
    by_cases h : i < y.length
    · rw [decide_eq_true (by omega), List.drop_eq_getElem_cons h]; rfl
    · rw [decide_eq_false (by omega), List.drop_of_length_le (by omega)]; rfl
  | succ d ih =>
    intro i hi
    rw [ite_self]
    refine Ev.step (fun k => by rw [evermoreref31_Ahead.l0]) ?_
    simp only [if_pos (show (i : Int) < (x.length : Int) by omega)]
    refine Ev.step (fun k => by rw [evermoreref31_Ahead.j1]) ?_
    by_cases h : i < y.length
    · have hx' : i < x.length := by omega
      simp only [decide_eq_true (show (i : Int) < (y.length : Int) by omega), if_true, if_pos (show 0 ≤ (i : Int) by omega), if_pos (show (i : Int) < (x.length : Int) by omega), if_pos (show (i : Int) < (y.length : Int) by omega), rdn x i hx', rdn y i h]
      rw [List.drop_eq_getElem_cons hx', List.drop_eq_getElem_cons h]
      unfold AhB
      by_cases e : x[i] = y[i]
      · simp only [if_pos e]
        rw [w1 i (by omega)]
        have := ih (i + 1) (by omega)
        rw [ite_self] at this
        exact this
      · simp only [if_neg e]
        exact Ev.now _
    · simp only [decide_eq_false (show ¬ (i : Int) < (y.length : Int) by omega), if_neg (show ¬ (false = true) by decide)]
      refine evc (Ev.now _) ?_
      rw [decide_eq_false (by omega), List.drop_of_length_le (show y.length ≤ i by omega), List.drop_eq_getElem_cons (show i < x.length by omega)]
      rfl
theorem Ahead_ev (x y : List Int) (hx : x.length ≤ 9223372036854775000) : Ev (fun k => evermoreref31_Ahead.f k x y) (AhB x y) := by
  unfold evermoreref31_Ahead.f
  have := Ahead_l0 x y hx x.length 0 (by omega)
  rw [ite_self] at this
  exact this
/-- one of Lyndon's words -/
def LyB (x : List Int) : Bool := decide (0 < x.length) && (List.range' 1 (x.length - 1)).all (fun t => AhB x (x.drop t))
theorem Lyndon_l0 (x : List Int) (hx : x.length ≤ 9223372036854775000) : ∀ d t : Nat, t + d = x.length → Ev (fun k => evermoreref31_Lyndon.l0 k x (t : Int)) (decide (0 < x.length) && (List.range' t d).all (fun t => AhB x (x.drop t))) := by
  intro d
  induction d with
  | zero =>
    intro t ht
    refine Ev.step (fun k => by rw [evermoreref31_Lyndon.l0]) ?_
    simp only [if_neg (show ¬ (t : Int) < (x.length : Int) by omega)]
    refine evc (Ev.now _) ?_
    have : (decide ((x.length : Int) > 0)) = decide (0 < x.length) := by rw [decide_eq_decide]; omega
    rw [this]; simp
  | succ d ih =>
    intro t ht
    refine Ev.step (fun k => by rw [evermoreref31_Lyndon.l0]) ?_
    simp only [if_pos (show (t : Int) < (x.length : Int) by omega), if_pos (show 0 ≤ (t : Int) by omega), if_pos (show (t : Int) ≤ (x.length : Int) by omega), Int.toNat_natCast]
    refine Ev.bind (Ahead_ev x (x.drop t) hx) ?_
    rw [List.range'_succ, List.all_cons, w1 t (by omega)]
    cases q : AhB x (x.drop t) with
    | true =>
      simp only [if_true, Bool.true_and]
      exact ih (t + 1) (by omega)
    | false =>
      simp only [if_neg (show ¬ (false = true) by decide), Bool.false_and, Bool.and_false]
      exact Ev.now _
theorem Lyndon_ev (x : List Int) (hx : x.length ≤ 9223372036854775000) (h0 : 0 < x.length) : Ev (fun k => evermoreref31_Lyndon.f k x) (LyB x) := by
  unfold evermoreref31_Lyndon.f LyB
  exact Lyndon_l0 x hx (x.length - 1) 1 (by omega)
def seg (w : List Int) (i p : Nat) : List Int := (w.take (i + p)).drop i
theorem seg_len {w : List Int} {i p : Nat} (h : i + p ≤ w.length) : (seg w i p).length = p := by unfold seg; rw [List.length_drop, List.length_take]; omega
theorem seg_get {w : List Int} {i p q : Nat} (h : q < p) : (seg w i p).getD q 0 = w.getD (i + q) 0 := by
  unfold seg; rw [List.getD_eq_getElem?_getD, List.getElem?_drop, List.getElem?_take, if_pos (by omega), ← List.getD_eq_getElem?_getD]
theorem list_ext_getD {a b : List Int} (h : a.length = b.length) (hg : ∀ q, q < a.length → a.getD q 0 = b.getD q 0) : a = b := by
  apply List.ext_getElem h
  intro j h1 h2
  have := hg j h1
  rw [List.getD_eq_getElem?_getD, List.getD_eq_getElem?_getD, List.getElem?_eq_getElem h1, List.getElem?_eq_getElem h2] at this
  exact this
/-- a Lyndon word at i, of p letters -/
def LyP (g : Nat → Int) (i p : Nat) : Prop := 1 ≤ p ∧ ∀ t, 1 ≤ t → t < p → ∃ q, t + q < p ∧ (∀ r, r < q → g (i + r) = g (i + t + r)) ∧ g (i + q) < g (i + t + q)
theorem LyP.lyb {w : List Int} {i p : Nat} (h : LyP (fun q => w.getD q 0) i p) (hl : i + p ≤ w.length) : LyB (seg w i p) = true := by
  unfold LyB
  have hlen := seg_len hl
  rw [Bool.and_eq_true, List.all_eq_true]
  refine ⟨decide_eq_true (by have := h.1; omega), fun t ht => ?_⟩
  rw [List.mem_range'_1, hlen] at ht
  obtain ⟨q, h1, h2, h3⟩ := h.2 t ht.1 (by omega)
  refine (AhB_iff _ _).2 (.inl ⟨q, by omega, by rw [List.length_drop]; omega, fun r hr => ?_, ?_⟩)
  · rw [seg_get (by omega), List.getD_eq_getElem?_getD (l := (seg w i p).drop t), List.getElem?_drop, ← List.getD_eq_getElem?_getD, seg_get (by omega), ← Nat.add_assoc]
    exact h2 r hr
  · rw [seg_get (by omega), List.getD_eq_getElem?_getD (l := (seg w i p).drop t), List.getElem?_drop, ← List.getD_eq_getElem?_getD, seg_get (by omega), ← Nat.add_assoc]
    exact h3
/-- period p from i up to j -/
def PerI (g : Nat → Int) (i j p : Nat) : Prop := ∀ t, i ≤ t → t + p < j → g t = g (t + p)
theorem PerI.mul {g : Nat → Int} {i j p : Nat} (h : PerI g i j p) : ∀ a t, i ≤ t → t + a * p < j → g t = g (t + a * p) := by
  intro a
  induction a with
  | zero => intro t _ _; rw [Nat.zero_mul, Nat.add_zero]
  | succ a ih =>
    intro t h1 h2
    rw [Nat.succ_mul] at h2 ⊢
    rw [ih t h1 (by omega), h (t + a * p) (by omega) (by omega), Nat.add_assoc]
/-- a greater letter: the whole is one of Lyndon's words -/
theorem ly_grow {g : Nat → Int} {i j p : Nat} (hL : LyP g i p) (hP : PerI g i j p) (hj : i + p ≤ j) (hlt : g (j - p) < g j) : LyP g i (j + 1 - i) := by
  have hp := hL.1
  refine ⟨by omega, fun t h1 h2 => ?_⟩
  obtain ⟨a, b, hb, ht⟩ : ∃ a b, b < p ∧ t = a * p + b := ⟨t / p, t % p, Nat.mod_lt _ (by omega), by rw [Nat.mul_comm]; exact (Nat.div_add_mod t p).symm⟩
  -- the letter that the period would have at j
  by_cases hb0 : b = 0
  · subst hb0
    rw [Nat.add_zero] at ht
    have ha : 1 ≤ a := by
      rcases Nat.eq_zero_or_pos a with h | h
      · subst h; omega
      · exact h
    refine ⟨j - i - t, by omega, fun r hr => ?_, ?_⟩
    · have := hP.mul a (i + r) (by omega) (by omega)
      rw [this]; congr 1; omega
    · have e1 : g (i + (j - i - t)) = g (j - p) := by
        have hap : a * p = (a - 1) * p + p := by rw [← Nat.succ_mul]; congr 1; omega
        have := hP.mul (a - 1) (i + (j - i - t)) (by omega) (by omega)
        rw [this]; congr 1; omega
      rw [e1, show i + t + (j - i - t) = j by omega]
      exact hlt
  · obtain ⟨q0, h3, h4, h5⟩ := hL.2 b (by omega) hb
    by_cases hc : i + t + q0 < j
    · refine ⟨q0, by omega, fun r hr => ?_, ?_⟩
      · rw [h4 r hr]
        have := hP.mul a (i + b + r) (by omega) (by omega)
        rw [this]; congr 1; omega
      · have := hP.mul a (i + b + q0) (by omega) (by omega)
        rw [show i + t + q0 = i + b + q0 + a * p by omega, ← this]
        exact h5
    · refine ⟨j - i - t, by omega, fun r hr => ?_, ?_⟩
      · rw [h4 r (by omega)]
        have := hP.mul a (i + b + r) (by omega) (by omega)
        rw [this]; congr 1; omega
      · rw [show i + t + (j - i - t) = j by omega]
        have he : g (i + b + (j - i - t)) = g (j - p) := by
          rcases Nat.eq_zero_or_pos a with h | h
          · subst h
            omega
          · have hap : a * p = (a - 1) * p + p := by rw [← Nat.succ_mul]; congr 1; omega
            have := hP.mul (a - 1) (i + b + (j - i - t)) (by omega) (by omega)
            rw [this]; congr 1; omega
        have hle : g (i + (j - i - t)) ≤ g (i + b + (j - i - t)) := by
          by_cases e : j - i - t = q0
          · rw [e]; omega
          · have := h4 (j - i - t) (by omega)
            omega
        omega
/-- the factors so far -/
structure Acc (w : List Int) (acc : List (List Int)) (i : Nat) : Prop where
  fl : acc.flatten = w.take i
  ly : ∀ x ∈ acc, LyB x = true
  adj : ∀ q, q + 1 < acc.length → AhB (acc.getD q []) (acc.getD (q + 1) []) = false
  len : acc.length ≤ i
theorem Acc.push {w : List Int} {acc : List (List Int)} {i p : Nat} (h : Acc w acc i) (hi : i + p ≤ w.length) (hp : 1 ≤ p) (hU : LyB (seg w i p) = true) (hlast : ∀ L, acc.getLast? = some L → AhB L (seg w i p) = false) : Acc w (acc ++ [seg w i p]) (i + p) := by
  refine ⟨?_, fun x hx => ?_, fun q hq => ?_, by have := h.len; simp; omega⟩
  · rw [List.flatten_append, h.fl]
    simp only [List.flatten_cons, List.flatten_nil, List.append_nil]
    unfold seg
    have : w.take i = (w.take (i + p)).take i := by rw [List.take_take]; congr 1; omega
    rw [this, List.take_append_drop]
  · rcases List.mem_append.1 hx with hx | hx
    · exact h.ly x hx
    · rw [List.mem_singleton.1 hx]; exact hU
  · rw [List.length_append, List.length_singleton] at hq
    by_cases e : q + 1 < acc.length
    · rw [List.getD_eq_getElem?_getD, List.getD_eq_getElem?_getD, List.getElem?_append_left (by omega), List.getElem?_append_left e, ← List.getD_eq_getElem?_getD, ← List.getD_eq_getElem?_getD]
      exact h.adj q e
    · have hq' : q + 1 = acc.length := by omega
      rw [List.getD_eq_getElem?_getD, List.getD_eq_getElem?_getD, List.getElem?_append_left (by omega), hq', List.getElem?_append_right (Nat.le_refl _), Nat.sub_self]
      refine hlast _ ?_
      rw [List.getLast?_eq_getElem?, show acc.length - 1 = q by omega, List.getElem?_eq_getElem (show q < acc.length by omega)]
      rfl
def Bnd (w : List Int) (acc : List (List Int)) (i : Nat) : Prop := ∀ L, acc.getLast? = some L → ∀ m, i + m ≤ w.length → AhB L (seg w i m) = false
theorem duval_l2 (w : List Int) (hw : w.length ≤ 60) (U : List Int) (i0 j p : Nat) (hp : 1 ≤ p) (hUl : U.length = p) (hU : LyB U = true) (hj : j ≤ w.length) (hpj : p ≤ j) (hi0 : i0 + p ≤ j) (hP : PerI (fun q => w.getD q 0) i0 j p) (hstop : j = w.length ∨ w.getD j 0 < w.getD (j - p) 0) (Q : List (List Int) × Int → Prop)
    (cont : ∀ acc i, i0 < i → i ≤ j → Acc w acc i → Bnd w acc i → ∃ r, Ev (fun k => lyndon_Factors.l0 k w acc (i : Int)) r ∧ Q r) :
    ∀ d i : Nat, j ≤ i + d → i0 ≤ i → i ≤ j → ∀ acc, Acc w acc i → (∀ q, q < p → i + q < j → w.getD (i + q) 0 = U.getD q 0) → ((i = i0 ∧ ∀ L, acc.getLast? = some L → AhB L U = false) ∨ (i0 + p ≤ i ∧ (∀ q, q < p → i - p + q < j → w.getD (i - p + q) 0 = U.getD q 0) ∧ acc.getLast? = some U)) →
      ∃ r, Ev (fun k => lyndon_Factors.l2 k w acc (i : Int) (j : Int) ((j - p : Nat) : Int)) r ∧ Q r := by
  intro d
  induction d with
  | zero =>
    intro i hd h1 h2 acc hA hg hprev
    have hij : i = j := by omega
    rcases hprev with ⟨h, _⟩ | ⟨h3, h4, h5⟩
    · omega
    · obtain ⟨r, hr, hq⟩ := cont acc i (by omega) h2 hA (fun L hL m hm => by
        rw [h5] at hL
        obtain rfl := Option.some.inj hL
        cases e : AhB U (seg w i m) with
        | false => rfl
        | true =>
          rcases (AhB_iff _ _).1 e with ⟨q, q1, q2, q3, q4⟩ | ⟨q1, q2⟩
          · rw [seg_len hm] at q2
            have hst : w.getD j 0 < w.getD (j - p) 0 := by rcases hstop with x | x; omega; exact x
            have e1 := h4 0 (by omega) (by omega)
            rw [show i - p + 0 = j - p by omega] at e1
            have : U.getD 0 0 ≤ w.getD j 0 := by
              by_cases e0 : q = 0
              · subst e0; rw [seg_get (by omega), show i + 0 = j by omega] at q4; omega
              · have := q3 0 (by omega); rw [seg_get (by omega), show i + 0 = j by omega] at this; omega
            omega
          · rw [seg_len hm] at q1
            have hst : w.getD j 0 < w.getD (j - p) 0 := by rcases hstop with x | x; omega; exact x
            have e1 := h4 0 (by omega) (by omega)
            rw [show i - p + 0 = j - p by omega] at e1
            have := q2 0 (by omega); rw [seg_get (by omega), show i + 0 = j by omega] at this
            omega)
      refine ⟨r, ?_, hq⟩
      refine Ev.step (fun k => by rw [lyndon_Factors.l2]) ?_
      simp only [if_neg (show ¬ (i : Int) ≤ ((j - p : Nat) : Int) by omega)]
      exact hr
  | succ d ih =>
    intro i hd h1 h2 acc hA hg hprev
    by_cases hk : i + p ≤ j
    · have hs : seg w i p = U := list_ext_getD (by rw [seg_len (by omega), hUl]) (fun q hq => by
        rw [seg_len (by omega)] at hq
        rw [seg_get hq]; exact hg q hq (by omega))
      have hA2 := hA.push (p := p) (by omega) hp (by rw [hs]; exact hU) (fun L hL => by
        rw [hs]
        rcases hprev with ⟨_, h⟩ | ⟨_, _, h⟩
        · exact h L hL
        · rw [h] at hL; obtain rfl := Option.some.inj hL; exact AhB_irrefl _)
      obtain ⟨r, hr, hq⟩ := ih (i + p) (by omega) (by omega) hk (acc ++ [seg w i p]) hA2 (fun q h3 h4 => by
        have := hP (i + q) (by omega) (by omega)
        have e : w.getD (i + q) 0 = w.getD (i + q + p) 0 := this
        rw [show i + p + q = i + q + p by omega, ← e]; exact hg q h3 (by omega)) (.inr ⟨by omega, fun q h3 h4 => by rw [show i + p - p + q = i + q by omega] at h4 ⊢; exact hg q h3 h4, by rw [hs]; simp⟩)
      refine ⟨r, ?_, hq⟩
      refine Ev.step (fun k => by rw [lyndon_Factors.l2]) ?_
      have hal := hA.len
      rw [show wrap64 ((i : Int) + (j : Int)) = ((i + j : Nat) : Int) from by rw [w64 (by omega) (by omega)]; omega, show wrap64 (((i + j : Nat) : Int) - ((j - p : Nat) : Int)) = ((i + p : Nat) : Int) from by rw [w64 (by omega) (by omega)]; omega,
        show wrap64 ((j : Int) - ((j - p : Nat) : Int)) = (p : Int) from by rw [w64 (by omega) (by omega)]; omega, show wrap64 ((i : Int) + (p : Int)) = ((i + p : Nat) : Int) from by rw [w64 (by omega) (by omega)]; omega]
      simp only [if_pos (show (i : Int) ≤ ((j - p : Nat) : Int) by omega), if_pos (show 0 ≤ (i : Int) by omega), if_pos (show (i : Int) ≤ ((i + p : Nat) : Int) by omega), if_pos (show ((i + p : Nat) : Int) ≤ (w.length : Int) by omega), Int.toNat_natCast]
      have hcl : slices_Clone_int_int.f ((w.take (i + p)).drop i) = some (seg w i p) := by
        unfold slices_Clone_int_int.f
        have := seg_len (w := w) (i := i) (p := p) (by omega)
        unfold seg at this ⊢
        rw [if_pos (by omega)]
      simp only [hcl, Option.bind_some, if_pos (show acc.length < 5864062014805 by omega)]
      exact hr
    · rcases hprev with ⟨h, _⟩ | ⟨h3, h4, h5⟩
      · omega
      · obtain ⟨r, hr, hq⟩ := cont acc i (by omega) h2 hA (fun L hL m hm => by
          rw [h5] at hL
          obtain rfl := Option.some.inj hL
          cases e : AhB U (seg w i m) with
          | false => rfl
          | true =>
            have key : ∀ q1 : Nat, q1 = j - i → i + q1 < i + m → U.getD q1 0 ≤ w.getD j 0 → False := by
              intro q1 hq1 hm1 hle
              have hst : w.getD j 0 < w.getD (j - p) 0 := by rcases hstop with x | x; omega; exact x
              have e1 := h4 q1 (by omega) (by omega)
              rw [show i - p + q1 = j - p by omega] at e1
              omega
            rcases (AhB_iff _ _).1 e with ⟨q, q1, q2, q3, q4⟩ | ⟨q1, q2⟩
            · rw [seg_len hm] at q2
              rw [seg_get q2] at q4
              by_cases hc : i + q < j
              · have := hg q (by omega) hc; omega
              · by_cases e0 : q = j - i
                · exact (key q e0 (by omega) (by rw [show i + q = j by omega] at q4; omega)).elim
                · have := q3 (j - i) (by omega)
                  rw [seg_get (by omega), show i + (j - i) = j by omega] at this
                  exact (key (j - i) rfl (by omega) (by omega)).elim
            · rw [seg_len hm] at q1
              have := q2 (j - i) (by omega)
              rw [seg_get (by omega), show i + (j - i) = j by omega] at this
              exact (key (j - i) rfl (by omega) (by omega)).elim)
        refine ⟨r, ?_, hq⟩
        refine Ev.step (fun k => by rw [lyndon_Factors.l2]) ?_
        simp only [if_neg (show ¬ (i : Int) ≤ ((j - p : Nat) : Int) by omega)]
        exact hr
theorem duval_l1 (w : List Int) (hw : w.length ≤ 60) (i : Nat) (acc : List (List Int)) (Q : List (List Int) × Int → Prop)
    (cont : ∀ j p, 1 ≤ p → i + p ≤ j → j ≤ w.length → LyP (fun q => w.getD q 0) i p → PerI (fun q => w.getD q 0) i j p → (j = w.length ∨ w.getD j 0 < w.getD (j - p) 0) → ∃ r, Ev (fun k => lyndon_Factors.l2 k w acc (i : Int) (j : Int) ((j - p : Nat) : Int)) r ∧ Q r) :
    ∀ d j p : Nat, j + d = w.length → 1 ≤ p → i + p ≤ j → LyP (fun q => w.getD q 0) i p → PerI (fun q => w.getD q 0) i j p → ∃ r, Ev (fun k => lyndon_Factors.l1 k w acc (i : Int) (j : Int) ((j - p : Nat) : Int)) r ∧ Q r := by
  intro d
  induction d with
  | zero =>
    intro j p hj hp hi hL hP
    obtain ⟨r, hr, hq⟩ := cont j p hp hi (by omega) hL hP (.inl (by omega))
    refine ⟨r, ?_, hq⟩
    refine Ev.step (fun k => by rw [lyndon_Factors.l1]) ?_
    simp only [if_neg (show ¬ (j : Int) < (w.length : Int) by omega)]
    refine Ev.step (fun k => by rw [lyndon_Factors.j2]) ?_
    simp only [if_neg (show ¬ (false = true) by decide)]
    exact hr
  | succ d ih =>
    intro j p hj hp hi hL hP
    by_cases hle : w.getD (j - p) 0 ≤ w.getD j 0
    · by_cases hlt : w.getD (j - p) 0 < w.getD j 0
      · obtain ⟨r, hr, hq⟩ := ih (j + 1) (j + 1 - i) (by omega) (by omega) (by omega) (ly_grow hL hP hi hlt) (fun t h1 h2 => by omega)
        refine ⟨r, ?_, hq⟩
        refine Ev.step (fun k => by rw [lyndon_Factors.l1]) ?_
        simp only [rdN, if_pos (show (j : Int) < (w.length : Int) by omega), if_pos (show 0 ≤ ((j - p : Nat) : Int) by omega), if_pos (show ((j - p : Nat) : Int) < (w.length : Int) by omega), if_pos (show 0 ≤ (j : Int) by omega), decide_eq_true hle]
        refine Ev.step (fun k => by rw [lyndon_Factors.j2]) ?_
        simp only [rdN, if_true, if_pos (show (j : Int) < (w.length : Int) by omega), if_pos (show 0 ≤ ((j - p : Nat) : Int) by omega), if_pos (show ((j - p : Nat) : Int) < (w.length : Int) by omega), if_pos (show 0 ≤ (j : Int) by omega), if_pos hlt, w1 j (by omega)]
        rw [show j + 1 - (j + 1 - i) = i by omega] at hr
        exact hr
      · obtain ⟨r, hr, hq⟩ := ih (j + 1) p (by omega) hp (by omega) hL (fun t h1 h2 => by
          by_cases e : t + p = j
          · show w.getD t 0 = w.getD (t + p) 0
            rw [e, show t = j - p by omega]; omega
          · exact hP t h1 (by omega))
        refine ⟨r, ?_, hq⟩
        refine Ev.step (fun k => by rw [lyndon_Factors.l1]) ?_
        simp only [rdN, if_pos (show (j : Int) < (w.length : Int) by omega), if_pos (show 0 ≤ ((j - p : Nat) : Int) by omega), if_pos (show ((j - p : Nat) : Int) < (w.length : Int) by omega), if_pos (show 0 ≤ (j : Int) by omega), decide_eq_true hle]
        refine Ev.step (fun k => by rw [lyndon_Factors.j2]) ?_
        simp only [rdN, if_true, if_pos (show (j : Int) < (w.length : Int) by omega), if_pos (show 0 ≤ ((j - p : Nat) : Int) by omega), if_pos (show ((j - p : Nat) : Int) < (w.length : Int) by omega), if_pos (show 0 ≤ (j : Int) by omega), if_neg hlt, w1 j (by omega), w1 (j - p) (by omega)]
        rw [show j + 1 - p = j - p + 1 by omega] at hr
        exact hr
    · obtain ⟨r, hr, hq⟩ := cont j p hp hi (by omega) hL hP (.inr (by omega))
      refine ⟨r, ?_, hq⟩
      refine Ev.step (fun k => by rw [lyndon_Factors.l1]) ?_
      simp only [rdN, if_pos (show (j : Int) < (w.length : Int) by omega), if_pos (show 0 ≤ ((j - p : Nat) : Int) by omega), if_pos (show ((j - p : Nat) : Int) < (w.length : Int) by omega), if_pos (show 0 ≤ (j : Int) by omega), decide_eq_false hle]
      refine Ev.step (fun k => by rw [lyndon_Factors.j2]) ?_
      simp only [if_neg (show ¬ (false = true) by decide)]
      exact hr
theorem duval_l0 (w : List Int) (hw : w.length ≤ 60) : ∀ d i : Nat, w.length ≤ i + d → i ≤ w.length → ∀ acc, Acc w acc i → Bnd w acc i → ∃ r, Ev (fun k => lyndon_Factors.l0 k w acc (i : Int)) r ∧ (r.2 = 0 ∧ Acc w r.1 w.length) := by
  intro d
  induction d with
  | zero =>
    intro i h1 h2 acc hA hB
    have : i = w.length := by omega
    refine ⟨(acc, 0), ?_, rfl, by rw [← this]; exact hA⟩
    refine Ev.step (fun k => by rw [lyndon_Factors.l0]) ?_
    simp only [if_neg (show ¬ (i : Int) < (w.length : Int) by omega)]
    exact Ev.now _
  | succ d ih =>
    intro i h1 h2 acc hA hB
    by_cases hi : i < w.length
    · obtain ⟨r, hr, hq⟩ := duval_l1 w hw i acc (fun r => r.2 = 0 ∧ Acc w r.1 w.length) (fun j p hp hij hj hL hP hst =>
        duval_l2 w hw (seg w i p) i j p hp (seg_len (by omega)) (hL.lyb (by omega)) hj (by omega) hij hP hst _ (fun acc2 i2 hi2 hj2 hA2 hB2 => ih i2 (by omega) (by omega) acc2 hA2 hB2) j i (by omega) (Nat.le_refl _) (by omega) acc hA
          (fun q h3 _ => (seg_get h3).symm) (.inl ⟨rfl, fun L hL => hB L hL p (by omega)⟩)) (w.length - (i + 1)) (i + 1) 1 (by omega) (Nat.le_refl _) (Nat.le_refl _) ⟨Nat.le_refl _, fun t h3 h4 => by omega⟩ (fun t h3 h4 => by omega)
      refine ⟨r, ?_, hq⟩
      refine Ev.step (fun k => by rw [lyndon_Factors.l0]) ?_
      simp only [if_pos (show (i : Int) < (w.length : Int) by omega), w1 i (by omega)]
      exact hr
    · have : i = w.length := by omega
      refine ⟨(acc, 0), ?_, rfl, by rw [← this]; exact hA⟩
      refine Ev.step (fun k => by rw [lyndon_Factors.l0]) ?_
      simp only [if_neg (show ¬ (i : Int) < (w.length : Int) by omega)]
      exact Ev.now _
theorem factors_ev (w : List Int) (hw : w.length ≤ 60) : ∃ fs, Ev (fun k => lyndon_Factors.l0 k w [] 0) (fs, 0) ∧ fs.flatten = w ∧ (∀ x ∈ fs, LyB x = true) ∧ (∀ q, q + 1 < fs.length → AhB (fs.getD q []) (fs.getD (q + 1) []) = false) := by
  obtain ⟨⟨fs, e⟩, hr, he, hA⟩ := duval_l0 w hw w.length 0 (by omega) (by omega) [] ⟨by simp, (fun x hx => by cases hx), (fun q hq => by simp at hq), Nat.le_refl _⟩ (fun L hL => by simp at hL)
  have he' : e = 0 := he
  subst he'
  exact ⟨fs, hr, by rw [hA.fl, List.take_length], hA.ly, hA.adj⟩
theorem lyndon_may1_ev (u : List Int) : Ev (fun k => lyndon_may.f k [u]) (mayS 4 u) := by
  unfold lyndon_may.f
  refine Ev.step (fun k => by rw [lyndon_may.l0]) ?_
  simp only [List.length_cons, List.length_nil, if_pos (show ((0 : Int) < ((0 + 1 : Nat) : Int)) by decide), if_pos (show (0 : Int) ≤ 0 by decide), show rd_L1 [u] 0 = u from rfl]
  refine Ev.bind (word_May_ev 4 u) ?_
  by_cases h : mayS 4 u = 0
  · simp only [if_pos h]
    refine Ev.step (fun k => by rw [lyndon_may.l0]) ?_
    rw [show wrap64 (0 + 1) = 1 from w64 (by decide) (by decide)]
    simp only [List.length_cons, List.length_nil, if_neg (show ¬ ((1 : Int) < ((0 + 1 : Nat) : Int)) by decide)]
    exact evc (Ev.now _) h.symm
  · simp only [if_neg h]; exact Ev.now _
/-- what the law asks of the rest of the factors -/
theorem law_l0 (w : List Int) (hw : w.length ≤ 60) (fs : List (List Int)) (hf : fs.flatten = w) (hL : ∀ x ∈ fs, LyB x = true) (hA : ∀ q, q + 1 < fs.length → AhB (fs.getD q []) (fs.getD (q + 1) []) = false) :
    ∀ d i : Nat, i + d = fs.length → Ev (fun k => evermorelaw_LyndonFactors.l0 k w fs 0 ((fs.take i).flatten) (i : Int)) true := by
  have hfl : fs.flatten.length ≤ 60 := by rw [hf]; exact hw
  have hpos : ∀ x ∈ fs, 0 < x.length := fun x hx => by
    have := hL x hx
    unfold LyB at this
    rw [Bool.and_eq_true] at this
    exact of_decide_eq_true this.1
  have hflen : fs.length ≤ 60 := by
    have : ∀ l : List (List Int), (∀ x ∈ l, 0 < x.length) → l.length ≤ l.flatten.length := by
      intro l
      induction l with
      | nil => intro _; simp
      | cons a l ih =>
        intro h
        have h1 := h a List.mem_cons_self
        have h2 := ih (fun x hx => h x (List.mem_cons_of_mem _ hx))
        simp only [List.flatten_cons, List.length_append, List.length_cons]
        omega
    have := this fs hpos
    omega
  have htk : ∀ i, (fs.take i).flatten.length ≤ 60 := fun i => by
    have : (fs.take i ++ fs.drop i).flatten.length ≤ 60 := by rw [List.take_append_drop]; exact hfl
    rw [List.flatten_append, List.length_append] at this
    omega
  intro d
  induction d with
  | zero =>
    intro i hi
    refine Ev.step (fun k => by rw [evermorelaw_LyndonFactors.l0]) ?_
    simp only [if_neg (show ¬ (i : Int) < (fs.length : Int) by omega)]
    refine Ev.bind (evermoreref1_Words_ev _ _ (by have := htk i; omega)) ?_
    simp only [if_true]
    exact evc (Ev.now _) (by rw [List.take_of_length_le (by omega), hf]; simp)
  | succ d ih =>
    intro i hi
    have hm : fs.getD i [] ∈ fs := getD_mem _ _ _ (by omega)
    have hlen : (fs.getD i []).length ≤ 60 := by
      have : ((fs.take i) ++ (fs.getD i [] :: fs.drop (i + 1))).flatten.length ≤ 60 := by rw [← drop_getD fs i [] (by omega), List.take_append_drop]; exact hfl
      rw [List.flatten_append, List.flatten_cons, List.length_append, List.length_append] at this
      omega
    have hnext : Ev (fun k => evermorelaw_LyndonFactors.l0 k w fs 0 ((fs.take i).flatten ++ fs.getD i []) ((i + 1 : Nat) : Int)) true := by
      have := ih (i + 1) (by omega)
      rw [List.take_succ_eq_append_getElem (show i < fs.length by omega), List.flatten_append] at this
      have e : fs[i]'(by omega) = fs.getD i [] := by rw [List.getD_eq_getElem?_getD, List.getElem?_eq_getElem (show i < fs.length by omega)]; rfl
      simp only [List.flatten_cons, List.flatten_nil, List.append_nil, e] at this
      exact this
    refine Ev.step (fun k => by rw [evermorelaw_LyndonFactors.l0]) ?_
    have htk' := htk i
    simp only [rdL, if_pos (show (i : Int) < (fs.length : Int) by omega), if_pos (show 0 ≤ (i : Int) by omega), w1 i (by omega)]
    refine Ev.bind (Lyndon_ev _ (by omega) (hpos _ hm)) ?_
    rw [hL _ hm]
    by_cases h0 : i = 0
    · subst h0
      simp only [if_neg (show ¬ (((0 : Nat) : Int) > 0) by decide), if_true, if_pos (show (fs.take 0).flatten.length + (fs.getD 0 []).length < 17592186044416 by omega)]
      exact hnext
    · simp only [if_pos (show (i : Int) > 0 by omega), show wrap64 ((i : Int) - 1) = ((i - 1 : Nat) : Int) from by rw [w64 (by omega) (by omega)]; omega, rdL, if_pos (show 0 ≤ ((i - 1 : Nat) : Int) by omega), if_pos (show ((i - 1 : Nat) : Int) < (fs.length : Int) by omega)]
      have hlen2 : (fs.getD (i - 1) []).length ≤ 60 := by
        have : ((fs.take (i - 1)) ++ (fs.getD (i - 1) [] :: fs.drop (i - 1 + 1))).flatten.length ≤ 60 := by rw [← drop_getD fs (i - 1) [] (by omega), List.take_append_drop]; exact hfl
        rw [List.flatten_append, List.flatten_cons, List.length_append, List.length_append] at this
        omega
      refine Ev.bind (Ahead_ev _ _ (by omega)) ?_
      have ha := hA (i - 1) (by omega)
      rw [show i - 1 + 1 = i by omega] at ha
      rw [ha]
      simp only [if_true, if_neg (show ¬ (false = true) by decide), if_pos (show (fs.take i).flatten.length + (fs.getD i []).length < 17592186044416 by omega)]
      exact hnext
theorem LyndonFactors : evermorelaw_LyndonFactors.Pure := by
  intro w _ hsz _
  refine Ev.rounds ?_
  unfold evermorelaw_LyndonFactors.f evermorelaw_list.f
  simp only [if_pos (show w.length < 17592186044416 by omega), Option.bind_some]
  by_cases h : mayS 4 w = 0
  · have hw := (mayS_ok h).2.2.1
    obtain ⟨fs, hfs, h1, h2, h3⟩ := factors_ev w hw
    have hF : Ev (fun k => lyndon_Factors.f k w) (fs, 0) := by
      unfold lyndon_Factors.f
      refine Ev.bind (lyndon_may1_ev w) ?_
      simp only [if_pos h]
      exact hfs
    refine Ev.bind hF ?_
    refine Ev.bind (evermoreref1_Words_ev _ _ (by omega)) ?_
    refine Ev.bind (evermoreref1_May_ev 4 w) ?_
    simp only [decide_true, if_true, if_pos h]
    exact law_l0 w hw fs h1 h2 h3 fs.length 0 (by omega)
  · have hF : Ev (fun k => lyndon_Factors.f k w) ([], mayS 4 w) := by
      unfold lyndon_Factors.f
      refine Ev.bind (lyndon_may1_ev w) ?_
      simp only [if_neg h]
      exact Ev.now _
    refine Ev.bind hF ?_
    refine Ev.bind (evermoreref1_Words_ev _ _ (by omega)) ?_
    refine Ev.bind (evermoreref1_May_ev 4 w) ?_
    simp only [decide_true, if_true, if_neg h]
    exact Ev.now _

end Go.Proofs.Ythbdmfhobienaaa.Pure
namespace Go.Proofs.Ythbdmfhobienaaa.PrintWords
abbrev sized_ints := @Go.Proofs.YthbdmfhobienaaaW.PrintWords.sized_ints
end Go.Proofs.Ythbdmfhobienaaa.PrintWords
