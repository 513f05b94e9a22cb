/- For every two words the places at which the program finds the second in the first are the reference's. No conditions beyond the statement's. -/
import Derived.Test.YthbdmfhobienaaaPLyndonFindsx4
import Derived.Test.YthbdmfhobienaaaWSized
namespace Go.Proofs.Ythbdmfhobienaaa.Pure
open Go.RowKit Go.Proofs.Ythbdmfhobienaaa.PLyndonFinds Go.Proofs.YthbdmfhobienaaaW.PrintWords Go.Proofs.YthbdmfhobienaaaW.PrintLast Go.Proofs.YthbdmfhobienaaaW.PrintMore
set_option linter.unusedVariables false
set_option linter.unusedSimpArgs false
theorem w64 {n : Int} (h : -9223372036854775808 ≤ n) (h' : n ≤ 9223372036854775807) : wrap64 n = n := by unfold wrap64; omega
theorem rdn (l : List Int) (i : Nat) (h : i < l.length) : rd l (i : Int) = l[i] := by
  unfold rd; rw [Int.toNat_natCast, List.getD_eq_getElem?_getD, List.getElem?_eq_getElem h]; rfl
theorem rdOfn {α : Type} (d : α) (l : List α) (i : Nat) (h : i < l.length) : rdOf d l (i : Int) = l[i] := by
  unfold rdOf; rw [Int.toNat_natCast, List.getD_eq_getElem?_getD, List.getElem?_eq_getElem h]; rfl
theorem evc {α : Type} {g : Nat → Option α} {a b : α} (h : Ev g a) (e : a = b) : Ev g b := e ▸ h
theorem evermoreref1_Words_l0 (a b : List Int) (hl : a.length = b.length) (hb : a.length ≤ 9223372036854775000) : ∀ d i : Nat, i + d = a.length → Ev (fun k => evermoreref1_Words.l0 k a b (i : Int)) (decide (a.drop i = b.drop i)) := by
  intro d
  induction d with
  | zero =>
    intro i hi
    refine Ev.step (fun k => by rw [evermoreref1_Words.l0]) ?_
    simp only [if_neg (show ¬ ((i : Int) < (a.length : Int)) by omega)]
    rw [List.drop_of_length_le (by omega), List.drop_of_length_le (by omega)]
    simpa using Ev.now true
  | succ d ih =>
    intro i hi
    refine Ev.step (fun k => by rw [evermoreref1_Words.l0]) ?_
    have h1 : i < a.length := by omega
    have h2 : i < b.length := by omega
    simp only [if_pos (show ((i : Int) < (a.length : Int)) by omega), if_pos (show (0 ≤ (i : Int)) by omega), if_pos (show ((i : Int) < (b.length : Int)) by omega), rdn a i h1, rdn b i h2]
    rw [List.drop_eq_getElem_cons h1, List.drop_eq_getElem_cons h2]
    by_cases e : a[i] = b[i]
    · simp only [if_pos e]
      have := ih (i + 1) (by omega)
      rw [show wrap64 ((i : Int) + 1) = ((i + 1 : Nat) : Int) from by rw [w64 (by omega) (by omega)]; omega]
      exact evc this (by simp only [List.cons.injEq, e, true_and])
    · simp only [if_neg e]
      exact evc (Ev.now false) (by simp only [List.cons.injEq, e, false_and, decide_false])
theorem evermoreref1_Words_ev (a b : List Int) (hb : a.length ≤ 9223372036854775000) : Ev (fun k => evermoreref1_Words.f k a b) (decide (a = b)) := by
  unfold evermoreref1_Words.f
  by_cases h : a.length = b.length
  · simp only [if_pos (show ((a.length : Int) = (b.length : Int)) by omega)]
    exact evermoreref1_Words_l0 a b h hb a.length 0 (by omega)
  · simp only [if_neg (show ¬ ((a.length : Int) = (b.length : Int)) by omega)]
    have : a ≠ b := fun e => h (by rw [e])
    simpa [this] using Ev.now false
def okB (n : Int) (l : List Int) : Bool := l.all (fun a => decide (0 ≤ a) && decide (a < n))
theorem okB_cons (n a : Int) (l : List Int) : okB n (a :: l) = (decide (0 ≤ a) && decide (a < n) && okB n l) := rfl
def mayS (n : Int) (l : List Int) : Int := if n < 1 ∨ n > 4 then 2 else if l.length > 60 then 1 else if okB n l = true then 0 else 2
theorem mayS_ok {n : Int} {l : List Int} (h : mayS n l = 0) : 1 ≤ n ∧ n ≤ 4 ∧ l.length ≤ 60 ∧ ∀ a ∈ l, 0 ≤ a ∧ a < n := by
  unfold mayS at h
  by_cases h1 : n < 1 ∨ n > 4
  · rw [if_pos h1] at h; omega
  · rw [if_neg h1] at h
    by_cases h2 : l.length > 60
    · rw [if_pos h2] at h; omega
    · rw [if_neg h2] at h
      by_cases h3 : okB n l = true
      · refine ⟨by omega, by omega, by omega, ?_⟩
        simpa [okB] using h3
      · rw [if_neg h3] at h; omega
theorem evermoreref1_May_l0 (n : Int) (l : List Int) (hl : l.length ≤ 60) : ∀ d i : Nat, i + d = l.length → Ev (fun k => evermoreref1_May.l0 k n l (i : Int)) (if okB n (l.drop i) = true then 0 else 2) := by
  intro d
  induction d with
  | zero =>
    intro i hi
    refine Ev.step (fun k => by rw [evermoreref1_May.l0]) ?_
    simp only [if_neg (show ¬ ((i : Int) < (l.length : Int)) by omega)]
    rw [List.drop_of_length_le (by omega)]
    exact Ev.now _
  | succ d ih =>
    intro i hi
    refine Ev.step (fun k => by rw [evermoreref1_May.l0]) ?_
    have h1 : i < l.length := by omega
    simp only [if_pos (show ((i : Int) < (l.length : Int)) by omega), if_pos (show (0 ≤ (i : Int)) by omega), rdn l i h1]
    rw [List.drop_eq_getElem_cons h1]
    have := ih (i + 1) (by omega)
    rw [show wrap64 ((i : Int) + 1) = ((i + 1 : Nat) : Int) from by rw [w64 (by omega) (by omega)]; omega]
    by_cases e : l[i] < 0
    · simp only [if_pos e]
      exact evc (Ev.now 2) (by rw [okB_cons, decide_eq_false (show ¬ (0 ≤ l[i]) by omega)]; rfl)
    · simp only [if_neg e]
      by_cases e' : l[i] ≥ n
      · simp only [if_pos e']
        exact evc (Ev.now 2) (by rw [okB_cons, decide_eq_false (show ¬ (l[i] < n) by omega), Bool.and_false]; rfl)
      · simp only [if_neg e']
        exact evc this (by rw [okB_cons, decide_eq_true (show (0 ≤ l[i]) by omega), decide_eq_true (show (l[i] < n) by omega), Bool.true_and, Bool.true_and])
theorem evermoreref1_May_ev (n : Int) (l : List Int) : Ev (fun k => evermoreref1_May.f k n l) (mayS n l) := by
  have key : ∀ b : Bool, (b = true ↔ (n < 1 ∨ n > 4)) → Ev (fun k => evermoreref1_May.j0 k n l b) (mayS n l) := by
    intro b hb
    refine Ev.step (fun k => by rw [evermoreref1_May.j0]) ?_
    unfold mayS
    by_cases h : b = true
    · simp only [if_pos h, if_pos (hb.1 h)]; exact Ev.now _
    · simp only [if_neg h, if_neg (fun x => h (hb.2 x))]
      by_cases h2 : l.length > 60
      · simp only [if_pos h2, if_pos (show (l.length : Int) > 60 by omega)]; exact Ev.now _
      · simp only [if_neg h2, if_neg (show ¬ (l.length : Int) > 60 by omega)]
        exact evermoreref1_May_l0 n l (by omega) l.length 0 (by omega)
  unfold evermoreref1_May.f
  by_cases h : n < 1
  · simp only [if_pos h]; exact key true (by simp; omega)
  · simp only [if_neg h]; exact key _ (by simp; omega)
theorem word_May_l0 (n : Int) (l : List Int) (hl : l.length ≤ 60) : ∀ d i : Nat, i + d = l.length → Ev (fun k => word_May.l0 k n l (l.length : Int) (i : Int)) (if okB n (l.drop i) = true then 0 else 2) := by
  intro d
  induction d with
  | zero =>
    intro i hi
    refine Ev.step (fun k => by rw [word_May.l0]) ?_
    simp only [if_neg (show ¬ ((i : Int) < (l.length : Int)) by omega)]
    rw [List.drop_of_length_le (by omega)]
    exact Ev.now _
  | succ d ih =>
    intro i hi
    refine Ev.step (fun k => by rw [word_May.l0]) ?_
    have h1 : i < l.length := by omega
    simp only [if_pos (show ((i : Int) < (l.length : Int)) by omega), if_pos (show (0 ≤ (i : Int)) by omega), rdn l i h1]
    rw [List.drop_eq_getElem_cons h1]
    have := ih (i + 1) (by omega)
    rw [show wrap64 ((i : Int) + 1) = ((i + 1 : Nat) : Int) from by rw [w64 (by omega) (by omega)]; omega]
    by_cases e : l[i] < 0
    · simp only [if_pos e]
      exact evc (Ev.now 2) (by rw [okB_cons, decide_eq_false (show ¬ (0 ≤ l[i]) by omega)]; rfl)
    · simp only [if_neg e]
      by_cases e' : l[i] ≥ n
      · simp only [if_pos e']
        exact evc (Ev.now 2) (by rw [okB_cons, decide_eq_false (show ¬ (l[i] < n) by omega), Bool.and_false]; rfl)
      · simp only [if_neg e']
        exact evc this (by rw [okB_cons, decide_eq_true (show (0 ≤ l[i]) by omega), decide_eq_true (show (l[i] < n) by omega), Bool.true_and, Bool.true_and])
theorem word_May_ev (n : Int) (l : List Int) : Ev (fun k => word_May.f k n l) (mayS n l) := by
  have key : ∀ b : Bool, (b = true ↔ (n < 1 ∨ n > 4)) → Ev (fun k => word_May.j0 k n l b) (mayS n l) := by
    intro b hb
    refine Ev.step (fun k => by rw [word_May.j0]) ?_
    unfold mayS
    by_cases h : b = true
    · simp only [if_pos h, if_pos (hb.1 h)]; exact Ev.now _
    · simp only [if_neg h, if_neg (fun x => h (hb.2 x))]
      by_cases h2 : l.length > 60
      · simp only [if_pos h2, if_pos (show (l.length : Int) > 60 by omega)]; exact Ev.now _
      · simp only [if_neg h2, if_neg (show ¬ (l.length : Int) > 60 by omega)]
        exact word_May_l0 n l (by omega) l.length 0 (by omega)
  unfold word_May.f
  by_cases h : n < 1
  · simp only [if_pos h]; exact key true (by simp; omega)
  · simp only [if_neg h]; exact key _ (by simp; omega)
/-! borders of beginnings -/
theorem rdg (l : List Int) (n : Nat) : rd l (n : Int) = l.getD n 0 := by unfold rd; rw [Int.toNat_natCast]
def gt (l : List Int) (n : Nat) : Int := l.getD n 0
theorem rdgt (l : List Int) (n : Nat) : rd l (n : Int) = gt l n := rdg l n
theorem gt_append_left (l r : List Int) (n : Nat) (h : n < l.length) : gt (l ++ r) n = gt l n := by
  unfold gt; simp [List.getD_eq_getElem?_getD, List.getElem?_append_left h]
theorem gt_append_at (l : List Int) (x : Int) (n : Nat) (h : n = l.length) : gt (l ++ [x]) n = x := by
  subst h; unfold gt; simp [List.getD_eq_getElem?_getD]
/-- the beginning of k letters ends the beginning of n letters -/
def Bd (g : Nat → Int) (n k : Nat) : Prop := k ≤ n ∧ ∀ j, j < k → g j = g (n - k + j)
theorem Bd.trans {g : Nat → Int} {n k m : Nat} (h : Bd g n k) (h' : Bd g k m) : Bd g n m := by
  refine ⟨Nat.le_trans h'.1 h.1, fun j hj => ?_⟩
  rw [h'.2 j hj, h.2 (k - m + j) (by have := h'.1; omega)]
  congr 1; have := h.1; have := h'.1; omega
theorem Bd.down {g : Nat → Int} {n k m : Nat} (h : Bd g n k) (h' : Bd g n m) (hm : m ≤ k) : Bd g k m := by
  refine ⟨hm, fun j hj => ?_⟩
  rw [h'.2 j hj, h.2 (k - m + j) (by omega)]
  congr 1; have := h.1; omega
theorem Bd.zero (g : Nat → Int) (n : Nat) : Bd g n 0 := ⟨Nat.zero_le _, fun j hj => absurd hj (Nat.not_lt_zero _)⟩
theorem Bd.succ {g : Nat → Int} {n k : Nat} : Bd g (n + 1) (k + 1) ↔ Bd g n k ∧ g k = g n := by
  constructor
  · intro h
    refine ⟨⟨by have := h.1; omega, fun j hj => ?_⟩, ?_⟩
    · rw [h.2 j (by omega)]; congr 1; omega
    · rw [h.2 k (by omega)]; congr 1; have := h.1; omega
  · intro ⟨h, e⟩
    refine ⟨by have := h.1; omega, fun j hj => ?_⟩
    by_cases hk : j = k
    · subst hk; rw [e]; congr 1; have := h.1; omega
    · rw [h.2 j (by omega)]; congr 1; omega
/-- the longest border of the beginning of n letters, with less letters -/
def LB (g : Nat → Int) (n k : Nat) : Prop := k < n ∧ Bd g n k ∧ ∀ m, m < n → Bd g n m → m ≤ k
theorem LB.uniq {g : Nat → Int} {n k m : Nat} (h : LB g n k) (h' : LB g n m) : k = m := Nat.le_antisymm (h'.2.2 k h.1 h.2.1) (h.2.2 m h'.1 h'.2.1)
/-- a row of longest borders -/
def BL (g : Nat → Int) (l : List Int) : Prop := ∀ j, j < l.length → ∃ b : Nat, gt l j = (b : Int) ∧ LB g (j + 1) b
theorem BL.snoc {g : Nat → Int} {l : List Int} {b : Nat} (h : BL g l) (hb : LB g (l.length + 1) b) : BL g (l ++ [(b : Int)]) := by
  intro j hj
  by_cases e : j < l.length
  · rw [gt_append_left _ _ _ e]; exact h j e
  · have : j = l.length := by simp at hj; omega
    subst this
    exact ⟨b, gt_append_at _ _ _ rfl, hb⟩
theorem borders_l1 (w : List Int) (hw : w.length ≤ 60) (i : Nat) (hi : i < w.length) (x3 : List Int) (hx : x3.length = i) (hb : BL (gt w) x3) (Q : List Int → Prop)
    (cont : ∀ b : Nat, LB (gt w) (i + 1) b → ∃ r, Ev (fun k => lyndon_borders.l0 k w (x3 ++ [(b : Int)]) (b : Int) (w.length : Int) ((i + 1 : Nat) : Int)) r ∧ Q r) :
    ∀ (d k : Nat), k ≤ d → (k = 0 ∨ k < i) → Bd (gt w) i k → (∀ m, m < i → Bd (gt w) i m → gt w m = gt w i → m ≤ k) →
      ∃ r, Ev (fun kq => lyndon_borders.l1 kq w x3 (k : Int) (i : Int) (w.length : Int) (i : Int)) r ∧ Q r := by
  have fin : ∀ k : Nat, i > 0 → k < i → Bd (gt w) i k → (∀ m, m < i → Bd (gt w) i m → gt w m = gt w i → m ≤ k) → gt w i = gt w k → LB (gt w) (i + 1) (k + 1) := by
    intro k h0 hk hB hm e
    refine ⟨by omega, Bd.succ.2 ⟨hB, e.symm⟩, fun m hmi hBm => ?_⟩
    cases m with
    | zero => omega
    | succ m =>
      have := Bd.succ.1 hBm
      have := hm m (by omega) this.1 this.2
      omega
  have fin0 : (i = 0 ∨ (∀ m, m < i → Bd (gt w) i m → gt w m = gt w i → m ≤ 0) ∧ gt w i ≠ gt w 0) → LB (gt w) (i + 1) 0 := by
    intro h
    refine ⟨by omega, Bd.zero _ _, fun m hmi hBm => ?_⟩
    cases m with
    | zero => omega
    | succ m =>
      rcases h with h | ⟨h, e⟩
      · omega
      · have hs := Bd.succ.1 hBm
        have := h m (by omega) hs.1 hs.2
        have : m = 0 := by omega
        subst this
        exact absurd hs.2.symm e
  intro d
  induction d with
  | zero =>
    intro k hk hki hB hm
    have : k = 0 := by omega
    subst this
    by_cases h0 : i = 0
    · obtain ⟨r, hr, hq⟩ := cont 0 (fin0 (.inl h0))
      refine ⟨r, ?_, hq⟩
      refine Ev.step (fun k => by rw [lyndon_borders.l1]) ?_
      rw [show wrap64 ((i : Int) + 1) = ((i + 1 : Nat) : Int) from by rw [w64 (by omega) (by omega)]; omega]
      simp only [if_neg (show ¬ ((i : Int) > 0) by omega), if_pos (show x3.length < 17592186044416 by omega)]
      exact hr
    · by_cases e : gt w i = gt w 0
      · obtain ⟨r, hr, hq⟩ := cont 1 (fin 0 (by omega) (by omega) hB hm e)
        refine ⟨r, ?_, hq⟩
        refine Ev.step (fun k => by rw [lyndon_borders.l1]) ?_
        rw [show wrap64 ((i : Int) + 1) = ((i + 1 : Nat) : Int) from by rw [w64 (by omega) (by omega)]; omega, show wrap64 (((0 : Nat) : Int) + 1) = ((1 : Nat) : Int) from w64 (by decide) (by decide)]
        simp only [rdgt, if_pos (show ((i : Int) > 0) by omega), if_neg (show ¬ (((0 : Nat) : Int) > 0) by decide), if_pos (show 0 ≤ (i : Int) by omega), if_pos (show (i : Int) < (w.length : Int) by omega), if_pos (show 0 ≤ ((0 : Nat) : Int) by decide),
          if_pos (show ((0 : Nat) : Int) < (w.length : Int) by omega), if_pos e, if_pos (show x3.length < 17592186044416 by omega)]
        exact hr
      · obtain ⟨r, hr, hq⟩ := cont 0 (fin0 (.inr ⟨hm, e⟩))
        refine ⟨r, ?_, hq⟩
        refine Ev.step (fun k => by rw [lyndon_borders.l1]) ?_
        rw [show wrap64 ((i : Int) + 1) = ((i + 1 : Nat) : Int) from by rw [w64 (by omega) (by omega)]; omega]
        simp only [rdgt, if_pos (show ((i : Int) > 0) by omega), if_neg (show ¬ (((0 : Nat) : Int) > 0) by decide), if_pos (show 0 ≤ (i : Int) by omega), if_pos (show (i : Int) < (w.length : Int) by omega), if_pos (show 0 ≤ ((0 : Nat) : Int) by decide),
          if_pos (show ((0 : Nat) : Int) < (w.length : Int) by omega), if_neg e, if_pos (show x3.length < 17592186044416 by omega)]
        exact hr
  | succ d ih =>
    intro k hk hki hB hm
    by_cases hk0 : k = 0
    · exact ih k (by omega) hki hB hm
    · have hk1 : k < i := by omega
      by_cases e : gt w i = gt w k
      · obtain ⟨r, hr, hq⟩ := cont (k + 1) (fin k (by omega) hk1 hB hm e)
        refine ⟨r, ?_, hq⟩
        refine Ev.step (fun k => by rw [lyndon_borders.l1]) ?_
        rw [show wrap64 ((i : Int) + 1) = ((i + 1 : Nat) : Int) from by rw [w64 (by omega) (by omega)]; omega, show wrap64 ((k : Int) + 1) = ((k + 1 : Nat) : Int) from by rw [w64 (by omega) (by omega)]; omega]
        simp only [rdgt, if_pos (show ((i : Int) > 0) by omega), if_pos (show ((k : Int) > 0) by omega), if_pos (show 0 ≤ (i : Int) by omega), if_pos (show (i : Int) < (w.length : Int) by omega), if_pos (show 0 ≤ (k : Int) by omega),
          if_pos (show (k : Int) < (w.length : Int) by omega), if_pos e, if_pos (show x3.length < 17592186044416 by omega)]
        exact hr
      · obtain ⟨b, hb1, hb2⟩ := hb (k - 1) (by omega)
        rw [show k - 1 + 1 = k by omega] at hb2
        obtain ⟨r, hr, hq⟩ := ih b (by have := hb2.1; omega) (by have := hb2.1; omega) (hB.trans hb2.2.1) (fun m hmi hBm hem => by
          have h1 := hm m hmi hBm hem
          have h2 : m ≠ k := fun x => e (by rw [← x]; exact hem.symm)
          exact hb2.2.2 m (by omega) (hB.down hBm h1))
        refine ⟨r, ?_, hq⟩
        refine Ev.step (fun k => by rw [lyndon_borders.l1]) ?_
        rw [show wrap64 ((k : Int) - 1) = ((k - 1 : Nat) : Int) from by rw [w64 (by omega) (by omega)]; omega]
        simp only [rdgt, hb1, if_pos (show ((i : Int) > 0) by omega), if_pos (show ((k : Int) > 0) by omega), if_pos (show 0 ≤ (i : Int) by omega), if_pos (show (i : Int) < (w.length : Int) by omega), if_pos (show 0 ≤ (k : Int) by omega),
          if_pos (show (k : Int) < (w.length : Int) by omega), if_neg e, if_pos (show 0 ≤ ((k - 1 : Nat) : Int) by omega), if_pos (show ((k - 1 : Nat) : Int) < (x3.length : Int) by omega)]
        exact hr
theorem borders_l0 (w : List Int) (hw : w.length ≤ 60) : ∀ (d i : Nat), i + d = w.length → ∀ (x3 : List Int) (k : Nat), x3.length = i → BL (gt w) x3 → (i = 0 ∧ k = 0 ∨ LB (gt w) i k) →
    ∃ r, Ev (fun kq => lyndon_borders.l0 kq w x3 (k : Int) (w.length : Int) (i : Int)) r ∧ (r.length = w.length ∧ BL (gt w) r) := by
  intro d
  induction d with
  | zero =>
    intro i hi x3 k hx hb hk
    refine ⟨x3, ?_, by omega, hb⟩
    refine Ev.step (fun k => by rw [lyndon_borders.l0]) ?_
    simp only [if_neg (show ¬ ((i : Int) < (w.length : Int)) by omega)]
    exact Ev.now _
  | succ d ih =>
    intro i hi x3 k hx hb hk
    obtain ⟨r, hr, hq⟩ := borders_l1 w hw i (by omega) x3 hx hb (fun r => r.length = w.length ∧ BL (gt w) r)
      (fun b hB => ih (i + 1) (by omega) (x3 ++ [(b : Int)]) b (by simp; omega) (hb.snoc (by rw [hx]; exact hB)) (.inr hB)) k k (Nat.le_refl _)
      (by rcases hk with hk | hk; exact .inl hk.2; exact .inr hk.1) (by rcases hk with hk | hk; rw [hk.2]; exact Bd.zero _ _; exact hk.2.1)
      (by intro m hmi hBm hem; rcases hk with hk | hk; omega; exact hk.2.2 m hmi hBm)
    refine ⟨r, ?_, hq⟩
    refine Ev.step (fun k => by rw [lyndon_borders.l0]) ?_
    simp only [if_pos (show ((i : Int) < (w.length : Int)) by omega)]
    exact hr
theorem lyndon_borders_ev (w : List Int) (hw : w.length ≤ 60) : ∃ r, Ev (fun k => lyndon_borders.f k w) r ∧ r.length = w.length ∧ BL (gt w) r :=
  borders_l0 w hw w.length 0 (by omega) [] 0 rfl (fun j hj => absurd hj (by simp)) (.inl ⟨rfl, rfl⟩)
theorem rd_zero_one (a b : List Int) : rd_L1 [a, b] 0 = a ∧ rd_L1 [a, b] 1 = b := ⟨rfl, rfl⟩
def may2 (u v : List Int) : Int := if mayS 4 u = 0 then mayS 4 v else mayS 4 u
theorem lyndon_may_ev (u v : List Int) : Ev (fun k => lyndon_may.f k [u, v]) (may2 u v) := by
  unfold lyndon_may.f may2
  refine Ev.step (fun k => by rw [lyndon_may.l0]) ?_
  simp only [List.length_cons, List.length_nil, if_pos (show ((0 : Int) < ((0 + 1 + 1 : Nat) : Int)) by decide), if_pos (show (0 : Int) ≤ 0 by decide), show rd_L1 [u, v] 0 = u from rfl]
  refine Ev.bind (word_May_ev 4 u) ?_
  by_cases h : mayS 4 u = 0
  · simp only [if_pos h]
    refine Ev.step (fun k => by rw [lyndon_may.l0]) ?_
    rw [show wrap64 (0 + 1) = 1 from w64 (by decide) (by decide)]
    simp only [List.length_cons, List.length_nil, if_pos (show ((1 : Int) < ((0 + 1 + 1 : Nat) : Int)) by decide), if_pos (show (0 : Int) ≤ 1 by decide), show rd_L1 [u, v] 1 = v from rfl]
    refine Ev.bind (word_May_ev 4 v) ?_
    by_cases h' : mayS 4 v = 0
    · simp only [if_pos h']
      refine Ev.step (fun k => by rw [lyndon_may.l0]) ?_
      rw [show wrap64 (1 + 1) = 2 from w64 (by decide) (by decide)]
      simp only [List.length_cons, List.length_nil, if_neg (show ¬ ((2 : Int) < ((0 + 1 + 1 : Nat) : Int)) by decide)]
      exact evc (Ev.now _) h'.symm
    · simp only [if_neg h']; exact Ev.now _
  · simp only [if_neg h]; exact Ev.now _
/-- the beginning of k letters of v ends the first i letters of w -/
def Mt (v w : Nat → Int) (i k : Nat) : Prop := k ≤ i ∧ ∀ j, j < k → v j = w (i - k + j)
theorem Mt.zero (v w : Nat → Int) (i : Nat) : Mt v w i 0 := ⟨Nat.zero_le _, fun j hj => absurd hj (Nat.not_lt_zero _)⟩
theorem Mt.step {v w : Nat → Int} {i k m : Nat} (h : Mt v w i k) (h' : Bd v k m) : Mt v w i m := by
  refine ⟨Nat.le_trans h'.1 h.1, fun j hj => ?_⟩
  rw [h'.2 j hj, h.2 (k - m + j) (by have := h'.1; omega)]
  congr 1; have := h.1; have := h'.1; omega
theorem Mt.down {v w : Nat → Int} {i k m : Nat} (h : Mt v w i k) (h' : Mt v w i m) (hm : m ≤ k) : Bd v k m := by
  refine ⟨hm, fun j hj => ?_⟩
  rw [h'.2 j hj, h.2 (k - m + j) (by omega)]
  congr 1; have := h.1; omega
theorem Mt.succ {v w : Nat → Int} {i k : Nat} : Mt v w (i + 1) (k + 1) ↔ Mt v w i k ∧ v k = w i := by
  constructor
  · intro h
    refine ⟨⟨by have := h.1; omega, fun j hj => ?_⟩, ?_⟩
    · rw [h.2 j (by omega)]; congr 1; omega
    · rw [h.2 k (by omega)]; congr 1; have := h.1; omega
  · intro ⟨h, e⟩
    refine ⟨by have := h.1; omega, fun j hj => ?_⟩
    by_cases hk : j = k
    · subst hk; rw [e]; congr 1; have := h.1; omega
    · rw [h.2 j (by omega)]; congr 1; omega
/-- the greatest k, at most the whole word -/
def LM (v w : Nat → Int) (n i k : Nat) : Prop := k ≤ n ∧ Mt v w i k ∧ ∀ m, m ≤ n → Mt v w i m → m ≤ k
/-- does v stand in w at p? -/
def St (v w : List Int) (p : Nat) : Bool := decide ((w.drop p).take v.length = v)
theorem St_iff (v w : List Int) (p : Nat) (h : p + v.length ≤ w.length) : St v w p = true ↔ Mt (gt v) (gt w) (p + v.length) v.length := by
  unfold St Mt
  rw [decide_eq_true_iff]
  constructor
  · intro e
    refine ⟨by omega, fun j hj => ?_⟩
    have hj' : j < ((w.drop p).take v.length).length := by rw [e]; exact hj
    have : v[j] = w[p + j]'(by omega) := by
      have h1 : v[j]? = ((w.drop p).take v.length)[j]? := by rw [e]
      rw [List.getElem?_take, if_pos hj, List.getElem?_drop, List.getElem?_eq_getElem hj, List.getElem?_eq_getElem (show p + j < w.length by omega)] at h1
      exact Option.some.inj h1
    unfold gt
    rw [List.getD_eq_getElem?_getD, List.getD_eq_getElem?_getD, List.getElem?_eq_getElem hj, List.getElem?_eq_getElem (show p + v.length - v.length + j < w.length by omega)]
    simp only [Option.getD_some, this]
    congr 1; omega
  · intro ⟨_, e⟩
    apply List.ext_getElem?
    intro j
    rw [List.getElem?_take]
    by_cases hj : j < v.length
    · rw [if_pos hj, List.getElem?_drop, List.getElem?_eq_getElem hj, List.getElem?_eq_getElem (show p + j < w.length by omega)]
      have := e j hj
      unfold gt at this
      rw [List.getD_eq_getElem?_getD, List.getD_eq_getElem?_getD, List.getElem?_eq_getElem hj, List.getElem?_eq_getElem (show p + v.length - v.length + j < w.length by omega)] at this
      simp only [Option.getD_some] at this
      rw [this]
      congr 2; omega
    · rw [if_neg hj, List.getElem?_eq_none (by omega)]
def found (v w : List Int) (n : Nat) : List Int := ((List.range n).filter (St v w)).map Int.ofNat
theorem found_succ (v w : List Int) (n : Nat) : found v w (n + 1) = if St v w n = true then found v w n ++ [(n : Int)] else found v w n := by
  unfold found
  rw [List.range_succ, List.filter_append, List.map_append]
  by_cases h : St v w n = true
  · rw [if_pos h]; simp [h]
  · rw [if_neg h]; simp [h]
theorem found_len (v w : List Int) (n : Nat) : (found v w n).length ≤ n := by
  unfold found
  rw [List.length_map]
  have := List.length_filter_le (St v w) (List.range n)
  rw [List.length_range] at this
  exact this
theorem LM_step {v w : Nat → Int} {n i k : Nat} (hk : k ≤ n) (hB : Mt v w i k) (hm : ∀ m, m < n → Mt v w i m → v m = w i → m ≤ k) (hkn : k < n) (e : v k = w i) : LM v w n (i + 1) (k + 1) := by
  refine ⟨hkn, Mt.succ.2 ⟨hB, e⟩, fun m hmn hM => ?_⟩
  cases m with
  | zero => omega
  | succ m =>
    have := Mt.succ.1 hM
    have := hm m (by omega) this.1 this.2
    omega
theorem LM_zero {v w : Nat → Int} {n i : Nat} (hm : ∀ m, m < n → Mt v w i m → v m = w i → m ≤ 0) (e : v 0 ≠ w i) : LM v w n (i + 1) 0 := by
  refine ⟨Nat.zero_le _, Mt.zero _ _ _, fun m hmn hM => ?_⟩
  cases m with
  | zero => omega
  | succ m =>
    have h := Mt.succ.1 hM
    have := hm m (by omega) h.1 h.2
    have : m = 0 := by omega
    subst this
    exact absurd h.2 e
theorem found_LM (v w : List Int) (i k : Nat) (hi : i < w.length) (hv : 0 < v.length) (h : LM (gt v) (gt w) v.length (i + 1) k) :
    found v w (i + 2 - v.length) = if k = v.length then found v w (i + 1 - v.length) ++ [((i + 1 - k : Nat) : Int)] else found v w (i + 1 - v.length) := by
  by_cases hl : v.length ≤ i + 1
  · rw [show i + 2 - v.length = (i + 1 - v.length) + 1 by omega, found_succ]
    have hs := St_iff v w (i + 1 - v.length) (by omega)
    rw [show i + 1 - v.length + v.length = i + 1 by omega] at hs
    by_cases e : k = v.length
    · rw [if_pos e, if_pos (hs.2 (e ▸ h.2.1)), e]
    · rw [if_neg e, if_neg]
      intro x
      have := h.2.2 v.length (Nat.le_refl _) (hs.1 x)
      have := h.1
      omega
  · rw [show i + 2 - v.length = i + 1 - v.length by omega, if_neg]
    intro e
    have := h.2.1.1
    omega
theorem find_j2 (w v : List Int) (hw : w.length ≤ 60) (hv : v.length ≤ 60) (hv0 : 0 < v.length) (x8 : List Int) (i : Nat) (hi : i < w.length) (Z : List Int × Int)
    (cont : ∀ k : Nat, LM (gt v) (gt w) v.length (i + 1) k → Ev (fun q => lyndon_Find.l0 q v (found v w (i + 2 - v.length)) x8 (k : Int) w (w.length : Int) ((i + 1 : Nat) : Int)) Z)
    (k : Nat) (hk : k < v.length) (hB : Mt (gt v) (gt w) i k) (hm : ∀ m, m < v.length → Mt (gt v) (gt w) i m → gt v m = gt w i → m ≤ k) (hz : k = 0 ∨ gt v k = gt w i) :
    Ev (fun q => lyndon_Find.j2 q v (found v w (i + 1 - v.length)) x8 (k : Int) (i : Int) (gt w i) w (w.length : Int) (i : Int)) Z := by
  refine Ev.step (fun k => by rw [lyndon_Find.j2]) ?_
  have hf := found_len v w (i + 1 - v.length)
  rw [show wrap64 ((i : Int) + 1) = ((i + 1 : Nat) : Int) from by rw [w64 (by omega) (by omega)]; omega, show wrap64 ((k : Int) + 1) = ((k + 1 : Nat) : Int) from by rw [w64 (by omega) (by omega)]; omega]
  simp only [rdgt, if_pos (show 0 ≤ (k : Int) by omega), if_pos (show (k : Int) < (v.length : Int) by omega), if_pos (show (found v w (i + 1 - v.length)).length < 17592186044416 by omega)]
  by_cases e : gt v k = gt w i
  · have hL := LM_step (by omega) hB hm hk e
    have c := cont (k + 1) hL
    rw [found_LM v w i (k + 1) hi hv0 hL] at c
    simp only [if_pos e]
    by_cases e1 : k + 1 = v.length
    · simp only [if_pos (show ((k + 1 : Nat) : Int) = (v.length : Int) by omega)]
      rw [if_pos e1] at c
      rw [show wrap64 (((i + 1 : Nat) : Int) - ((k + 1 : Nat) : Int)) = ((i + 1 - (k + 1) : Nat) : Int) from by have := hB.1; rw [w64 (by omega) (by omega)]; omega]
      exact c
    · simp only [if_neg (show ¬ ((k + 1 : Nat) : Int) = (v.length : Int) by omega)]
      rw [if_neg e1] at c
      exact c
  · have hk0 : k = 0 := by rcases hz with h | h; exact h; exact absurd h e
    subst hk0
    have hL := LM_zero hm e
    have c := cont 0 hL
    rw [found_LM v w i 0 hi hv0 hL, if_neg (by omega)] at c
    simp only [if_neg e, if_neg (show ¬ ((0 : Nat) : Int) = (v.length : Int) by omega)]
    exact c
theorem find_l1 (w v : List Int) (hw : w.length ≤ 60) (hv : v.length ≤ 60) (hv0 : 0 < v.length) (x8 : List Int) (hx : x8.length = v.length) (hb : BL (gt v) x8) (i : Nat) (hi : i < w.length) (Z : List Int × Int)
    (cont : ∀ k : Nat, LM (gt v) (gt w) v.length (i + 1) k → Ev (fun q => lyndon_Find.l0 q v (found v w (i + 2 - v.length)) x8 (k : Int) w (w.length : Int) ((i + 1 : Nat) : Int)) Z) :
    ∀ (d k : Nat), k ≤ d → k ≤ v.length → Mt (gt v) (gt w) i k → (∀ m, m < v.length → Mt (gt v) (gt w) i m → gt v m = gt w i → m ≤ k) →
    Ev (fun q => lyndon_Find.l1 q v (found v w (i + 1 - v.length)) x8 (k : Int) (i : Int) (gt w i) w (w.length : Int) (i : Int)) Z := by
  intro d
  induction d with
  | zero =>
    intro k hk hkv hB hm
    have : k = 0 := by omega
    subst this
    refine Ev.step (fun k => by rw [lyndon_Find.l1]) ?_
    simp only [if_neg (show ¬ (((0 : Nat) : Int) > 0) by decide)]
    exact find_j2 w v hw hv hv0 x8 i hi Z cont 0 hv0 hB hm (.inl rfl)
  | succ d ih =>
    intro k hk hkv hB hm
    by_cases hk0 : k = 0
    · exact ih k (by omega) hkv hB hm
    · obtain ⟨b, hb1, hb2⟩ := hb (k - 1) (by omega)
      rw [show k - 1 + 1 = k by omega] at hb2
      by_cases e : k < v.length ∧ gt v k = gt w i
      · refine Ev.step (fun k => by rw [lyndon_Find.l1]) ?_
        simp only [rdgt, if_pos (show ((k : Int) > 0) by omega), if_neg (show ¬ (k : Int) = (v.length : Int) by omega), if_pos (show 0 ≤ (k : Int) by omega), if_pos (show (k : Int) < (v.length : Int) by omega), if_pos e.2]
        exact find_j2 w v hw hv hv0 x8 i hi Z cont k e.1 hB hm (.inr e.2)
      · have r := ih b (by have := hb2.1; omega) (by have := hb2.1; omega) (hB.step hb2.2.1) (fun m hmi hBm hem => by
          have h1 := hm m hmi hBm hem
          have h2 : m ≠ k := fun x => e ⟨by omega, by rw [← x]; exact hem⟩
          exact hb2.2.2 m (by omega) (hB.down hBm h1))
        refine Ev.step (fun k => by rw [lyndon_Find.l1]) ?_
        rw [show wrap64 ((k : Int) - 1) = ((k - 1 : Nat) : Int) from by rw [w64 (by omega) (by omega)]; omega]
        by_cases e1 : k = v.length
        · simp only [rdgt, hb1, if_pos (show ((k : Int) > 0) by omega), if_pos (show (k : Int) = (v.length : Int) by omega), if_pos (show 0 ≤ ((k - 1 : Nat) : Int) by omega), if_pos (show ((k - 1 : Nat) : Int) < (x8.length : Int) by omega)]
          exact r
        · simp only [rdgt, hb1, if_pos (show ((k : Int) > 0) by omega), if_neg (show ¬ (k : Int) = (v.length : Int) by omega), if_pos (show 0 ≤ (k : Int) by omega), if_pos (show (k : Int) < (v.length : Int) by omega),
            if_neg (show ¬ gt v k = gt w i from fun x => e ⟨by omega, x⟩), if_pos (show 0 ≤ ((k - 1 : Nat) : Int) by omega), if_pos (show ((k - 1 : Nat) : Int) < (x8.length : Int) by omega)]
          exact r
theorem find_l0 (w v : List Int) (hw : w.length ≤ 60) (hv : v.length ≤ 60) (hv0 : 0 < v.length) (x8 : List Int) (hx : x8.length = v.length) (hb : BL (gt v) x8) :
    ∀ (d i : Nat), i + d = w.length → ∀ k : Nat, LM (gt v) (gt w) v.length i k →
      Ev (fun q => lyndon_Find.l0 q v (found v w (i + 1 - v.length)) x8 (k : Int) w (w.length : Int) (i : Int)) (found v w (w.length + 1 - v.length), 0) := by
  intro d
  induction d with
  | zero =>
    intro i hi k hk
    refine Ev.step (fun k => by rw [lyndon_Find.l0]) ?_
    simp only [if_neg (show ¬ ((i : Int) < (w.length : Int)) by omega)]
    exact evc (Ev.now _) (by rw [show i = w.length by omega])
  | succ d ih =>
    intro i hi k hk
    refine Ev.step (fun k => by rw [lyndon_Find.l0]) ?_
    simp only [rdgt, if_pos (show ((i : Int) < (w.length : Int)) by omega), if_pos (show 0 ≤ (i : Int) by omega)]
    exact find_l1 w v hw hv hv0 x8 hx hb i (by omega) _ (fun k hk => ih (i + 1) (by omega) k hk) k k (Nat.le_refl _) hk.1 hk.2.1 (fun m hm hM _ => hk.2.2 m (by omega) hM)
def findS (w v : List Int) : List Int × Int := if may2 w v = 0 then (if v.length = 0 then ([], 6) else (found v w (w.length + 1 - v.length), 0)) else ([], may2 w v)
theorem may2_ok {w v : List Int} (h : may2 w v = 0) : w.length ≤ 60 ∧ v.length ≤ 60 := by
  unfold may2 at h
  by_cases h1 : mayS 4 w = 0
  · rw [if_pos h1] at h; exact ⟨(mayS_ok h1).2.2.1, (mayS_ok h).2.2.1⟩
  · rw [if_neg h1] at h; exact absurd h h1
theorem lyndon_Find_ev (w v : List Int) : Ev (fun k => lyndon_Find.f k w v) (findS w v) := by
  unfold lyndon_Find.f findS
  refine Ev.bind (lyndon_may_ev w v) ?_
  by_cases h : may2 w v = 0
  · simp only [if_pos h]
    obtain ⟨hw, hv⟩ := may2_ok h
    by_cases h0 : v.length = 0
    · simp only [if_pos h0, if_pos (show (v.length : Int) = 0 by omega)]; exact Ev.now _
    · simp only [if_neg h0, if_neg (show ¬ (v.length : Int) = 0 by omega)]
      obtain ⟨bl, hbl, hlen, hB⟩ := lyndon_borders_ev v hv
      refine Ev.bind hbl ?_
      have := find_l0 w v hw hv (by omega) bl hlen hB w.length 0 (by omega) 0 ⟨Nat.zero_le _, Mt.zero _ _ _, fun m _ hM => hM.1⟩
      rw [show 0 + 1 - v.length = 0 by omega] at this
      exact this
  · simp only [if_neg h]; exact Ev.now _
theorem law_l0 (w v : List Int) (hw : w.length ≤ 60) (hv : v.length ≤ 60) (hv0 : 0 < v.length) (Z : List Int) (hZ : Z = found v w (w.length + 1 - v.length)) :
    ∀ (d i : Nat), (i + d = w.length + 1 - v.length) → Ev (fun k => evermorelaw_LyndonFinds.l0 k w v Z 0 (found v w i) (i : Int)) true := by
  intro d
  induction d with
  | zero =>
    intro i hi
    refine Ev.step (fun k => by rw [evermorelaw_LyndonFinds.l0]) ?_
    rw [w64 (n := (i : Int) + (v.length : Int)) (by omega) (by omega)]
    simp only [if_neg (show ¬ ((i : Int) + (v.length : Int) ≤ (w.length : Int)) by omega)]
    have hf := found_len v w (w.length + 1 - v.length)
    refine Ev.bind (evermoreref1_Words_ev _ _ (by rw [hZ]; omega)) ?_
    exact evc (Ev.now _) (by rw [hZ, show i = w.length + 1 - v.length by omega]; simp)
  | succ d ih =>
    intro i hi
    refine Ev.step (fun k => by rw [evermorelaw_LyndonFinds.l0]) ?_
    have hf := found_len v w i
    rw [w64 (n := (i : Int) + (v.length : Int)) (by omega) (by omega), show wrap64 ((i : Int) + 1) = ((i + 1 : Nat) : Int) from by rw [w64 (by omega) (by omega)]; omega]
    simp only [if_pos (show ((i : Int) + (v.length : Int) ≤ (w.length : Int)) by omega), if_pos (show 0 ≤ (i : Int) by omega), if_pos (show (i : Int) ≤ (i : Int) + (v.length : Int) by omega)]
    rw [show ((i : Int) + (v.length : Int)).toNat = i + v.length by omega, show ((i : Int)).toNat = i by omega, List.drop_take, show i + v.length - i = v.length by omega]
    refine Ev.bind (evermoreref1_Words_ev _ _ (by simp; omega)) ?_
    have := ih (i + 1) (by omega)
    rw [found_succ] at this
    simp only [if_pos (show (found v w i).length < 17592186044416 by omega)]
    by_cases h : St v w i = true
    · rw [if_pos h] at this
      unfold St at h
      simp only [if_pos h]
      exact this
    · rw [if_neg h] at this
      unfold St at h
      simp only [if_neg h]
      exact this
theorem law_j0 (w v : List Int) (e : Int) (h : e = may2 w v) : Ev (fun k => evermorelaw_LyndonFinds.j0 k w v (findS w v).1 (findS w v).2 e) true := by
  have j2 : ∀ e, e = (findS w v).2 → Ev (fun k => evermorelaw_LyndonFinds.j2 k w v (findS w v).1 (findS w v).2 e) true := by
    intro e he
    refine Ev.step (fun k => by rw [evermorelaw_LyndonFinds.j2]) ?_
    by_cases h1 : may2 w v = 0
    · obtain ⟨hw, hv⟩ := may2_ok h1
      by_cases h2 : v.length = 0
      · have s : findS w v = ([], 6) := by unfold findS; rw [if_pos h1, if_pos h2]
        rw [s] at he ⊢
        subst he
        simp only [if_neg (show ¬ (6 : Int) = 0 by decide), if_true]
        exact Ev.now _
      · have s : findS w v = (found v w (w.length + 1 - v.length), 0) := by unfold findS; rw [if_pos h1, if_neg h2]
        rw [s] at he ⊢
        subst he
        simp only [if_true]
        exact law_l0 w v hw hv (by omega) _ rfl (w.length + 1 - v.length) 0 (by omega)
    · have s : findS w v = ([], may2 w v) := by unfold findS; rw [if_neg h1]
      rw [s] at he ⊢
      subst he
      simp only [if_neg h1, if_true]
      exact Ev.now _
  refine Ev.step (fun k => by rw [evermorelaw_LyndonFinds.j0]) ?_
  by_cases h1 : may2 w v = 0
  · simp only [if_pos (show e = 0 by omega)]
    refine Ev.step (fun k => by rw [evermorelaw_LyndonFinds.j1]) ?_
    by_cases h2 : v.length = 0
    · simp only [if_pos (show (((v.length : Int) == 0) = true) by rw [beq_iff_eq]; omega)]
      exact j2 6 (by unfold findS; rw [if_pos h1, if_pos h2])
    · simp only [if_neg (show ¬ (((v.length : Int) == 0) = true) by rw [beq_iff_eq]; omega)]
      exact j2 e (by unfold findS; rw [if_pos h1, if_neg h2]; omega)
  · simp only [if_neg (show ¬ e = 0 by omega)]
    refine Ev.step (fun k => by rw [evermorelaw_LyndonFinds.j1]) ?_
    simp only [if_neg (show ¬ (false = true) by decide)]
    exact j2 e (by unfold findS; rw [if_neg h1]; exact h)
theorem LyndonFinds : evermorelaw_LyndonFinds.Pure := by
  intro w v _ _ _ _ _ _
  refine Ev.rounds ?_
  unfold evermorelaw_LyndonFinds.f
  refine Ev.bind (lyndon_Find_ev w v) ?_
  refine Ev.bind (evermoreref1_May_ev 4 w) ?_
  by_cases h : mayS 4 w = 0
  · simp only [if_pos h]
    refine Ev.bind (evermoreref1_May_ev 4 v) ?_
    exact law_j0 w v _ (by unfold may2; rw [if_pos h])
  · simp only [if_neg h]
    exact law_j0 w v _ (by unfold may2; rw [if_neg h])

end Go.Proofs.Ythbdmfhobienaaa.Pure
namespace Go.Proofs.Ythbdmfhobienaaa.PrintWords
abbrev sized_ints := @Go.Proofs.YthbdmfhobienaaaW.PrintWords.sized_ints
end Go.Proofs.Ythbdmfhobienaaa.PrintWords
