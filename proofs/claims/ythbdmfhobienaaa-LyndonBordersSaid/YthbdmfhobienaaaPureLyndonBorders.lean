/- For every word the program's borders of all beginnings and its root are the reference's. No conditions beyond the statement's. -/
import Derived.Test.YthbdmfhobienaaaPLyndonBordersx4
import Derived.Test.YthbdmfhobienaaaWSized
namespace Go.Proofs.Ythbdmfhobienaaa.Pure
open Go.RowKit Go.Proofs.Ythbdmfhobienaaa.PLyndonBorders Go.Proofs.YthbdmfhobienaaaW.PrintWords Go.Proofs.YthbdmfhobienaaaW.PrintLast Go.Proofs.YthbdmfhobienaaaW.PrintMore
set_option linter.unusedVariables false
set_option linter.unusedSimpArgs false
theorem w64 {n : Int} (h : -9223372036854775808 ≤ n) (h' : n ≤ 9223372036854775807) : wrap64 n = n := by unfold wrap64; omega
theorem rdn (l : List Int) (i : Nat) (h : i < l.length) : rd l (i : Int) = l[i] := by
  unfold rd; rw [Int.toNat_natCast, List.getD_eq_getElem?_getD, List.getElem?_eq_getElem h]; rfl
theorem rdOfn {α : Type} (d : α) (l : List α) (i : Nat) (h : i < l.length) : rdOf d l (i : Int) = l[i] := by
  unfold rdOf; rw [Int.toNat_natCast, List.getD_eq_getElem?_getD, List.getElem?_eq_getElem h]; rfl
theorem evc {α : Type} {g : Nat → Option α} {a b : α} (h : Ev g a) (e : a = b) : Ev g b := e ▸ h
theorem evermoreref1_Words_l0 (a b : List Int) (hl : a.length = b.length) (hb : a.length ≤ 9223372036854775000) : ∀ d i : Nat, i + d = a.length → Ev (fun k => evermoreref1_Words.l0 k a b (i : Int)) (decide (a.drop i = b.drop i)) := by
  intro d
  induction d with
  | zero =>
    intro i hi
    refine Ev.step (fun k => by rw [evermoreref1_Words.l0]) ?_
    simp only [if_neg (show ¬ ((i : Int) < (a.length : Int)) by omega)]
    rw [List.drop_of_length_le (by omega), List.drop_of_length_le (by omega)]
    simpa using Ev.now true
  | succ d ih =>
    intro i hi
    refine Ev.step (fun k => by rw [evermoreref1_Words.l0]) ?_
    have h1 : i < a.length := by omega
    have h2 : i < b.length := by omega
    simp only [if_pos (show ((i : Int) < (a.length : Int)) by omega), if_pos (show (0 ≤ (i : Int)) by omega), if_pos (show ((i : Int) < (b.length : Int)) by omega), rdn a i h1, rdn b i h2]
    rw [List.drop_eq_getElem_cons h1, List.drop_eq_getElem_cons h2]
    by_cases e : a[i] = b[i]
    · simp only [if_pos e]
      have := ih (i + 1) (by omega)
      rw [show wrap64 ((i : Int) + 1) = ((i + 1 : Nat) : Int) from by rw [w64 (by omega) (by omega)]; omega]
      exact evc this (by simp only [List.cons.injEq, e, true_and])
    · simp only [if_neg e]
      exact evc (Ev.now false) (by simp only [List.cons.injEq, e, false_and, decide_false])
theorem evermoreref1_Words_ev (a b : List Int) (hb : a.length ≤ 9223372036854775000) : Ev (fun k => evermoreref1_Words.f k a b) (decide (a = b)) := by
  unfold evermoreref1_Words.f
  by_cases h : a.length = b.length
  · simp only [if_pos (show ((a.length : Int) = (b.length : Int)) by omega)]
    exact evermoreref1_Words_l0 a b h hb a.length 0 (by omega)
  · simp only [if_neg (show ¬ ((a.length : Int) = (b.length : Int)) by omega)]
    have : a ≠ b := fun e => h (by rw [e])
    simpa [this] using Ev.now false
def okB (n : Int) (l : List Int) : Bool := l.all (fun a => decide (0 ≤ a) && decide (a < n))
theorem okB_cons (n a : Int) (l : List Int) : okB n (a :: l) = (decide (0 ≤ a) && decide (a < n) && okB n l) := rfl
def mayS (n : Int) (l : List Int) : Int := if n < 1 ∨ n > 4 then 2 else if l.length > 60 then 1 else if okB n l = true then 0 else 2
theorem mayS_ok {n : Int} {l : List Int} (h : mayS n l = 0) : 1 ≤ n ∧ n ≤ 4 ∧ l.length ≤ 60 ∧ ∀ a ∈ l, 0 ≤ a ∧ a < n := by
  unfold mayS at h
  by_cases h1 : n < 1 ∨ n > 4
  · rw [if_pos h1] at h; omega
  · rw [if_neg h1] at h
    by_cases h2 : l.length > 60
    · rw [if_pos h2] at h; omega
    · rw [if_neg h2] at h
      by_cases h3 : okB n l = true
      · refine ⟨by omega, by omega, by omega, ?_⟩
        simpa [okB] using h3
      · rw [if_neg h3] at h; omega
theorem evermoreref1_May_l0 (n : Int) (l : List Int) (hl : l.length ≤ 60) : ∀ d i : Nat, i + d = l.length → Ev (fun k => evermoreref1_May.l0 k n l (i : Int)) (if okB n (l.drop i) = true then 0 else 2) := by
  intro d
  induction d with
  | zero =>
    intro i hi
    refine Ev.step (fun k => by rw [evermoreref1_May.l0]) ?_
    simp only [if_neg (show ¬ ((i : Int) < (l.length : Int)) by omega)]
    rw [List.drop_of_length_le (by omega)]
    exact Ev.now _
  | succ d ih =>
    intro i hi
    refine Ev.step (fun k => by rw [evermoreref1_May.l0]) ?_
    have h1 : i < l.length := by omega
    simp only [if_pos (show ((i : Int) < (l.length : Int)) by omega), if_pos (show (0 ≤ (i : Int)) by omega), rdn l i h1]
    rw [List.drop_eq_getElem_cons h1]
    have := ih (i + 1) (by omega)
    rw [show wrap64 ((i : Int) + 1) = ((i + 1 : Nat) : Int) from by rw [w64 (by omega) (by omega)]; omega]
    by_cases e : l[i] < 0
    · simp only [if_pos e]
      exact evc (Ev.now 2) (by rw [okB_cons, decide_eq_false (show ¬ (0 ≤ l[i]) by omega)]; rfl)
    · simp only [if_neg e]
      by_cases e' : l[i] ≥ n
      · simp only [if_pos e']
        exact evc (Ev.now 2) (by rw [okB_cons, decide_eq_false (show ¬ (l[i] < n) by omega), Bool.and_false]; rfl)
      · simp only [if_neg e']
        exact evc this (by rw [okB_cons, decide_eq_true (show (0 ≤ l[i]) by omega), decide_eq_true (show (l[i] < n) by omega), Bool.true_and, Bool.true_and])
theorem evermoreref1_May_ev (n : Int) (l : List Int) : Ev (fun k => evermoreref1_May.f k n l) (mayS n l) := by
  have key : ∀ b : Bool, (b = true ↔ (n < 1 ∨ n > 4)) → Ev (fun k => evermoreref1_May.j0 k n l b) (mayS n l) := by
    intro b hb
    refine Ev.step (fun k => by rw [evermoreref1_May.j0]) ?_
    unfold mayS
    by_cases h : b = true
    · simp only [if_pos h, if_pos (hb.1 h)]; exact Ev.now _
    · simp only [if_neg h, if_neg (fun x => h (hb.2 x))]
      by_cases h2 : l.length > 60
      · simp only [if_pos h2, if_pos (show (l.length : Int) > 60 by omega)]; exact Ev.now _
      · simp only [if_neg h2, if_neg (show ¬ (l.length : Int) > 60 by omega)]
        exact evermoreref1_May_l0 n l (by omega) l.length 0 (by omega)
  unfold evermoreref1_May.f
  by_cases h : n < 1
  · simp only [if_pos h]; exact key true (by simp; omega)
  · simp only [if_neg h]; exact key _ (by simp; omega)
theorem word_May_l0 (n : Int) (l : List Int) (hl : l.length ≤ 60) : ∀ d i : Nat, i + d = l.length → Ev (fun k => word_May.l0 k n l (l.length : Int) (i : Int)) (if okB n (l.drop i) = true then 0 else 2) := by
  intro d
  induction d with
  | zero =>
    intro i hi
    refine Ev.step (fun k => by rw [word_May.l0]) ?_
    simp only [if_neg (show ¬ ((i : Int) < (l.length : Int)) by omega)]
    rw [List.drop_of_length_le (by omega)]
    exact Ev.now _
  | succ d ih =>
    intro i hi
    refine Ev.step (fun k => by rw [word_May.l0]) ?_
    have h1 : i < l.length := by omega
    simp only [if_pos (show ((i : Int) < (l.length : Int)) by omega), if_pos (show (0 ≤ (i : Int)) by omega), rdn l i h1]
    rw [List.drop_eq_getElem_cons h1]
    have := ih (i + 1) (by omega)
    rw [show wrap64 ((i : Int) + 1) = ((i + 1 : Nat) : Int) from by rw [w64 (by omega) (by omega)]; omega]
    by_cases e : l[i] < 0
    · simp only [if_pos e]
      exact evc (Ev.now 2) (by rw [okB_cons, decide_eq_false (show ¬ (0 ≤ l[i]) by omega)]; rfl)
    · simp only [if_neg e]
      by_cases e' : l[i] ≥ n
      · simp only [if_pos e']
        exact evc (Ev.now 2) (by rw [okB_cons, decide_eq_false (show ¬ (l[i] < n) by omega), Bool.and_false]; rfl)
      · simp only [if_neg e']
        exact evc this (by rw [okB_cons, decide_eq_true (show (0 ≤ l[i]) by omega), decide_eq_true (show (l[i] < n) by omega), Bool.true_and, Bool.true_and])
theorem word_May_ev (n : Int) (l : List Int) : Ev (fun k => word_May.f k n l) (mayS n l) := by
  have key : ∀ b : Bool, (b = true ↔ (n < 1 ∨ n > 4)) → Ev (fun k => word_May.j0 k n l b) (mayS n l) := by
    intro b hb
    refine Ev.step (fun k => by rw [word_May.j0]) ?_
    unfold mayS
    by_cases h : b = true
    · simp only [if_pos h, if_pos (hb.1 h)]; exact Ev.now _
    · simp only [if_neg h, if_neg (fun x => h (hb.2 x))]
      by_cases h2 : l.length > 60
      · simp only [if_pos h2, if_pos (show (l.length : Int) > 60 by omega)]; exact Ev.now _
      · simp only [if_neg h2, if_neg (show ¬ (l.length : Int) > 60 by omega)]
        exact word_May_l0 n l (by omega) l.length 0 (by omega)
  unfold word_May.f
  by_cases h : n < 1
  · simp only [if_pos h]; exact key true (by simp; omega)
  · simp only [if_neg h]; exact key _ (by simp; omega)
/-! borders of beginnings -/
theorem rdg (l : List Int) (n : Nat) : rd l (n : Int) = l.getD n 0 := by unfold rd; rw [Int.toNat_natCast]
def gt (l : List Int) (n : Nat) : Int := l.getD n 0
theorem rdgt (l : List Int) (n : Nat) : rd l (n : Int) = gt l n := rdg l n
theorem gt_append_left (l r : List Int) (n : Nat) (h : n < l.length) : gt (l ++ r) n = gt l n := by
  unfold gt; simp [List.getD_eq_getElem?_getD, List.getElem?_append_left h]
theorem gt_append_at (l : List Int) (x : Int) (n : Nat) (h : n = l.length) : gt (l ++ [x]) n = x := by
  subst h; unfold gt; simp [List.getD_eq_getElem?_getD]
/-- the beginning of k letters ends the beginning of n letters -/
def Bd (g : Nat → Int) (n k : Nat) : Prop := k ≤ n ∧ ∀ j, j < k → g j = g (n - k + j)
theorem Bd.trans {g : Nat → Int} {n k m : Nat} (h : Bd g n k) (h' : Bd g k m) : Bd g n m := by
  refine ⟨Nat.le_trans h'.1 h.1, fun j hj => ?_⟩
  rw [h'.2 j hj, h.2 (k - m + j) (by have := h'.1; omega)]
  congr 1; have := h.1; have := h'.1; omega
theorem Bd.down {g : Nat → Int} {n k m : Nat} (h : Bd g n k) (h' : Bd g n m) (hm : m ≤ k) : Bd g k m := by
  refine ⟨hm, fun j hj => ?_⟩
  rw [h'.2 j hj, h.2 (k - m + j) (by omega)]
  congr 1; have := h.1; omega
theorem Bd.zero (g : Nat → Int) (n : Nat) : Bd g n 0 := ⟨Nat.zero_le _, fun j hj => absurd hj (Nat.not_lt_zero _)⟩
theorem Bd.succ {g : Nat → Int} {n k : Nat} : Bd g (n + 1) (k + 1) ↔ Bd g n k ∧ g k = g n := by
  constructor
  · intro h
    refine ⟨⟨by have := h.1; omega, fun j hj => ?_⟩, ?_⟩
    · rw [h.2 j (by omega)]; congr 1; omega
    · rw [h.2 k (by omega)]; congr 1; have := h.1; omega
  · intro ⟨h, e⟩
    refine ⟨by have := h.1; omega, fun j hj => ?_⟩
    by_cases hk : j = k
    · subst hk; rw [e]; congr 1; have := h.1; omega
    · rw [h.2 j (by omega)]; congr 1; omega
/-- the longest border of the beginning of n letters, with less letters -/
def LB (g : Nat → Int) (n k : Nat) : Prop := k < n ∧ Bd g n k ∧ ∀ m, m < n → Bd g n m → m ≤ k
theorem LB.uniq {g : Nat → Int} {n k m : Nat} (h : LB g n k) (h' : LB g n m) : k = m := Nat.le_antisymm (h'.2.2 k h.1 h.2.1) (h.2.2 m h'.1 h'.2.1)
/-- a row of longest borders -/
def BL (g : Nat → Int) (l : List Int) : Prop := ∀ j, j < l.length → ∃ b : Nat, gt l j = (b : Int) ∧ LB g (j + 1) b
theorem BL.snoc {g : Nat → Int} {l : List Int} {b : Nat} (h : BL g l) (hb : LB g (l.length + 1) b) : BL g (l ++ [(b : Int)]) := by
  intro j hj
  by_cases e : j < l.length
  · rw [gt_append_left _ _ _ e]; exact h j e
  · have : j = l.length := by simp at hj; omega
    subst this
    exact ⟨b, gt_append_at _ _ _ rfl, hb⟩
theorem borders_l1 (w : List Int) (hw : w.length ≤ 60) (i : Nat) (hi : i < w.length) (x3 : List Int) (hx : x3.length = i) (hb : BL (gt w) x3) (Q : List Int → Prop)
    (cont : ∀ b : Nat, LB (gt w) (i + 1) b → ∃ r, Ev (fun k => lyndon_borders.l0 k w (x3 ++ [(b : Int)]) (b : Int) (w.length : Int) ((i + 1 : Nat) : Int)) r ∧ Q r) :
    ∀ (d k : Nat), k ≤ d → (k = 0 ∨ k < i) → Bd (gt w) i k → (∀ m, m < i → Bd (gt w) i m → gt w m = gt w i → m ≤ k) →
      ∃ r, Ev (fun kq => lyndon_borders.l1 kq w x3 (k : Int) (i : Int) (w.length : Int) (i : Int)) r ∧ Q r := by
  have fin : ∀ k : Nat, i > 0 → k < i → Bd (gt w) i k → (∀ m, m < i → Bd (gt w) i m → gt w m = gt w i → m ≤ k) → gt w i = gt w k → LB (gt w) (i + 1) (k + 1) := by
    intro k h0 hk hB hm e
    refine ⟨by omega, Bd.succ.2 ⟨hB, e.symm⟩, fun m hmi hBm => ?_⟩
    cases m with
    | zero => omega
    | succ m =>
      have := Bd.succ.1 hBm
      have := hm m (by omega) this.1 this.2
      omega
  have fin0 : (i = 0 ∨ (∀ m, m < i → Bd (gt w) i m → gt w m = gt w i → m ≤ 0) ∧ gt w i ≠ gt w 0) → LB (gt w) (i + 1) 0 := by
    intro h
    refine ⟨by omega, Bd.zero _ _, fun m hmi hBm => ?_⟩
    cases m with
    | zero => omega
    | succ m =>
      rcases h with h | ⟨h, e⟩
      · omega
      · have hs := Bd.succ.1 hBm
        have := h m (by omega) hs.1 hs.2
        have : m = 0 := by omega
        subst this
        exact absurd hs.2.symm e
  intro d
  induction d with
  | zero =>
    intro k hk hki hB hm
    have : k = 0 := by omega
    subst this
    by_cases h0 : i = 0
    · obtain ⟨r, hr, hq⟩ := cont 0 (fin0 (.inl h0))
      refine ⟨r, ?_, hq⟩
      refine Ev.step (fun k => by rw [lyndon_borders.l1]) ?_
      rw [show wrap64 ((i : Int) + 1) = ((i + 1 : Nat) : Int) from by rw [w64 (by omega) (by omega)]; omega]
      simp only [if_neg (show ¬ ((i : Int) > 0) by omega), if_pos (show x3.length < 17592186044416 by omega)]
      exact hr
    · by_cases e : gt w i = gt w 0
      · obtain ⟨r, hr, hq⟩ := cont 1 (fin 0 (by omega) (by omega) hB hm e)
        refine ⟨r, ?_, hq⟩
        refine Ev.step (fun k => by rw [lyndon_borders.l1]) ?_
        rw [show wrap64 ((i : Int) + 1) = ((i + 1 : Nat) : Int) from by rw [w64 (by omega) (by omega)]; omega, show wrap64 (((0 : Nat) : Int) + 1) = ((1 : Nat) : Int) from w64 (by decide) (by decide)]
        simp only [rdgt, if_pos (show ((i : Int) > 0) by omega), if_neg (show ¬ (((0 : Nat) : Int) > 0) by decide), if_pos (show 0 ≤ (i : Int) by omega), if_pos (show (i : Int) < (w.length : Int) by omega), if_pos (show 0 ≤ ((0 : Nat) : Int) by decide),
          if_pos (show ((0 : Nat) : Int) < (w.length : Int) by omega), if_pos e, if_pos (show x3.length < 17592186044416 by omega)]
        exact hr
      · obtain ⟨r, hr, hq⟩ := cont 0 (fin0 (.inr ⟨hm, e⟩))
        refine ⟨r, ?_, hq⟩
        refine Ev.step (fun k => by rw [lyndon_borders.l1]) ?_
        rw [show wrap64 ((i : Int) + 1) = ((i + 1 : Nat) : Int) from by rw [w64 (by omega) (by omega)]; omega]
        simp only [rdgt, if_pos (show ((i : Int) > 0) by omega), if_neg (show ¬ (((0 : Nat) : Int) > 0) by decide), if_pos (show 0 ≤ (i : Int) by omega), if_pos (show (i : Int) < (w.length : Int) by omega), if_pos (show 0 ≤ ((0 : Nat) : Int) by decide),
          if_pos (show ((0 : Nat) : Int) < (w.length : Int) by omega), if_neg e, if_pos (show x3.length < 17592186044416 by omega)]
        exact hr
  | succ d ih =>
    intro k hk hki hB hm
    by_cases hk0 : k = 0
    · exact ih k (by omega) hki hB hm
    · have hk1 : k < i := by omega
      by_cases e : gt w i = gt w k
      · obtain ⟨r, hr, hq⟩ := cont (k + 1) (fin k (by omega) hk1 hB hm e)
        refine ⟨r, ?_, hq⟩
        refine Ev.step (fun k => by rw [lyndon_borders.l1]) ?_
        rw [show wrap64 ((i : Int) + 1) = ((i + 1 : Nat) : Int) from by rw [w64 (by omega) (by omega)]; omega, show wrap64 ((k : Int) + 1) = ((k + 1 : Nat) : Int) from by rw [w64 (by omega) (by omega)]; omega]
        simp only [rdgt, if_pos (show ((i : Int) > 0) by omega), if_pos (show ((k : Int) > 0) by omega), if_pos (show 0 ≤ (i : Int) by omega), if_pos (show (i : Int) < (w.length : Int) by omega), if_pos (show 0 ≤ (k : Int) by omega),
          if_pos (show (k : Int) < (w.length : Int) by omega), if_pos e, if_pos (show x3.length < 17592186044416 by omega)]
        exact hr
      · obtain ⟨b, hb1, hb2⟩ := hb (k - 1) (by omega)
        rw [show k - 1 + 1 = k by omega] at hb2
        obtain ⟨r, hr, hq⟩ := ih b (by have := hb2.1; omega) (by have := hb2.1; omega) (hB.trans hb2.2.1) (fun m hmi hBm hem => by
          have h1 := hm m hmi hBm hem
          have h2 : m ≠ k := fun x => e (by rw [← x]; exact hem.symm)
          exact hb2.2.2 m (by omega) (hB.down hBm h1))
        refine ⟨r, ?_, hq⟩
        refine Ev.step (fun k => by rw [lyndon_borders.l1]) ?_
        rw [show wrap64 ((k : Int) - 1) = ((k - 1 : Nat) : Int) from by rw [w64 (by omega) (by omega)]; omega]
        simp only [rdgt, hb1, if_pos (show ((i : Int) > 0) by omega), if_pos (show ((k : Int) > 0) by omega), if_pos (show 0 ≤ (i : Int) by omega), if_pos (show (i : Int) < (w.length : Int) by omega), if_pos (show 0 ≤ (k : Int) by omega),
          if_pos (show (k : Int) < (w.length : Int) by omega), if_neg e, if_pos (show 0 ≤ ((k - 1 : Nat) : Int) by omega), if_pos (show ((k - 1 : Nat) : Int) < (x3.length : Int) by omega)]
        exact hr
theorem borders_l0 (w : List Int) (hw : w.length ≤ 60) : ∀ (d i : Nat), i + d = w.length → ∀ (x3 : List Int) (k : Nat), x3.length = i → BL (gt w) x3 → (i = 0 ∧ k = 0 ∨ LB (gt w) i k) →
    ∃ r, Ev (fun kq => lyndon_borders.l0 kq w x3 (k : Int) (w.length : Int) (i : Int)) r ∧ (r.length = w.length ∧ BL (gt w) r) := by
  intro d
  induction d with
  | zero =>
    intro i hi x3 k hx hb hk
    refine ⟨x3, ?_, by omega, hb⟩
    refine Ev.step (fun k => by rw [lyndon_borders.l0]) ?_
    simp only [if_neg (show ¬ ((i : Int) < (w.length : Int)) by omega)]
    exact Ev.now _
  | succ d ih =>
    intro i hi x3 k hx hb hk
    obtain ⟨r, hr, hq⟩ := borders_l1 w hw i (by omega) x3 hx hb (fun r => r.length = w.length ∧ BL (gt w) r)
      (fun b hB => ih (i + 1) (by omega) (x3 ++ [(b : Int)]) b (by simp; omega) (hb.snoc (by rw [hx]; exact hB)) (.inr hB)) k k (Nat.le_refl _)
      (by rcases hk with hk | hk; exact .inl hk.2; exact .inr hk.1) (by rcases hk with hk | hk; rw [hk.2]; exact Bd.zero _ _; exact hk.2.1)
      (by intro m hmi hBm hem; rcases hk with hk | hk; omega; exact hk.2.2 m hmi hBm)
    refine ⟨r, ?_, hq⟩
    refine Ev.step (fun k => by rw [lyndon_borders.l0]) ?_
    simp only [if_pos (show ((i : Int) < (w.length : Int)) by omega)]
    exact hr
theorem lyndon_borders_ev (w : List Int) (hw : w.length ≤ 60) : ∃ r, Ev (fun k => lyndon_borders.f k w) r ∧ r.length = w.length ∧ BL (gt w) r :=
  borders_l0 w hw w.length 0 (by omega) [] 0 rfl (fun j hj => absurd hj (by simp)) (.inl ⟨rfl, rfl⟩)
theorem lyndon_may1_ev (u : List Int) : Ev (fun k => lyndon_may.f k [u]) (mayS 4 u) := by
  unfold lyndon_may.f
  refine Ev.step (fun k => by rw [lyndon_may.l0]) ?_
  simp only [List.length_cons, List.length_nil, if_pos (show ((0 : Int) < ((0 + 1 : Nat) : Int)) by decide), if_pos (show (0 : Int) ≤ 0 by decide), show rd_L1 [u] 0 = u from rfl]
  refine Ev.bind (word_May_ev 4 u) ?_
  by_cases h : mayS 4 u = 0
  · simp only [if_pos h]
    refine Ev.step (fun k => by rw [lyndon_may.l0]) ?_
    rw [show wrap64 (0 + 1) = 1 from w64 (by decide) (by decide)]
    simp only [List.length_cons, List.length_nil, if_neg (show ¬ ((1 : Int) < ((0 + 1 : Nat) : Int)) by decide)]
    exact evc (Ev.now _) h.symm
  · simp only [if_neg h]; exact Ev.now _
theorem getD_take (w : List Int) (n j : Nat) (h : j < n) : (w.take n).getD j 0 = w.getD j 0 := by
  rw [List.getD_eq_getElem?_getD, List.getD_eq_getElem?_getD, List.getElem?_take, if_pos h]
theorem eq_of_gt {a b : List Int} (h : a.length = b.length) (hg : ∀ j, j < a.length → gt a j = gt b j) : a = b := by
  apply List.ext_getElem h
  intro j h1 h2
  have := hg j h1
  unfold gt at this
  rw [List.getD_eq_getElem?_getD, List.getD_eq_getElem?_getD, List.getElem?_eq_getElem h1, List.getElem?_eq_getElem h2] at this
  exact this
theorem gt_take (w : List Int) (n j : Nat) (h : j < n) : gt (w.take n) j = gt w j := getD_take w n j h
theorem gt_drop (w : List Int) (n j : Nat) : gt (w.drop n) j = gt w (n + j) := by
  unfold gt; rw [List.getD_eq_getElem?_getD, List.getD_eq_getElem?_getD, List.getElem?_drop]
theorem bd_take (w : List Int) (n k : Nat) (hn : n ≤ w.length) (hk : k ≤ n) : ((w.take n).take k = (w.take n).drop (n - k)) ↔ Bd (gt w) n k := by
  have hl : (w.take n).length = n := by rw [List.length_take]; omega
  constructor
  · intro e
    refine ⟨hk, fun j hj => ?_⟩
    have : gt ((w.take n).take k) j = gt ((w.take n).drop (n - k)) j := by rw [e]
    rw [gt_take _ _ _ hj, gt_take _ _ _ (by omega), gt_drop, gt_take _ _ _ (by omega)] at this
    exact this
  · intro ⟨_, e⟩
    refine eq_of_gt (by rw [List.length_take, List.length_drop, hl]; omega) (fun j hj => ?_)
    rw [List.length_take, hl] at hj
    rw [gt_take _ _ _ (by omega), gt_take _ _ _ (by omega), gt_drop, gt_take _ _ _ (by omega)]
    exact e j (by omega)
theorem border_l0 (w : List Int) (hw : w.length ≤ 60) (n : Nat) (hn : n ≤ w.length) (b : Nat) (hb : LB (gt w) n b) : ∀ k : Nat, b ≤ k → k < n → Ev (fun q => evermoreref31_Border.l0 q (w.take n) (k : Int)) (b : Int) := by
  have hl : (w.take n).length = n := by rw [List.length_take]; omega
  intro k
  induction k with
  | zero =>
    intro h1 h2
    refine Ev.step (fun k => by rw [evermoreref31_Border.l0]) ?_
    simp only [if_neg (show ¬ (((0 : Nat) : Int) > 0) by decide)]
    exact evc (Ev.now _) (by omega)
  | succ k ih =>
    intro h1 h2
    refine Ev.step (fun k => by rw [evermoreref31_Border.l0]) ?_
    rw [hl, w64 (n := (n : Int) - ((k + 1 : Nat) : Int)) (by omega) (by omega), show wrap64 (((k + 1 : Nat) : Int) - 1) = (k : Int) from by rw [w64 (by omega) (by omega)]; omega]
    simp only [if_pos (show ((k + 1 : Nat) : Int) > 0 by omega), if_pos (show 0 ≤ ((k + 1 : Nat) : Int) by omega), if_pos (show ((k + 1 : Nat) : Int) ≤ (n : Int) by omega), if_pos (show 0 ≤ (n : Int) - ((k + 1 : Nat) : Int) by omega), if_pos (show (n : Int) - ((k + 1 : Nat) : Int) ≤ (n : Int) by omega)]
    rw [show ((k + 1 : Nat) : Int).toNat = k + 1 from rfl, show ((n : Int) - ((k + 1 : Nat) : Int)).toNat = n - (k + 1) by omega]
    refine Ev.bind (evermoreref1_Words_ev _ _ (by rw [List.length_take, hl]; omega)) ?_
    by_cases hB : Bd (gt w) n (k + 1)
    · have e := (bd_take w n (k + 1) hn (by omega)).2 hB
      have : b = k + 1 := Nat.le_antisymm h1 (hb.2.2 _ h2 hB)
      simp only [decide_eq_true e, if_true]
      exact evc (Ev.now _) (by rw [this])
    · have e : ¬ _ := fun x => hB ((bd_take w n (k + 1) hn (by omega)).1 x)
      simp only [decide_eq_false e, if_neg (show ¬ (false = true) by decide)]
      refine ih ?_ (by omega)
      have : b ≠ k + 1 := fun x => hB (x ▸ hb.2.1)
      omega
theorem border_ev (w : List Int) (hw : w.length ≤ 60) (n : Nat) (hn : n ≤ w.length) (b : Nat) (hb : LB (gt w) n b) : Ev (fun q => evermoreref31_Border.f q (w.take n)) (b : Int) := by
  have hl : (w.take n).length = n := by rw [List.length_take]; omega
  unfold evermoreref31_Border.f
  have := hb.1
  rw [hl, show wrap64 ((n : Int) - 1) = ((n - 1 : Nat) : Int) from by rw [w64 (by omega) (by omega)]; omega]
  exact border_l0 w hw n hn b hb (n - 1) (by omega) (by omega)
/-! periods -/
def Per (g : Nat → Int) (n p : Nat) : Prop := ∀ i, i + p < n → g i = g (i + p)
theorem per_bd {g : Nat → Int} {n k : Nat} (hk : k ≤ n) : Bd g n k ↔ Per g n (n - k) := by
  constructor
  · intro ⟨_, h⟩ i hi
    rw [h i (by omega)]; congr 1; omega
  · intro h
    refine ⟨hk, fun j hj => ?_⟩
    rw [h j (by omega)]; congr 1; omega
theorem per_sub {g : Nat → Int} {n p q : Nat} (hp : Per g n p) (hq : Per g n q) (hpq : p ≤ q) (hn : p + q ≤ n) : Per g n (q - p) := by
  intro i hi
  by_cases h : p ≤ i
  · have h1 := hp (i - p) (by omega)
    have h2 := hq (i - p) (by omega)
    rw [show i - p + p = i by omega] at h1
    rw [← h1, h2]; congr 1; omega
  · have h1 := hq i (by omega)
    have h2 := hp (i + (q - p)) (by omega)
    rw [h1, h2]; congr 1; omega
theorem per_dvd {g : Nat → Int} {n p : Nat} (hp : Per g n p) (hp1 : 1 ≤ p) (hmin : ∀ q, 1 ≤ q → q ≤ n → Per g n q → p ≤ q) : ∀ q, 1 ≤ q → p + q ≤ n → Per g n q → p ∣ q := by
  intro q
  induction q using Nat.strongRecOn with
  | _ q ih =>
    intro h1 h2 hq
    have hle := hmin q h1 (by omega) hq
    by_cases e : q = p
    · rw [e]; exact Nat.dvd_refl _
    · have := ih (q - p) (by omega) (by omega) (by omega) (per_sub hp hq hle h2)
      have h3 := Nat.dvd_add this (Nat.dvd_refl p)
      rwa [show q - p + p = q by omega] at h3
def Rt (g : Nat → Int) (n d : Nat) : Prop := n % d = 0 ∧ ∀ i, i < n → g i = g (i % d)
theorem rt_per {g : Nat → Int} {n d : Nat} (hd : 1 ≤ d) (h : n % d = 0) : Rt g n d ↔ Per g n d := by
  constructor
  · rintro ⟨_, h3⟩ i hi
    rw [h3 i (by omega), h3 (i + d) hi, Nat.add_mod_right]
  · intro h'
    refine ⟨h, fun i => ?_⟩
    induction i using Nat.strongRecOn with
    | _ i ih =>
      intro hi
      by_cases e : i < d
      · rw [Nat.mod_eq_of_lt e]
      · have h1 := h' (i - d) (by omega)
        rw [show i - d + d = i by omega] at h1
        rw [← h1, ih (i - d) (by omega) (by omega), Nat.mod_eq_sub_mod (by omega : d ≤ i)]
/-- the least root, by the longest border -/
def rootS (n b : Nat) : Nat := if n % (n - b) = 0 then n - b else n
theorem rootS_rt {g : Nat → Int} {n b : Nat} (h : LB g n b) : 1 ≤ rootS n b ∧ rootS n b ≤ n ∧ Rt g n (rootS n b) ∧ ∀ d, 1 ≤ d → d < rootS n b → ¬ Rt g n d := by
  have hlt := h.1
  have hp := (per_bd (Nat.le_of_lt hlt)).1 h.2.1
  have hmin : ∀ q, 1 ≤ q → q ≤ n → Per g n q → n - b ≤ q := by
    intro q h1 h2 hq
    have := h.2.2 (n - q) (by omega) ((per_bd (by omega)).2 (by rw [show n - (n - q) = q by omega]; exact hq))
    omega
  unfold rootS
  by_cases e : n % (n - b) = 0
  · rw [if_pos e]
    refine ⟨by omega, by omega, (rt_per (by omega) e).2 hp, fun d h1 h2 hd => ?_⟩
    have := hmin d h1 (by omega) ((rt_per h1 hd.1).1 hd)
    omega
  · rw [if_neg e]
    refine ⟨by omega, Nat.le_refl _, (rt_per (by omega) (Nat.mod_self n)).2 (fun i hi => by omega), fun d h1 h2 hd => ?_⟩
    have hdp := (rt_per h1 hd.1).1 hd
    have hle := hmin d h1 (by omega) hdp
    obtain ⟨c, hc⟩ := Nat.dvd_of_mod_eq_zero hd.1
    have hc2 : 2 ≤ c := by
      rcases Nat.lt_or_ge c 2 with h | h
      · have : c = 0 ∨ c = 1 := by omega
        rcases this with rfl | rfl
        · omega
        · omega
      · exact h
    have : d * 2 ≤ n := by rw [hc]; exact Nat.mul_le_mul_left _ hc2
    have h3 := per_dvd hp (by omega) hmin d h1 (by omega) hdp
    exact e (Nat.mod_eq_zero_of_dvd (Nat.dvd_trans h3 (Nat.dvd_of_mod_eq_zero hd.1)))
theorem whole_l0 (w u : List Int) (hw : w.length ≤ 60) (hu : 0 < u.length) : ∀ d i : Nat, i + d = w.length → ∃ r, Ev (fun k => evermoreref31_Whole.l0 k w u (i : Int)) r ∧ (r = true ↔ ∀ j, i ≤ j → j < w.length → gt w j = gt u (j % u.length)) := by
  intro d
  induction d with
  | zero =>
    intro i hi
    refine ⟨true, ?_, ⟨fun _ j h1 h2 => by omega, fun _ => rfl⟩⟩
    refine Ev.step (fun k => by rw [evermoreref31_Whole.l0]) ?_
    simp only [if_neg (show ¬ ((i : Int) < (w.length : Int)) by omega)]
    exact Ev.now _
  | succ d ih =>
    intro i hi
    obtain ⟨r, hr, hiff⟩ := ih (i + 1) (by omega)
    have em : Int.tmod (i : Int) (u.length : Int) = ((i % u.length : Nat) : Int) := by rw [Int.tmod_eq_emod_of_nonneg (by omega)]; exact (Int.natCast_emod _ _).symm
    have hm := Nat.mod_lt i hu
    by_cases e : gt w i = gt u (i % u.length)
    · refine ⟨r, ?_, ?_⟩
      · refine Ev.step (fun k => by rw [evermoreref31_Whole.l0]) ?_
        rw [show wrap64 ((i : Int) + 1) = ((i + 1 : Nat) : Int) from by rw [w64 (by omega) (by omega)]; omega]
        simp only [em, rdgt, if_pos (show (i : Int) < (w.length : Int) by omega), if_pos (show 0 ≤ (i : Int) by omega), if_neg (show ¬ (u.length : Int) = 0 by omega), if_pos (show 0 ≤ ((i % u.length : Nat) : Int) from Int.natCast_nonneg _), if_pos (show ((i % u.length : Nat) : Int) < (u.length : Int) from Int.ofNat_lt.2 hm), if_pos e]
        exact hr
      · rw [hiff]
        constructor
        · intro h j h1 h2
          by_cases ej : j = i
          · rw [ej]; exact e
          · exact h j (by omega) h2
        · intro h j h1 h2; exact h j (by omega) h2
    · refine ⟨false, ?_, ⟨(fun h => by cases h), fun h => absurd (h i (Nat.le_refl _) (by omega)) e⟩⟩
      refine Ev.step (fun k => by rw [evermoreref31_Whole.l0]) ?_
      simp only [em, rdgt, if_pos (show (i : Int) < (w.length : Int) by omega), if_pos (show 0 ≤ (i : Int) by omega), if_neg (show ¬ (u.length : Int) = 0 by omega), if_pos (show 0 ≤ ((i % u.length : Nat) : Int) from Int.natCast_nonneg _), if_pos (show ((i % u.length : Nat) : Int) < (u.length : Int) from Int.ofNat_lt.2 hm), if_neg e]
      exact Ev.now _
theorem whole_ev (w : List Int) (hw : w.length ≤ 60) (d : Nat) (hd : 1 ≤ d) (hdl : d ≤ w.length) (hmod : w.length % d = 0) : ∃ r, Ev (fun k => evermoreref31_Whole.f k w (w.take d) ((w.length / d : Nat) : Int)) r ∧ (r = true ↔ Rt (gt w) w.length d) := by
  have hl : (w.take d).length = d := by rw [List.length_take]; omega
  obtain ⟨r, hr, hiff⟩ := whole_l0 w (w.take d) hw (by omega) w.length 0 (by omega)
  refine ⟨r, ?_, ?_⟩
  · unfold evermoreref31_Whole.f
    have : d * (w.length / d) = w.length := Nat.mul_div_cancel' (Nat.dvd_of_mod_eq_zero hmod)
    have h2 : ((w.take d).length : Int) * ((w.length / d : Nat) : Int) = (w.length : Int) := by rw [hl, ← Int.natCast_mul, this]
    rw [h2, w64 (by omega) (by omega)]
    simp only [if_true]
    exact hr
  · rw [hiff, hl]
    constructor
    · intro h
      refine ⟨hmod, fun i hi => ?_⟩
      have := h i (by omega) hi
      rwa [gt_take _ _ _ (Nat.mod_lt _ (by omega))] at this
    · intro h j _ hj
      rw [gt_take _ _ _ (Nat.mod_lt _ (by omega))]
      exact h.2 j hj
theorem refRoot_l0 (w : List Int) (hw : w.length ≤ 60) (s : Nat) (hs1 : 1 ≤ s) (hsl : s ≤ w.length) (hR : Rt (gt w) w.length s) (hmin : ∀ d, 1 ≤ d → d < s → ¬ Rt (gt w) w.length d) :
    ∀ e d : Nat, d + e = s → 1 ≤ d → Ev (fun k => evermoreref31_Root.l0 k w (d : Int)) (s : Int) := by
  intro e
  induction e with
  | zero =>
    intro d h hd
    have : d = s := by omega
    subst this
    obtain ⟨r, hr, hiff⟩ := whole_ev w hw d hd hsl hR.1
    refine Ev.step (fun k => by rw [evermoreref31_Root.l0]) ?_
    have hm : (w.length : Int) % (d : Int) = 0 := by rw [← Int.natCast_emod, hR.1]; rfl
    have hdiv : wrap64 ((w.length : Int) / (d : Int)) = ((w.length / d : Nat) : Int) := by
      have : w.length / d ≤ w.length := Nat.div_le_self _ _
      rw [← Int.natCast_ediv, w64 (Int.le_trans (by decide) (Int.natCast_nonneg _)) (Int.le_trans (Int.ofNat_le.2 this) (by omega))]
    simp only [if_pos (show (d : Int) ≤ (w.length : Int) by omega), if_neg (show ¬ (d : Int) = 0 by omega), if_pos hm, if_pos (show 0 ≤ (d : Int) by omega), hdiv, Int.toNat_natCast]
    refine Ev.bind hr ?_
    simp only [if_pos (hiff.2 hR)]
    exact Ev.now _
  | succ e ih =>
    intro d h hd
    have hn := hmin d hd (by omega)
    refine Ev.step (fun k => by rw [evermoreref31_Root.l0]) ?_
    rw [show wrap64 ((d : Int) + 1) = ((d + 1 : Nat) : Int) from by rw [w64 (by omega) (by omega)]; omega]
    have hnext := ih (d + 1) (by omega) (by omega)
    by_cases hm : w.length % d = 0
    · obtain ⟨r, hr, hiff⟩ := whole_ev w hw d hd (by omega) hm
      have hm' : (w.length : Int) % (d : Int) = 0 := by rw [← Int.natCast_emod, hm]; rfl
      have hdiv : wrap64 ((w.length : Int) / (d : Int)) = ((w.length / d : Nat) : Int) := by
        have : w.length / d ≤ w.length := Nat.div_le_self _ _
        rw [← Int.natCast_ediv, w64 (Int.le_trans (by decide) (Int.natCast_nonneg _)) (Int.le_trans (Int.ofNat_le.2 this) (by omega))]
      simp only [if_pos (show (d : Int) ≤ (w.length : Int) by omega), if_neg (show ¬ (d : Int) = 0 by omega), if_pos hm', if_pos (show 0 ≤ (d : Int) by omega), hdiv, Int.toNat_natCast]
      refine Ev.bind hr ?_
      simp only [if_neg (fun x => hn (hiff.1 x))]
      exact hnext
    · have hm' : ¬ (w.length : Int) % (d : Int) = 0 := by
        rw [← Int.natCast_emod]
        exact fun x => hm (Int.ofNat.inj x)
      simp only [if_pos (show (d : Int) ≤ (w.length : Int) by omega), if_neg (show ¬ (d : Int) = 0 by omega), if_neg hm']
      exact hnext
theorem lyndon_Root_ev (w : List Int) (hw : mayS 4 w = 0) (h0 : 0 < w.length) (b : Nat) (hb : LB (gt w) w.length b) : Ev (fun k => lyndon_Root.f k w) (w.take (rootS w.length b), ((w.length / rootS w.length b : Nat) : Int), 0) := by
  have hl := (mayS_ok hw).2.2.1
  obtain ⟨bl, hbl, hlen, hB⟩ := lyndon_borders_ev w hl
  unfold lyndon_Root.f
  refine Ev.bind (lyndon_may1_ev w) ?_
  simp only [if_pos hw, if_neg (show ¬ (w.length : Int) = 0 by omega)]
  refine Ev.bind hbl ?_
  obtain ⟨b', hb1, hb2⟩ := hB (w.length - 1) (by omega)
  rw [show w.length - 1 + 1 = w.length by omega] at hb2
  have : b' = b := hb2.uniq hb
  subst this
  have hlt := hb.1
  rw [show wrap64 ((w.length : Int) - 1) = ((w.length - 1 : Nat) : Int) from by rw [w64 (by omega) (by omega)]; omega]
  rw [rdgt, hb1]
  rw [show wrap64 ((w.length : Int) - (b' : Int)) = ((w.length - b' : Nat) : Int) from by rw [w64 (by omega) (by omega)]; omega]
  have hdiv : ∀ d : Nat, wrap64 ((w.length : Int) / (d : Int)) = ((w.length / d : Nat) : Int) := fun d => by
    have : w.length / d ≤ w.length := Nat.div_le_self _ _
    rw [← Int.natCast_ediv, w64 (Int.le_trans (by decide) (Int.natCast_nonneg _)) (Int.le_trans (Int.ofNat_le.2 this) (by omega))]
  simp only [hdiv, if_pos (show 0 ≤ ((w.length - 1 : Nat) : Int) by omega), if_pos (show ((w.length - 1 : Nat) : Int) < (bl.length : Int) by omega), if_neg (show ¬ ((w.length - b' : Nat) : Int) = 0 by omega), if_pos (show 0 ≤ ((w.length - b' : Nat) : Int) by omega), if_pos (show ((w.length - b' : Nat) : Int) ≤ (w.length : Int) by omega), if_pos (show 0 ≤ (w.length : Int) by omega),
    if_pos (show (w.length : Int) ≤ (w.length : Int) by omega), Int.toNat_natCast]
  unfold rootS slices_Clone_int_int.f
  by_cases e : w.length % (w.length - b') = 0
  · have e' : (w.length : Int) % ((w.length - b' : Nat) : Int) = 0 := by rw [← Int.natCast_emod, e]; rfl
    simp only [if_pos e', if_pos e, if_pos (show (w.take (w.length - b')).length < 17592186044416 by rw [List.length_take]; omega), Option.bind_some]
    exact Ev.now _
  · have e' : ¬ (w.length : Int) % ((w.length - b' : Nat) : Int) = 0 := by
      rw [← Int.natCast_emod]
      exact fun x => e (Int.ofNat.inj x)
    simp only [if_neg e', if_neg e, if_pos (show (w.take w.length).length < 17592186044416 by rw [List.length_take]; omega), Option.bind_some]
    exact Ev.now _
theorem lb_ex (w : List Int) (hw : w.length ≤ 60) (h0 : 0 < w.length) : ∃ b, LB (gt w) w.length b := by
  obtain ⟨bl, _, hlen, hB⟩ := lyndon_borders_ev w hw
  obtain ⟨b, _, hb⟩ := hB (w.length - 1) (by omega)
  exact ⟨b, by rwa [show w.length - 1 + 1 = w.length by omega] at hb⟩
theorem law_l0 (w bl u : List Int) (n : Int) (hw : w.length ≤ 60) (hbl : bl.length = w.length) (hB : BL (gt w) bl) (h0 : w.length = 0 → n = 0 ∧ u = []) (h1 : 0 < w.length → ∃ b, LB (gt w) w.length b ∧ u = w.take (rootS w.length b) ∧ n = ((w.length / rootS w.length b : Nat) : Int)) :
    ∀ d i : Nat, i + d = w.length → Ev (fun k => evermorelaw_LyndonBorders.l0 k w bl u n (i : Int)) true := by
  intro d
  induction d with
  | zero =>
    intro i hi
    refine Ev.step (fun k => by rw [evermorelaw_LyndonBorders.l0]) ?_
    simp only [if_neg (show ¬ (i : Int) < (w.length : Int) by omega)]
    by_cases h : w.length = 0
    · obtain ⟨rfl, rfl⟩ := h0 h
      simp only [if_pos (show (w.length : Int) = 0 by omega), if_true]
      exact Ev.now _
    · simp only [if_neg (show ¬ (w.length : Int) = 0 by omega)]
      obtain ⟨b, hb, rfl, rfl⟩ := h1 (by omega)
      obtain ⟨r1, r2, r3, r4⟩ := rootS_rt hb
      have := refRoot_l0 w hw (rootS w.length b) r1 r2 r3 r4 (rootS w.length b - 1) 1 (by omega) (by omega)
      unfold evermoreref31_Root.f
      refine Ev.bind this ?_
      have hdiv : ∀ d : Nat, wrap64 ((w.length : Int) / (d : Int)) = ((w.length / d : Nat) : Int) := fun d => by
        have : w.length / d ≤ w.length := Nat.div_le_self _ _
        rw [← Int.natCast_ediv, w64 (Int.le_trans (by decide) (Int.natCast_nonneg _)) (Int.le_trans (Int.ofNat_le.2 this) (by omega))]
      simp only [hdiv, if_pos (show 0 ≤ ((rootS w.length b : Nat) : Int) by omega), if_pos (show ((rootS w.length b : Nat) : Int) ≤ (w.length : Int) by omega), Int.toNat_natCast]
      refine Ev.bind (evermoreref1_Words_ev _ _ (by rw [List.length_take]; omega)) ?_
      simp only [decide_true, if_true, if_neg (show ¬ ((rootS w.length b : Nat) : Int) = 0 by omega), beq_self_eq_true]
      exact Ev.now _
  | succ d ih =>
    intro i hi
    refine Ev.step (fun k => by rw [evermorelaw_LyndonBorders.l0]) ?_
    obtain ⟨b, hb1, hb2⟩ := hB i (by omega)
    rw [show wrap64 ((i : Int) + 1) = ((i + 1 : Nat) : Int) from by rw [w64 (by omega) (by omega)]; omega]
    simp only [if_pos (show (i : Int) < (w.length : Int) by omega), if_pos (show 0 ≤ ((i + 1 : Nat) : Int) by omega), if_pos (show ((i + 1 : Nat) : Int) ≤ (w.length : Int) by omega), Int.toNat_natCast]
    refine Ev.bind (border_ev w hw (i + 1) (by omega) b hb2) ?_
    simp only [rdgt, hb1, if_pos (show 0 ≤ (i : Int) by omega), if_pos (show (i : Int) < (bl.length : Int) by omega), if_true]
    exact ih (i + 1) (by omega)
theorem LyndonBorders : evermorelaw_LyndonBorders.Pure := by
  intro w _ _ _
  refine Ev.rounds ?_
  unfold evermorelaw_LyndonBorders.f
  by_cases h : mayS 4 w = 0
  · have hw := (mayS_ok h).2.2.1
    obtain ⟨bl, hbl, hlen, hB⟩ := lyndon_borders_ev w hw
    have h1 : Ev (fun k => lyndon_Borders.f k w) (bl, 0) := by
      unfold lyndon_Borders.f
      refine Ev.bind (lyndon_may1_ev w) ?_
      simp only [if_pos h]
      refine Ev.bind hbl ?_
      exact Ev.now _
    refine Ev.bind h1 ?_
    have fin : ∀ (u : List Int) (n : Int), (w.length = 0 → n = 0 ∧ u = []) → (0 < w.length → ∃ b, LB (gt w) w.length b ∧ u = w.take (rootS w.length b) ∧ n = ((w.length / rootS w.length b : Nat) : Int)) → Ev (fun k => (evermoreref1_May.f k 4 w).bind fun t174 => (if t174 = 0 then (if (0 : Int) = 0 then (if (0 : Int) = 0 then (evermorelaw_LyndonBorders.j0 k w bl u n ((bl.length : Int) != (w.length : Int))) else (evermorelaw_LyndonBorders.j0 k w bl u n true)) else (evermorelaw_LyndonBorders.j0 k w bl u n true)) else (if (0 : Int) = t174 then (if (0 : Int) = t174 then (if n = 0 then (some ((wrap64 ((bl.length : Int) + (u.length : Int))) == 0)) else (some false)) else (some false)) else (some false)))) true := by
      intro u n z1 z2
      refine Ev.bind (evermoreref1_May_ev 4 w) ?_
      simp only [if_pos h, if_true]
      refine Ev.step (fun k => by rw [evermorelaw_LyndonBorders.j0]) ?_
      simp only [show ((bl.length : Int) != (w.length : Int)) = false from bne_eq_false_iff_eq.2 (by omega), if_neg (show ¬ (false = true) by decide)]
      exact law_l0 w bl u n hw hlen hB z1 z2 w.length 0 (by omega)
    by_cases h0 : w.length = 0
    · have h2 : Ev (fun k => lyndon_Root.f k w) ([], 0, 0) := by
        unfold lyndon_Root.f
        refine Ev.bind (lyndon_may1_ev w) ?_
        simp only [if_pos h, if_pos (show (w.length : Int) = 0 by omega)]
        exact Ev.now _
      refine Ev.bind h2 ?_
      exact fin [] 0 (fun _ => ⟨rfl, rfl⟩) (fun x => by omega)
    · obtain ⟨b, hb⟩ := lb_ex w hw (by omega)
      refine Ev.bind (lyndon_Root_ev w h (by omega) b hb) ?_
      exact fin _ _ (fun x => by omega) (fun _ => ⟨b, hb, rfl, rfl⟩)
  · have h1 : Ev (fun k => lyndon_Borders.f k w) ([], mayS 4 w) := by
      unfold lyndon_Borders.f
      refine Ev.bind (lyndon_may1_ev w) ?_
      simp only [if_neg h]
      exact Ev.now _
    have h2 : Ev (fun k => lyndon_Root.f k w) ([], 0, mayS 4 w) := by
      unfold lyndon_Root.f
      refine Ev.bind (lyndon_may1_ev w) ?_
      simp only [if_neg h]
      exact Ev.now _
    refine Ev.bind h1 ?_
    refine Ev.bind h2 ?_
    refine Ev.bind (evermoreref1_May_ev 4 w) ?_
    simp only [if_neg h, if_true, List.length_nil]
    exact evc (Ev.now _) (by decide +kernel)

end Go.Proofs.Ythbdmfhobienaaa.Pure
namespace Go.Proofs.Ythbdmfhobienaaa.PrintWords
abbrev sized_ints := @Go.Proofs.YthbdmfhobienaaaW.PrintWords.sized_ints
end Go.Proofs.Ythbdmfhobienaaa.PrintWords
