/- For every automaton that goes to and fro and every word the program's check and answer are the reference's. No conditions beyond the statement's. -/
import Derived.Test.YtaaibckhpbmbeaaPTwoRunsx7
import Derived.Test.YtaaibckhpbmbeaaQTwoRuns
namespace Go.Proofs.Ytaaibckhpbmbeaa.Pure
open Go.RowKit Go.Proofs.Ytaaibckhpbmbeaa.PTwoRuns Go.Proofs.YtaaibckhpbmbeaaW.PrintWords Go.Proofs.YtaaibckhpbmbeaaW.PrintLast Go.Proofs.YtaaibckhpbmbeaaW.PrintMore
set_option linter.unusedVariables false
set_option linter.unusedSimpArgs false
theorem w64 {n : Int} (h : -9223372036854775808 ≤ n) (h' : n ≤ 9223372036854775807) : wrap64 n = n := by unfold wrap64; omega
theorem rdn (l : List Int) (i : Nat) (h : i < l.length) : rd l (i : Int) = l[i] := by
  unfold rd; rw [Int.toNat_natCast, List.getD_eq_getElem?_getD, List.getElem?_eq_getElem h]; rfl
theorem rdOfn {α : Type} (d : α) (l : List α) (i : Nat) (h : i < l.length) : rdOf d l (i : Int) = l[i] := by
  unfold rdOf; rw [Int.toNat_natCast, List.getD_eq_getElem?_getD, List.getElem?_eq_getElem h]; rfl
theorem evc {α : Type} {g : Nat → Option α} {a b : α} (h : Ev g a) (e : a = b) : Ev g b := e ▸ h
theorem rdL (l : List (List Int)) (n : Nat) : rd_L3 l (n : Int) = l.getD n [] := by unfold rd_L3; rw [Int.toNat_natCast]
theorem rdN (l : List Int) (n : Nat) : rd l (n : Int) = l.getD n 0 := by unfold rd; rw [Int.toNat_natCast]
theorem w1 (i : Nat) (h : i ≤ 9223372036854775000) : wrap64 ((i : Int) + 1) = ((i + 1 : Nat) : Int) := by rw [w64 (by omega) (by omega)]; omega
theorem getD_mem {α : Type} (l : List α) (n : Nat) (d : α) (h : n < l.length) : l.getD n d ∈ l := by
  rw [List.getD_eq_getElem?_getD, List.getElem?_eq_getElem h]; exact List.getElem_mem h
theorem drop_getD {α : Type} (l : List α) (n : Nat) (d : α) (h : n < l.length) : l.drop n = l.getD n d :: l.drop (n + 1) := by
  rw [List.drop_eq_getElem_cons h, List.getD_eq_getElem?_getD, List.getElem?_eq_getElem h]; rfl
/-- the first place at which p holds, from i on; -1: none -/
def ixf {α : Type} (p : α → Bool) : List α → Nat → Int
  | [], _ => -1
  | x :: xs, i => if p x = true then (i : Int) else ixf p xs (i + 1)
theorem ixf_any {α : Type} (p : α → Bool) : ∀ (xs : List α) (i : Nat), decide (ixf p xs i ≥ 0) = xs.any p
  | [], _ => by simp [ixf]
  | x :: xs, i => by
    have ih := ixf_any p xs (i + 1)
    by_cases h : p x = true
    · rw [ixf, if_pos h, List.any_cons, h]
      simp
    · rw [ixf, if_neg h, List.any_cons, ih]
      simp [h]
/-- a loop over a list that ends at the first element of which p holds -/
theorem anyL_ev {α R : Type} (d0 : α) (xs : List α) (p : α → Bool) (a b : R) (L : Nat → Int → Option R)
    (hstop : ∀ i : Nat, i < xs.length → p (xs.getD i d0) = true → Ev (fun k => L k (i : Int)) a)
    (hgo : ∀ i : Nat, i < xs.length → p (xs.getD i d0) = false → ∀ r, Ev (fun k => L k ((i + 1 : Nat) : Int)) r → Ev (fun k => L k (i : Int)) r)
    (hend : xs.any p = false → Ev (fun k => L k (xs.length : Int)) b) : ∀ d i : Nat, i + d = xs.length → ((xs.drop i).any p = false → xs.any p = false) → Ev (fun k => L k (i : Int)) (if (xs.drop i).any p = true then a else b) := by
  intro d
  induction d with
  | zero =>
    intro i hi hp
    rw [List.drop_of_length_le (by omega)] at hp ⊢
    rw [show i = xs.length by omega]
    exact hend (hp rfl)
  | succ d ih =>
    intro i hi hp
    rw [drop_getD xs i d0 (by omega), List.any_cons] at hp ⊢
    cases h : p (xs.getD i d0) with
    | true => exact hstop i (by omega) h
    | false => exact hgo i (by omega) h _ (ih (i + 1) (by omega) (fun e => hp (by rw [h, e]; rfl)))
theorem anyL_ev0 {α R : Type} (d0 : α) (xs : List α) (p : α → Bool) (a b : R) (L : Nat → Int → Option R)
    (hstop : ∀ i : Nat, i < xs.length → p (xs.getD i d0) = true → Ev (fun k => L k (i : Int)) a)
    (hgo : ∀ i : Nat, i < xs.length → p (xs.getD i d0) = false → ∀ r, Ev (fun k => L k ((i + 1 : Nat) : Int)) r → Ev (fun k => L k (i : Int)) r)
    (hend : xs.any p = false → Ev (fun k => L k (xs.length : Int)) b) : Ev (fun k => L k 0) (if xs.any p = true then a else b) := by
  have := anyL_ev d0 xs p a b L hstop hgo hend xs.length 0 (by omega) (fun h => by rwa [List.drop_zero] at h)
  rwa [List.drop_zero] at this
/-- a loop over numbers that ends at the first one of which p holds -/
theorem anyN_ev {R : Type} (n : Nat) (p : Nat → Bool) (a b : R) (L : Nat → Int → Option R)
    (hstop : ∀ i : Nat, i < n → p i = true → Ev (fun k => L k (i : Int)) a)
    (hgo : ∀ i : Nat, i < n → p i = false → ∀ r, Ev (fun k => L k ((i + 1 : Nat) : Int)) r → Ev (fun k => L k (i : Int)) r)
    (hend : (List.range n).any p = false → Ev (fun k => L k (n : Int)) b) : Ev (fun k => L k 0) (if (List.range n).any p = true then a else b) := by
  have e : (List.range n).length = n := List.length_range
  have g : ∀ i, i < n → (List.range n).getD i 0 = i := fun i hi => by rw [List.getD_eq_getElem?_getD, List.getElem?_range hi]; rfl
  exact anyL_ev0 0 (List.range n) p a b L (fun i hi h => by rw [e] at hi; rw [g i hi] at h; exact hstop i hi h) (fun i hi h r hr => by rw [e] at hi; rw [g i hi] at h; exact hgo i hi h r hr) (fun h => by rw [e]; exact hend h)
theorem evs {α : Type} {x : Option α} {r : α} (h : x = some r) : Ev (fun _ => x) r := ⟨0, fun _ _ => h⟩
/-- the first fault -/
def fe (f : Nat → Int) : List Nat → Int
  | [] => 0
  | i :: is => if f i = 0 then fe f is else f i
theorem fe_range (f : Nat → Int) (n : Nat) : ∀ d i, i + d = n → fe f ((List.range n).drop i) = 0 → ∀ j, i ≤ j → j < n → f j = 0 := by
  intro d
  induction d with
  | zero => intro i hi _ j h1 h2; omega
  | succ d ih =>
    intro i hi h j h1 h2
    rw [List.drop_eq_getElem_cons (by rw [List.length_range]; omega), List.getElem_range, fe] at h
    by_cases e : f i = 0
    · rw [if_pos e] at h
      rcases Nat.lt_or_ge i j with hj | hj
      · exact ih (i + 1) (by omega) h j (by omega) h2
      · rw [show j = i by omega]; exact e
    · rw [if_neg e] at h; exact absurd h e
theorem fe_ok {f : Nat → Int} {n : Nat} (h : fe f (List.range n) = 0) : ∀ j, j < n → f j = 0 := fun j hj => fe_range f n n 0 (by omega) (by rwa [List.drop_zero]) j (Nat.zero_le _) hj
/-- a loop over numbers that ends at the first fault -/
theorem feN_ev {R : Type} (n : Nat) (f : Nat → Int) (G : Int → R) (b : R) (hb : G 0 = b) (L : Nat → Int → Option R)
    (hstop : ∀ i : Nat, i < n → f i ≠ 0 → Ev (fun k => L k (i : Int)) (G (f i)))
    (hgo : ∀ i : Nat, i < n → f i = 0 → ∀ r, Ev (fun k => L k ((i + 1 : Nat) : Int)) r → Ev (fun k => L k (i : Int)) r)
    (hend : Ev (fun k => L k (n : Int)) b) : Ev (fun k => L k 0) (G (fe f (List.range n))) := by
  have key : ∀ d i : Nat, i + d = n → Ev (fun k => L k (i : Int)) (G (fe f ((List.range n).drop i))) := by
    intro d
    induction d with
    | zero =>
      intro i hi
      rw [List.drop_of_length_le (by rw [List.length_range]; omega), show i = n by omega, fe, hb]
      exact hend
    | succ d ih =>
      intro i hi
      rw [List.drop_eq_getElem_cons (by rw [List.length_range]; omega), List.getElem_range, fe]
      by_cases e : f i = 0
      · rw [if_pos e]; exact hgo i (by omega) e _ (ih (i + 1) (by omega))
      · rw [if_neg e]; exact hstop i (by omega) e
  have := key n 0 (by omega)
  rwa [List.drop_zero] at this
/-- a row that is filled from the left -/
def fillR {α : Type} (v : Nat → α) (z : α) (n i : Nat) : List α := (List.range i).map v ++ List.replicate (n - i) z
theorem fillR_len {α : Type} (v : Nat → α) (z : α) {n i : Nat} (h : i ≤ n) : (fillR v z n i).length = n := by
  unfold fillR; rw [List.length_append, List.length_map, List.length_range, List.length_replicate]; omega
theorem fillR_set {α : Type} (v : Nat → α) (z : α) {n i : Nat} (h : i < n) (x : α) (hx : x = v i) : (fillR v z n i).set i x = fillR v z n (i + 1) := by
  subst hx
  unfold fillR
  have e : List.replicate (n - i) z = z :: List.replicate (n - (i + 1)) z := by
    rw [show n - i = (n - (i + 1)) + 1 by omega]; rfl
  rw [e, List.range_succ, List.map_append, List.append_assoc, List.set_append_right _ _ (by rw [List.length_map, List.length_range]; omega), List.length_map, List.length_range, Nat.sub_self]
  rfl
theorem fillR_zero {α : Type} (v : Nat → α) (z : α) (n : Nat) : fillR v z n 0 = List.replicate n z := by unfold fillR; rfl
theorem fillR_full {α : Type} (v : Nat → α) (z : α) (n : Nat) : fillR v z n n = (List.range n).map v := by unfold fillR; rw [Nat.sub_self]; simp
theorem getD_mapRange {α : Type} (v : Nat → α) (d : α) {n i : Nat} (h : i < n) : ((List.range n).map v).getD i d = v i := by
  rw [List.getD_eq_getElem?_getD, List.getElem?_map, List.getElem?_range h]; rfl
/-- a loop over numbers that ends at the first one of which p holds, and tells it -/
theorem findN_ev {R : Type} (n : Nat) (p : Nat → Bool) (g : Nat → R) (b : R) (L : Nat → Int → Option R)
    (hstop : ∀ i : Nat, i < n → p i = true → Ev (fun k => L k (i : Int)) (g i))
    (hgo : ∀ i : Nat, i < n → p i = false → ∀ r, Ev (fun k => L k ((i + 1 : Nat) : Int)) r → Ev (fun k => L k (i : Int)) r)
    (hend : Ev (fun k => L k (n : Int)) b) : Ev (fun k => L k 0) (match (List.range n).find? p with | some i => g i | none => b) := by
  have key : ∀ d i : Nat, i + d = n → Ev (fun k => L k (i : Int)) (match ((List.range n).drop i).find? p with | some i => g i | none => b) := by
    intro d
    induction d with
    | zero =>
      intro i hi
      rw [List.drop_of_length_le (by rw [List.length_range]; omega), show i = n by omega]
      exact hend
    | succ d ih =>
      intro i hi
      rw [List.drop_eq_getElem_cons (by rw [List.length_range]; omega), List.getElem_range, List.find?_cons]
      cases e : p i with
      | true => exact hstop i (by omega) e
      | false => exact hgo i (by omega) e _ (ih (i + 1) (by omega))
  have := key n 0 (by omega)
  rwa [List.drop_zero] at this
def okB (n : Int) (l : List Int) : Bool := l.all (fun a => decide (0 ≤ a) && decide (a < n))
theorem okB_cons (n a : Int) (l : List Int) : okB n (a :: l) = (decide (0 ≤ a) && decide (a < n) && okB n l) := rfl
def mayS (n : Int) (l : List Int) : Int := if n < 1 ∨ n > 4 then 2 else if l.length > 60 then 1 else if okB n l = true then 0 else 2
theorem mayS_ok {n : Int} {l : List Int} (h : mayS n l = 0) : 1 ≤ n ∧ n ≤ 4 ∧ l.length ≤ 60 ∧ ∀ a ∈ l, 0 ≤ a ∧ a < n := by
  unfold mayS at h
  by_cases h1 : n < 1 ∨ n > 4
  · rw [if_pos h1] at h; omega
  · rw [if_neg h1] at h
    by_cases h2 : l.length > 60
    · rw [if_pos h2] at h; omega
    · rw [if_neg h2] at h
      by_cases h3 : okB n l = true
      · refine ⟨by omega, by omega, by omega, ?_⟩
        simpa [okB] using h3
      · rw [if_neg h3] at h; omega
theorem evermoreref1_May_l0 (n : Int) (l : List Int) (hl : l.length ≤ 60) : ∀ d i : Nat, i + d = l.length → Ev (fun k => evermoreref1_May.l0 k n l (i : Int)) (if okB n (l.drop i) = true then 0 else 2) := by
  intro d
  induction d with
  | zero =>
    intro i hi
    refine Ev.step (fun k => by rw [evermoreref1_May.l0]) ?_
    simp only [if_neg (show ¬ ((i : Int) < (l.length : Int)) by omega)]
    rw [List.drop_of_length_le (by omega)]
    exact Ev.now _
  | succ d ih =>
    intro i hi
    refine Ev.step (fun k => by rw [evermoreref1_May.l0]) ?_
    have h1 : i < l.length := by omega
    simp only [if_pos (show ((i : Int) < (l.length : Int)) by omega), if_pos (show (0 ≤ (i : Int)) by omega), rdn l i h1]
    rw [List.drop_eq_getElem_cons h1]
    have := ih (i + 1) (by omega)
    rw [show wrap64 ((i : Int) + 1) = ((i + 1 : Nat) : Int) from by rw [w64 (by omega) (by omega)]; omega]
    by_cases e : l[i] < 0
    · simp only [if_pos e]
      exact evc (Ev.now 2) (by rw [okB_cons, decide_eq_false (show ¬ (0 ≤ l[i]) by omega)]; rfl)
    · simp only [if_neg e]
      by_cases e' : l[i] ≥ n
      · simp only [if_pos e']
        exact evc (Ev.now 2) (by rw [okB_cons, decide_eq_false (show ¬ (l[i] < n) by omega), Bool.and_false]; rfl)
      · simp only [if_neg e']
        exact evc this (by rw [okB_cons, decide_eq_true (show (0 ≤ l[i]) by omega), decide_eq_true (show (l[i] < n) by omega), Bool.true_and, Bool.true_and])
theorem evermoreref1_May_ev (n : Int) (l : List Int) : Ev (fun k => evermoreref1_May.f k n l) (mayS n l) := by
  have key : ∀ b : Bool, (b = true ↔ (n < 1 ∨ n > 4)) → Ev (fun k => evermoreref1_May.j0 k n l b) (mayS n l) := by
    intro b hb
    refine Ev.step (fun k => by rw [evermoreref1_May.j0]) ?_
    unfold mayS
    by_cases h : b = true
    · simp only [if_pos h, if_pos (hb.1 h)]; exact Ev.now _
    · simp only [if_neg h, if_neg (fun x => h (hb.2 x))]
      by_cases h2 : l.length > 60
      · simp only [if_pos h2, if_pos (show (l.length : Int) > 60 by omega)]; exact Ev.now _
      · simp only [if_neg h2, if_neg (show ¬ (l.length : Int) > 60 by omega)]
        exact evermoreref1_May_l0 n l (by omega) l.length 0 (by omega)
  unfold evermoreref1_May.f
  by_cases h : n < 1
  · simp only [if_pos h]; exact key true (by simp; omega)
  · simp only [if_neg h]; exact key _ (by simp; omega)
theorem word_May_l0 (n : Int) (l : List Int) (hl : l.length ≤ 60) : ∀ d i : Nat, i + d = l.length → Ev (fun k => word_May.l0 k n l (l.length : Int) (i : Int)) (if okB n (l.drop i) = true then 0 else 2) := by
  intro d
  induction d with
  | zero =>
    intro i hi
    refine Ev.step (fun k => by rw [word_May.l0]) ?_
    simp only [if_neg (show ¬ ((i : Int) < (l.length : Int)) by omega)]
    rw [List.drop_of_length_le (by omega)]
    exact Ev.now _
  | succ d ih =>
    intro i hi
    refine Ev.step (fun k => by rw [word_May.l0]) ?_
    have h1 : i < l.length := by omega
    simp only [if_pos (show ((i : Int) < (l.length : Int)) by omega), if_pos (show (0 ≤ (i : Int)) by omega), rdn l i h1]
    rw [List.drop_eq_getElem_cons h1]
    have := ih (i + 1) (by omega)
    rw [show wrap64 ((i : Int) + 1) = ((i + 1 : Nat) : Int) from by rw [w64 (by omega) (by omega)]; omega]
    by_cases e : l[i] < 0
    · simp only [if_pos e]
      exact evc (Ev.now 2) (by rw [okB_cons, decide_eq_false (show ¬ (0 ≤ l[i]) by omega)]; rfl)
    · simp only [if_neg e]
      by_cases e' : l[i] ≥ n
      · simp only [if_pos e']
        exact evc (Ev.now 2) (by rw [okB_cons, decide_eq_false (show ¬ (l[i] < n) by omega), Bool.and_false]; rfl)
      · simp only [if_neg e']
        exact evc this (by rw [okB_cons, decide_eq_true (show (0 ≤ l[i]) by omega), decide_eq_true (show (l[i] < n) by omega), Bool.true_and, Bool.true_and])
theorem word_May_ev (n : Int) (l : List Int) : Ev (fun k => word_May.f k n l) (mayS n l) := by
  have key : ∀ b : Bool, (b = true ↔ (n < 1 ∨ n > 4)) → Ev (fun k => word_May.j0 k n l b) (mayS n l) := by
    intro b hb
    refine Ev.step (fun k => by rw [word_May.j0]) ?_
    unfold mayS
    by_cases h : b = true
    · simp only [if_pos h, if_pos (hb.1 h)]; exact Ev.now _
    · simp only [if_neg h, if_neg (fun x => h (hb.2 x))]
      by_cases h2 : l.length > 60
      · simp only [if_pos h2, if_pos (show (l.length : Int) > 60 by omega)]; exact Ev.now _
      · simp only [if_neg h2, if_neg (show ¬ (l.length : Int) > 60 by omega)]
        exact word_May_l0 n l (by omega) l.length 0 (by omega)
  unfold word_May.f
  by_cases h : n < 1
  · simp only [if_pos h]; exact key true (by simp; omega)
  · simp only [if_neg h]; exact key _ (by simp; omega)
theorem wf64 {n : Int} (h : (Lit.int .i64 n).wf = true) : -9223372036854775808 ≤ n ∧ n ≤ 9223372036854775807 := by
  simp [Lit.wf, IntKind.min, IntKind.max, IntKind.signed, IntKind.bits] at h
  omega
/-! runs -/
def dl (next : List (List Int)) (q : Nat) (a : Int) : Nat := ((next.getD q []).getD a.toNat 0).toNat
def aft (next : List (List Int)) (q : Nat) (w : List Int) : Nat := w.foldl (dl next) q
/-- the states that a word comes to, one behind each letter -/
def vis (next : List (List Int)) : Nat → List Int → List Nat
  | _, [] => []
  | q, a :: w => dl next q a :: vis next (dl next q a) w
/-- n rounds -/
def itr (F : Nat → Nat) : Nat → Nat → Nat
  | 0, q => q
  | n + 1, q => itr F n (F q)
theorem itr_succ (F : Nat → Nat) : ∀ n q, itr F (n + 1) q = F (itr F n q)
  | 0, _ => rfl
  | n + 1, q => itr_succ F n (F q)
theorem itr_add (F : Nat → Nat) : ∀ m n q, itr F (m + n) q = itr F n (itr F m q)
  | 0, n, q => by rw [Nat.zero_add]; rfl
  | m + 1, n, q => by rw [Nat.succ_add]; exact itr_add F m n (F q)
theorem pigeon : ∀ (N : Nat) (f : Nat → Nat), (∀ i, i ≤ N → f i < N) → ∃ i j, i < j ∧ j ≤ N ∧ f i = f j := by
  intro N
  induction N with
  | zero => intro f h; exact absurd (h 0 (Nat.le_refl _)) (Nat.not_lt_zero _)
  | succ N ih =>
    intro f h
    by_cases hv : ∃ i, i ≤ N ∧ f i = f (N + 1)
    · obtain ⟨i, hi, e⟩ := hv
      exact ⟨i, N + 1, by omega, Nat.le_refl _, e⟩
    · have hne : ∀ i, i ≤ N → f i ≠ f (N + 1) := fun i hi e => hv ⟨i, hi, e⟩
      obtain ⟨i, j, h1, h2, e⟩ := ih (fun i => if f i = N then f (N + 1) else f i) (fun i hi => by
        have a1 := h i (by omega)
        have a2 := h (N + 1) (Nat.le_refl _)
        have a3 := hne i hi
        show (if f i = N then f (N + 1) else f i) < N
        split <;> omega)
      have a3 := hne i (by omega)
      have a4 := hne j (by omega)
      refine ⟨i, j, h1, by omega, ?_⟩
      have e' : (if f i = N then f (N + 1) else f i) = (if f j = N then f (N + 1) else f j) := e
      split at e' <;> split at e' <;> omega
theorem returns (F : Nat → Nat) (N : Nat) (hF : ∀ q, q < N → F q < N) (q : Nat) (hq : q < N) : ∃ c, 1 ≤ c ∧ c ≤ N ∧ itr F c (itr F N q) = itr F N q := by
  have hr : ∀ i, itr F i q < N := by
    intro i
    induction i with
    | zero => exact hq
    | succ i ih => rw [itr_succ]; exact hF _ ih
  obtain ⟨i, j, h1, h2, e⟩ := pigeon N (fun i => itr F i q) (fun i _ => hr i)
  refine ⟨j - i, by omega, by omega, ?_⟩
  have e' : itr F i q = itr F j q := e
  rw [← itr_add, show N + (j - i) = j + (N - i) by omega, itr_add, ← e', ← itr_add]
  congr 1; omega
/-- the first return -/
theorem first_return (F : Nat → Nat) (x : Nat) : ∀ c, 1 ≤ c → itr F c x = x → ∃ d, 1 ≤ d ∧ d ≤ c ∧ itr F d x = x ∧ ∀ e, 1 ≤ e → e < d → itr F e x ≠ x := by
  intro c
  induction c using Nat.strongRecOn with
  | _ c ih =>
    intro h1 h2
    by_cases h : ∃ e, 1 ≤ e ∧ e < c ∧ itr F e x = x
    · obtain ⟨e, e1, e2, e3⟩ := h
      obtain ⟨d, d1, d2, d3, d4⟩ := ih e e2 e1 e3
      exact ⟨d, d1, by omega, d3, d4⟩
    · exact ⟨c, h1, Nat.le_refl _, h2, fun e e1 e2 e3 => h ⟨e, e1, e2, e3⟩⟩
/-- what n rounds come to -/
def visN (next : List (List Int)) (w : List Int) : Nat → Nat → List Nat
  | 0, _ => []
  | n + 1, q => vis next q w ++ visN next w n (aft next q w)
theorem mem_visN (next : List (List Int)) (w : List Int) : ∀ (n q p : Nat), p ∈ visN next w n q ↔ ∃ i, i < n ∧ p ∈ vis next (itr (fun q => aft next q w) i q) w
  | 0, q, p => by simp [visN]
  | n + 1, q, p => by
    have ih := mem_visN next w n (aft next q w) p
    rw [visN, List.mem_append, ih]
    constructor
    · rintro (h | ⟨i, hi, h⟩)
      · exact ⟨0, by omega, h⟩
      · exact ⟨i + 1, by omega, h⟩
    · rintro ⟨i, hi, h⟩
      cases i with
      | zero => exact .inl h
      | succ i => exact .inr ⟨i, by omega, h⟩
theorem itr_mod (F : Nat → Nat) (x c : Nat) (hc : 1 ≤ c) (h : itr F c x = x) : ∀ i, itr F i x = itr F (i % c) x := by
  intro i
  induction i using Nat.strongRecOn with
  | _ i ih =>
    by_cases hi : i < c
    · rw [Nat.mod_eq_of_lt hi]
    · rw [Nat.mod_eq_sub_mod (by omega), ← ih (i - c) (by omega)]
      have := itr_add F c (i - c) x
      rw [h, show c + (i - c) = i by omega] at this
      exact this
theorem visN_cycle (next : List (List Int)) (w : List Int) (x c N : Nat) (hc : 1 ≤ c) (hcN : c ≤ N) (h : itr (fun q => aft next q w) c x = x) (p : Nat) : p ∈ visN next w N x ↔ p ∈ visN next w c x := by
  rw [mem_visN, mem_visN]
  constructor
  · rintro ⟨i, _, hp⟩
    rw [itr_mod _ x c hc h i] at hp
    exact ⟨i % c, Nat.mod_lt _ (by omega), hp⟩
  · rintro ⟨i, hi, hp⟩
    exact ⟨i, by omega, hp⟩
theorem rdR (l : List (List S144)) (n : Nat) : rd_L2 l (n : Int) = l.getD n [] := by unfold rd_L2; rw [Int.toNat_natCast]
theorem rdX (l : List S144) (n : Nat) : rd_T144 l (n : Int) = l.getD n z144 := by unfold rd_T144; rw [Int.toNat_natCast]
def badB (n : Int) (b : Int) : Bool := decide (b < 0) || decide (b ≥ n)
def badX (n : Int) (x : S144) : Bool := badB n x.f0 || (!(decide (x.f1 = 1)) && (x.f1 != -1))
def badM (m : Int) : Bool := !(decide (m = 0)) && (m != 1)
def lenB (a : Int) (r : List S144) : Bool := ((r.length : Int) != a + 2)
def vT (a s : Int) (next : List (List S144)) (mark : List Int) : Int :=
  if a < 1 ∨ a > 4 then 2 else if next.length < 1 ∨ next.length > 4 then 1 else if mark.length ≠ next.length then 3 else if next.any (lenB a) = true then 3
  else if badB next.length s = true then 2 else if next.any (fun r => r.any (badX next.length)) = true then 2 else if mark.any badM = true then 2 else 0
theorem c2_ev (a n : Int) : two_Check_2.f a n = some (badB n a) := by
  unfold two_Check_2.f badB
  by_cases h : a < 0
  · rw [if_pos h, decide_eq_true h, Bool.true_or]
  · rw [if_neg h, decide_eq_false h, Bool.false_or]
theorem c31_ev (x : S144) (n : Int) : two_Check_3_1.f x.f0 x.f1 n = some (badX n x) := by
  unfold two_Check_3_1.f badX
  rw [c2_ev]
  simp only [Option.bind_some]
  cases badB n x.f0 with
  | true => simp
  | false =>
    simp only [if_neg (show ¬ (false = true) by decide), Bool.false_or]
    by_cases h : x.f1 = 1
    · rw [if_pos h, decide_eq_true h]; rfl
    · rw [if_neg h, decide_eq_false h]; rfl
theorem c4_ev (m : Int) : two_Check_4.f m = some (badM m) := by
  unfold two_Check_4.f badM
  by_cases h : m = 0
  · rw [if_pos h, decide_eq_true h]; rfl
  · rw [if_neg h, decide_eq_false h]; rfl
theorem c1_ev (r : List S144) (a s : Int) (next : List (List S144)) (mark : List Int) (ha : 1 ≤ a ∧ a ≤ 4) : two_Check_1.f r a s next mark = some (lenB a r) := by
  unfold two_Check_1.f lenB
  rw [w64 (by omega) (by omega)]
theorem slices_IndexFunc__two_Check_1_l0_ev (xs : List (List (S144))) (a2_0 : Int) (a2_1 : Int) (l2_2 : List (List (S144))) (l2_3 : List Int) (p : (List (S144)) → Bool) (hb : xs.length ≤ 4611686018427387904) (hp : ∀ x ∈ xs, Ev (fun k => two_Check_1.f x a2_0 a2_1 l2_2 l2_3) (p x)) : ∀ d i : Nat, i + d = xs.length → Ev (fun k => slices_IndexFunc__two_Check_1.l0 k xs (xs.length : Int) (i : Int) a2_0 a2_1 l2_2 l2_3) (ixf p (xs.drop i) i) := by
  intro d
  induction d with
  | zero =>
    intro i hi
    refine Ev.step (fun k => by rw [slices_IndexFunc__two_Check_1.l0]) ?_
    simp only [if_neg (show ¬ ((i : Int) < (xs.length : Int)) by omega)]
    rw [List.drop_of_length_le (by omega)]
    exact Ev.now _
  | succ d ih =>
    intro i hi
    refine Ev.step (fun k => by rw [slices_IndexFunc__two_Check_1.l0]) ?_
    have er : rd_L2 xs (i : Int) = xs.getD i [] := by unfold rd_L2; rw [Int.toNat_natCast]
    simp only [if_pos (show ((i : Int) < (xs.length : Int)) by omega), if_pos (show (0 ≤ (i : Int)) by omega), er]
    refine Ev.bind (hp _ (getD_mem xs i _ (by omega))) ?_
    rw [drop_getD xs i [] (by omega), ixf]
    by_cases h : p (xs.getD i []) = true
    · simp only [if_pos h]
      exact Ev.now _
    · simp only [if_neg h]
      rw [w1 i (by omega)]
      exact ih (i + 1) (by omega)
theorem slices_IndexFunc__two_Check_1_ev (xs : List (List (S144))) (a2_0 : Int) (a2_1 : Int) (l2_2 : List (List (S144))) (l2_3 : List Int) (p : (List (S144)) → Bool) (hb : xs.length ≤ 4611686018427387904) (hp : ∀ x ∈ xs, Ev (fun k => two_Check_1.f x a2_0 a2_1 l2_2 l2_3) (p x)) : Ev (fun k => slices_IndexFunc__two_Check_1.f k xs a2_0 a2_1 l2_2 l2_3) (ixf p xs 0) := by
  unfold slices_IndexFunc__two_Check_1.f
  exact slices_IndexFunc__two_Check_1_l0_ev xs a2_0 a2_1 l2_2 l2_3 p hb hp xs.length 0 (by omega)
theorem slices_ContainsFunc__two_Check_1_ev (xs : List (List (S144))) (a2_0 : Int) (a2_1 : Int) (l2_2 : List (List (S144))) (l2_3 : List Int) (p : (List (S144)) → Bool) (hb : xs.length ≤ 4611686018427387904) (hp : ∀ x ∈ xs, Ev (fun k => two_Check_1.f x a2_0 a2_1 l2_2 l2_3) (p x)) : Ev (fun k => slices_ContainsFunc__two_Check_1.f k xs a2_0 a2_1 l2_2 l2_3) (xs.any p) := by
  unfold slices_ContainsFunc__two_Check_1.f
  refine Ev.bind (slices_IndexFunc__two_Check_1_ev xs a2_0 a2_1 l2_2 l2_3 p hb hp) ?_
  rw [ixf_any]
  exact Ev.now _
theorem slices_IndexFunc__two_Check_3_1_l0_ev (xs : List (S144)) (a3_0 : Int) (p : S144 → Bool) (hb : xs.length ≤ 4611686018427387904) (hp : ∀ x ∈ xs, Ev (fun k => two_Check_3_1.f (x.f0) (x.f1) a3_0) (p x)) : ∀ d i : Nat, i + d = xs.length → Ev (fun k => slices_IndexFunc__two_Check_3_1.l0 k xs (xs.length : Int) (i : Int) a3_0) (ixf p (xs.drop i) i) := by
  intro d
  induction d with
  | zero =>
    intro i hi
    refine Ev.step (fun k => by rw [slices_IndexFunc__two_Check_3_1.l0]) ?_
    simp only [if_neg (show ¬ ((i : Int) < (xs.length : Int)) by omega)]
    rw [List.drop_of_length_le (by omega)]
    exact Ev.now _
  | succ d ih =>
    intro i hi
    refine Ev.step (fun k => by rw [slices_IndexFunc__two_Check_3_1.l0]) ?_
    have er : rd_T144 xs (i : Int) = xs.getD i z144 := by unfold rd_T144; rw [Int.toNat_natCast]
    simp only [if_pos (show ((i : Int) < (xs.length : Int)) by omega), if_pos (show (0 ≤ (i : Int)) by omega), er]
    refine Ev.bind (hp _ (getD_mem xs i _ (by omega))) ?_
    rw [drop_getD xs i z144 (by omega), ixf]
    by_cases h : p (xs.getD i z144) = true
    · simp only [if_pos h]
      exact Ev.now _
    · simp only [if_neg h]
      rw [w1 i (by omega)]
      exact ih (i + 1) (by omega)
theorem slices_IndexFunc__two_Check_3_1_ev (xs : List (S144)) (a3_0 : Int) (p : S144 → Bool) (hb : xs.length ≤ 4611686018427387904) (hp : ∀ x ∈ xs, Ev (fun k => two_Check_3_1.f (x.f0) (x.f1) a3_0) (p x)) : Ev (fun k => slices_IndexFunc__two_Check_3_1.f k xs a3_0) (ixf p xs 0) := by
  unfold slices_IndexFunc__two_Check_3_1.f
  exact slices_IndexFunc__two_Check_3_1_l0_ev xs a3_0 p hb hp xs.length 0 (by omega)
theorem slices_ContainsFunc__two_Check_3_1_ev (xs : List (S144)) (a3_0 : Int) (p : S144 → Bool) (hb : xs.length ≤ 4611686018427387904) (hp : ∀ x ∈ xs, Ev (fun k => two_Check_3_1.f (x.f0) (x.f1) a3_0) (p x)) : Ev (fun k => slices_ContainsFunc__two_Check_3_1.f k xs a3_0) (xs.any p) := by
  unfold slices_ContainsFunc__two_Check_3_1.f
  refine Ev.bind (slices_IndexFunc__two_Check_3_1_ev xs a3_0 p hb hp) ?_
  rw [ixf_any]
  exact Ev.now _
theorem slices_IndexFunc__two_Check_3_l0_ev (xs : List (List (S144))) (a3_0 : Int) (p : (List (S144)) → Bool) (hb : xs.length ≤ 4611686018427387904) (hp : ∀ x ∈ xs, Ev (fun k => two_Check_3.f k x a3_0) (p x)) : ∀ d i : Nat, i + d = xs.length → Ev (fun k => slices_IndexFunc__two_Check_3.l0 k xs (xs.length : Int) (i : Int) a3_0) (ixf p (xs.drop i) i) := by
  intro d
  induction d with
  | zero =>
    intro i hi
    refine Ev.step (fun k => by rw [slices_IndexFunc__two_Check_3.l0]) ?_
    simp only [if_neg (show ¬ ((i : Int) < (xs.length : Int)) by omega)]
    rw [List.drop_of_length_le (by omega)]
    exact Ev.now _
  | succ d ih =>
    intro i hi
    refine Ev.step (fun k => by rw [slices_IndexFunc__two_Check_3.l0]) ?_
    have er : rd_L2 xs (i : Int) = xs.getD i [] := by unfold rd_L2; rw [Int.toNat_natCast]
    simp only [if_pos (show ((i : Int) < (xs.length : Int)) by omega), if_pos (show (0 ≤ (i : Int)) by omega), er]
    refine Ev.bind (hp _ (getD_mem xs i _ (by omega))) ?_
    rw [drop_getD xs i [] (by omega), ixf]
    by_cases h : p (xs.getD i []) = true
    · simp only [if_pos h]
      exact Ev.now _
    · simp only [if_neg h]
      rw [w1 i (by omega)]
      exact ih (i + 1) (by omega)
theorem slices_IndexFunc__two_Check_3_ev (xs : List (List (S144))) (a3_0 : Int) (p : (List (S144)) → Bool) (hb : xs.length ≤ 4611686018427387904) (hp : ∀ x ∈ xs, Ev (fun k => two_Check_3.f k x a3_0) (p x)) : Ev (fun k => slices_IndexFunc__two_Check_3.f k xs a3_0) (ixf p xs 0) := by
  unfold slices_IndexFunc__two_Check_3.f
  exact slices_IndexFunc__two_Check_3_l0_ev xs a3_0 p hb hp xs.length 0 (by omega)
theorem slices_ContainsFunc__two_Check_3_ev (xs : List (List (S144))) (a3_0 : Int) (p : (List (S144)) → Bool) (hb : xs.length ≤ 4611686018427387904) (hp : ∀ x ∈ xs, Ev (fun k => two_Check_3.f k x a3_0) (p x)) : Ev (fun k => slices_ContainsFunc__two_Check_3.f k xs a3_0) (xs.any p) := by
  unfold slices_ContainsFunc__two_Check_3.f
  refine Ev.bind (slices_IndexFunc__two_Check_3_ev xs a3_0 p hb hp) ?_
  rw [ixf_any]
  exact Ev.now _
theorem slices_IndexFunc__two_Check_4_l0_ev (xs : List (Int))  (p : Int → Bool) (hb : xs.length ≤ 4611686018427387904) (hp : ∀ x ∈ xs, Ev (fun k => two_Check_4.f x) (p x)) : ∀ d i : Nat, i + d = xs.length → Ev (fun k => slices_IndexFunc__two_Check_4.l0 k xs (xs.length : Int) (i : Int) ) (ixf p (xs.drop i) i) := by
  intro d
  induction d with
  | zero =>
    intro i hi
    refine Ev.step (fun k => by rw [slices_IndexFunc__two_Check_4.l0]) ?_
    simp only [if_neg (show ¬ ((i : Int) < (xs.length : Int)) by omega)]
    rw [List.drop_of_length_le (by omega)]
    exact Ev.now _
  | succ d ih =>
    intro i hi
    refine Ev.step (fun k => by rw [slices_IndexFunc__two_Check_4.l0]) ?_
    have er : rd xs (i : Int) = xs.getD i 0 := by unfold rd; rw [Int.toNat_natCast]
    simp only [if_pos (show ((i : Int) < (xs.length : Int)) by omega), if_pos (show (0 ≤ (i : Int)) by omega), er]
    refine Ev.bind (hp _ (getD_mem xs i _ (by omega))) ?_
    rw [drop_getD xs i 0 (by omega), ixf]
    by_cases h : p (xs.getD i 0) = true
    · simp only [if_pos h]
      exact Ev.now _
    · simp only [if_neg h]
      rw [w1 i (by omega)]
      exact ih (i + 1) (by omega)
theorem slices_IndexFunc__two_Check_4_ev (xs : List (Int))  (p : Int → Bool) (hb : xs.length ≤ 4611686018427387904) (hp : ∀ x ∈ xs, Ev (fun k => two_Check_4.f x) (p x)) : Ev (fun k => slices_IndexFunc__two_Check_4.f k xs ) (ixf p xs 0) := by
  unfold slices_IndexFunc__two_Check_4.f
  exact slices_IndexFunc__two_Check_4_l0_ev xs  p hb hp xs.length 0 (by omega)
theorem slices_ContainsFunc__two_Check_4_ev (xs : List (Int))  (p : Int → Bool) (hb : xs.length ≤ 4611686018427387904) (hp : ∀ x ∈ xs, Ev (fun k => two_Check_4.f x) (p x)) : Ev (fun k => slices_ContainsFunc__two_Check_4.f k xs ) (xs.any p) := by
  unfold slices_ContainsFunc__two_Check_4.f
  refine Ev.bind (slices_IndexFunc__two_Check_4_ev xs  p hb hp) ?_
  rw [ixf_any]
  exact Ev.now _
theorem c3_ev (r : List S144) (n : Int) (hb : r.length ≤ 4611686018427387904) : Ev (fun k => two_Check_3.f k r n) (r.any (badX n)) := by
  unfold two_Check_3.f
  exact Ev.bind (slices_ContainsFunc__two_Check_3_1_ev r n (badX n) hb (fun x _ => evs (c31_ev x n))) (Ev.now _)
theorem pchk_ev (a s : Int) (next : List (List S144)) (mark : List Int) (hr : ∀ r ∈ next, r.length ≤ 4611686018427387904) : Ev (fun k => two_Check.f k a s next mark) (vT a s next mark) := by
  have j1 : (1 ≤ a ∧ a ≤ 4) → ∀ b : Bool, (b = true ↔ next.length < 1 ∨ next.length > 4) → Ev (fun k => two_Check.j1 k b a s next mark (next.length : Int)) (if next.length < 1 ∨ next.length > 4 then 1 else if mark.length ≠ next.length then 3 else if next.any (lenB a) = true then 3
  else if badB next.length s = true then 2 else if next.any (fun r => r.any (badX next.length)) = true then 2 else if mark.any badM = true then 2 else 0) := by
    intro ha b hb
    refine Ev.step (fun k => by rw [two_Check.j1]) ?_
    by_cases h : next.length < 1 ∨ next.length > 4
    · simp only [if_pos h, if_pos (hb.2 h)]; exact Ev.now _
    simp only [if_neg h, if_neg (fun x => h (hb.1 x))]
    by_cases h2 : mark.length = next.length
    · simp only [if_pos (show (mark.length : Int) = (next.length : Int) by omega), if_neg (show ¬ mark.length ≠ next.length from fun x => x h2)]
      refine Ev.bind (slices_ContainsFunc__two_Check_1_ev next a s next mark (lenB a) (by omega) (fun r _ => evs (c1_ev r a s next mark ha))) ?_
      refine Ev.step (fun k => by rw [two_Check.j2]) ?_
      cases next.any (lenB a) with
      | true => simp only [if_true]; exact Ev.now _
      | false =>
        simp only [if_neg (show ¬ (false = true) by decide), c2_ev, Option.bind_some]
        cases badB next.length s with
        | true => simp only [if_true]; exact Ev.now _
        | false =>
          simp only [if_neg (show ¬ (false = true) by decide)]
          refine Ev.bind (slices_ContainsFunc__two_Check_3_ev next (next.length : Int) (fun r => r.any (badX next.length)) (by omega) (fun r hr' => c3_ev r _ (hr r hr'))) ?_
          cases next.any (fun r => r.any (badX next.length)) with
          | true => simp only [if_true]; exact Ev.now _
          | false =>
            simp only [if_neg (show ¬ (false = true) by decide)]
            refine Ev.bind (slices_ContainsFunc__two_Check_4_ev mark badM (by omega) (fun m _ => evs (c4_ev m))) ?_
            cases mark.any badM with
            | true => simp only [if_true]; exact Ev.now _
            | false => simp only [if_neg (show ¬ (false = true) by decide)]; exact Ev.now _
    · simp only [if_neg (show ¬ (mark.length : Int) = (next.length : Int) by omega), if_pos (show mark.length ≠ next.length from h2)]
      refine Ev.step (fun k => by rw [two_Check.j2]) ?_
      simp only [if_true]; exact Ev.now _
  have j0 : ∀ b : Bool, (b = true ↔ (a < 1 ∨ a > 4)) → Ev (fun k => two_Check.j0 k b a s next mark) (vT a s next mark) := by
    intro b hb
    refine Ev.step (fun k => by rw [two_Check.j0]) ?_
    unfold vT
    by_cases h : a < 1 ∨ a > 4
    · simp only [if_pos h, if_pos (hb.2 h)]; exact Ev.now _
    simp only [if_neg h, if_neg (fun x => h (hb.1 x))]
    by_cases h1 : next.length < 1
    · simp only [if_pos (show (next.length : Int) < 1 by omega)]; exact j1 (by omega) true ⟨fun _ => .inl h1, fun _ => rfl⟩
    · simp only [if_neg (show ¬ (next.length : Int) < 1 by omega)]; exact j1 (by omega) _ (by rw [decide_eq_true_iff]; omega)
  unfold two_Check.f
  by_cases h1 : a < 1
  · simp only [if_pos h1]; exact j0 true ⟨fun _ => .inl h1, fun _ => rfl⟩
  simp only [if_neg h1]
  exact j0 _ (by rw [decide_eq_true_iff]; omega)
theorem badB_t {n b : Int} (h : badB n b = true) : b < 0 ∨ (¬ b < 0 ∧ b ≥ n) := by
  unfold badB at h
  rw [Bool.or_eq_true, decide_eq_true_iff, decide_eq_true_iff] at h
  omega
theorem badB_f {n b : Int} (h : badB n b = false) : ¬ b < 0 ∧ ¬ b ≥ n := by
  unfold badB at h
  rw [Bool.or_eq_false_iff] at h
  exact ⟨of_decide_eq_false h.1, of_decide_eq_false h.2⟩
theorem badX_f {n : Int} {x : S144} (h : badX n x = false) : ¬ x.f0 < 0 ∧ ¬ x.f0 ≥ n ∧ (x.f1 = 1 ∨ (¬ x.f1 = 1 ∧ x.f1 = -1)) := by
  unfold badX at h
  rw [Bool.or_eq_false_iff] at h
  obtain ⟨h1, h2⟩ := badB_f h.1
  refine ⟨h1, h2, ?_⟩
  by_cases e : x.f1 = 1
  · exact .inl e
  · refine .inr ⟨e, ?_⟩
    have h3 := h.2
    rw [decide_eq_false e, Bool.not_false, Bool.true_and] at h3
    exact bne_eq_false_iff_eq.1 h3
theorem badX_t {n : Int} {x : S144} (h : badX n x = true) : x.f0 < 0 ∨ (¬ x.f0 < 0 ∧ x.f0 ≥ n) ∨ (¬ x.f0 < 0 ∧ ¬ x.f0 ≥ n ∧ ¬ x.f1 = 1 ∧ ¬ x.f1 = -1) := by
  by_cases h1 : x.f0 < 0
  · exact .inl h1
  by_cases h2 : x.f0 ≥ n
  · exact .inr (.inl ⟨h1, h2⟩)
  refine .inr (.inr ⟨h1, h2, ?_⟩)
  unfold badX badB at h
  rw [decide_eq_false h1, decide_eq_false h2, Bool.false_or, Bool.false_or, Bool.and_eq_true] at h
  refine ⟨fun e => ?_, fun e => ?_⟩
  · have := h.1; rw [decide_eq_true e] at this; cases this
  · have := h.2; rw [e] at this; cases this
theorem badM_f {m : Int} (h : badM m = false) : m = 0 ∨ (¬ m = 0 ∧ m = 1) := by
  unfold badM at h
  by_cases e : m = 0
  · exact .inl e
  · rw [decide_eq_false e, Bool.not_false, Bool.true_and] at h
    exact .inr ⟨e, bne_eq_false_iff_eq.1 h⟩
theorem badM_t {m : Int} (h : badM m = true) : ¬ m = 0 ∧ ¬ m = 1 := by
  unfold badM at h
  rw [Bool.and_eq_true] at h
  refine ⟨fun e => ?_, fun e => ?_⟩
  · have := h.1; rw [decide_eq_true e] at this; cases this
  · have := h.2; rw [e] at this; cases this
theorem rchk_l1 (a s : Int) (next : List (List S144)) (mark : List Int) (ha : 1 ≤ a ∧ a ≤ 4) (hn : next.length ≤ 4) (hm : mark.length = next.length) (hl : next.any (lenB a) = false) :
    Ev (fun k => evermoreref25_Check.l1 k (next.length : Int) 0 a s next mark) (if next.any (fun r => r.any (badX next.length)) = true then 2 else if mark.any badM = true then 2 else 0) := by
  have hlen : ∀ i, i < next.length → ((next.getD i []).length : Int) = a + 2 := by
    intro i hi
    cases e : lenB a (next.getD i []) with
    | true => exact absurd (List.any_eq_true.2 ⟨_, getD_mem next i [] hi, e⟩) (by rw [hl]; decide)
    | false => exact bne_eq_false_iff_eq.1 e
  have row : ∀ i, i < next.length → ∀ r : Int, ((next.getD i []).any (badX next.length) = true → r = 2) → (badM (mark.getD i 0) = true → r = 2) → ((next.getD i []).any (badX next.length) = false → badM (mark.getD i 0) = false → Ev (fun k => evermoreref25_Check.l1 k (next.length : Int) ((i + 1 : Nat) : Int) a s next mark) r) → Ev (fun k => evermoreref25_Check.l1 k (next.length : Int) (i : Int) a s next mark) r := by
    intro i hi r h1 h2 h3
    refine Ev.step (fun k => by rw [evermoreref25_Check.l1]) ?_
    simp only [if_pos (show (i : Int) < (next.length : Int) by omega)]
    have hli := hlen i hi
    have g := anyL_ev0 z144 (next.getD i []) (badX next.length) 2 r (fun k j => evermoreref25_Check.l2 k (next.length : Int) (i : Int) j a s next mark) (by
      intro j hj e
      refine Ev.step (fun k => by rw [evermoreref25_Check.l2]) ?_
      simp only [rdR, rdX, w64 (n := a + 2) (by omega) (by omega), if_pos (show (j : Int) < a + 2 by omega), if_pos (show (0 : Int) ≤ (i : Int) by omega), if_pos (show (i : Int) < (next.length : Int) by omega), if_pos (show (0 : Int) ≤ (j : Int) by omega), if_pos (show (j : Int) < ((next.getD i []).length : Int) by omega)]
      rcases badX_t e with e | ⟨e1, e2⟩ | ⟨e1, e2, e3, e4⟩
      · simp only [if_pos e]; exact Ev.now _
      · simp only [if_neg e1, if_pos e2]; exact Ev.now _
      · simp only [if_neg e1, if_neg e2, if_neg e3, if_neg e4]; exact Ev.now _) (by
      intro j hj e r' hr'
      refine Ev.step (fun k => by rw [evermoreref25_Check.l2]) ?_
      obtain ⟨e1, e2, e3⟩ := badX_f e
      simp only [rdR, rdX, w64 (n := a + 2) (by omega) (by omega), if_pos (show (j : Int) < a + 2 by omega), if_pos (show (0 : Int) ≤ (i : Int) by omega), if_pos (show (i : Int) < (next.length : Int) by omega), if_pos (show (0 : Int) ≤ (j : Int) by omega), if_pos (show (j : Int) < ((next.getD i []).length : Int) by omega), if_neg e1, if_neg e2, w1 j (by omega)]
      rcases e3 with e3 | ⟨e3, e4⟩
      · simp only [if_pos e3]; exact hr'
      · simp only [if_neg e3, if_pos e4]; exact hr') (by
      intro e
      refine Ev.step (fun k => by rw [evermoreref25_Check.l2]) ?_
      simp only [rdN, w64 (n := a + 2) (by omega) (by omega), if_neg (show ¬ ((next.getD i []).length : Int) < a + 2 by omega), if_pos (show (0 : Int) ≤ (i : Int) by omega), if_pos (show (i : Int) < (mark.length : Int) by omega), w1 i (by omega)]
      cases em : badM (mark.getD i 0) with
      | true =>
        obtain ⟨m1, m2⟩ := badM_t em
        simp only [if_neg m1, if_neg m2, h2 em]; exact Ev.now _
      | false =>
        rcases badM_f em with m1 | ⟨m1, m2⟩
        · simp only [if_pos m1]; exact h3 e em
        · simp only [if_neg m1, if_pos m2]; exact h3 e em)
    refine evc g ?_
    cases e : (next.getD i []).any (badX next.length) with
    | true => rw [h1 e]; rfl
    | false => rfl
  have key := anyN_ev next.length (fun i => (next.getD i []).any (badX next.length) || badM (mark.getD i 0)) 2 0 (fun k i => evermoreref25_Check.l1 k (next.length : Int) i a s next mark) (by
    intro i hi e
    rw [Bool.or_eq_true] at e
    exact row i hi 2 (fun _ => rfl) (fun _ => rfl) (fun e1 e2 => by rw [e1, e2] at e; simp at e)) (by
    intro i hi e r hr
    rw [Bool.or_eq_false_iff] at e
    exact row i hi r (fun e1 => by rw [e.1] at e1; cases e1) (fun e1 => by rw [e.2] at e1; cases e1) (fun _ _ => hr)) (by
    intro _
    refine Ev.step (fun k => by rw [evermoreref25_Check.l1]) ?_
    simp only [if_neg (show ¬ (next.length : Int) < (next.length : Int) by omega)]
    exact Ev.now _)
  refine evc key ?_
  have e : (List.range next.length).any (fun i => (next.getD i []).any (badX next.length) || badM (mark.getD i 0)) = (next.any (fun r => r.any (badX next.length)) || mark.any badM) := by
    rw [Bool.eq_iff_iff, Bool.or_eq_true, List.any_eq_true, List.any_eq_true, List.any_eq_true]
    constructor
    · rintro ⟨i, hi, h⟩
      rw [List.mem_range] at hi
      rcases (Bool.or_eq_true _ _).mp h with h | h
      · exact .inl ⟨_, getD_mem next i [] hi, h⟩
      · exact .inr ⟨_, getD_mem mark i 0 (by omega), h⟩
    · rintro (⟨r, hr, h⟩ | ⟨m, hm', h⟩)
      · obtain ⟨i, hi, rfl⟩ := List.getElem_of_mem hr
        refine ⟨i, List.mem_range.2 hi, ?_⟩
        rw [List.getD_eq_getElem?_getD, List.getElem?_eq_getElem hi]
        simp only [Option.getD_some]
        rw [h, Bool.true_or]
      · obtain ⟨i, hi, rfl⟩ := List.getElem_of_mem hm'
        refine ⟨i, List.mem_range.2 (by omega), ?_⟩
        rw [show mark.getD i 0 = mark[i] by rw [List.getD_eq_getElem?_getD, List.getElem?_eq_getElem hi]; rfl, h, Bool.or_true]
  rw [e]
  cases next.any (fun r => r.any (badX next.length)) <;> cases mark.any badM <;> rfl
theorem rchk_ev (a s : Int) (next : List (List S144)) (mark : List Int) : Ev (fun k => evermoreref25_Check.f k a s next mark) (vT a s next mark) := by
  have j1 : (1 ≤ a ∧ a ≤ 4) → ∀ b : Bool, (b = true ↔ next.length < 1 ∨ next.length > 4) → Ev (fun k => evermoreref25_Check.j1 k (next.length : Int) b a s next mark) (if next.length < 1 ∨ next.length > 4 then 1 else if mark.length ≠ next.length then 3 else if next.any (lenB a) = true then 3
  else if badB next.length s = true then 2 else if next.any (fun r => r.any (badX next.length)) = true then 2 else if mark.any badM = true then 2 else 0) := by
    intro ha b hb
    refine Ev.step (fun k => by rw [evermoreref25_Check.j1]) ?_
    by_cases h : next.length < 1 ∨ next.length > 4
    · simp only [if_pos h, if_pos (hb.2 h)]; exact Ev.now _
    simp only [if_neg h, if_neg (fun x => h (hb.1 x))]
    by_cases h2 : mark.length = next.length
    · simp only [if_pos (show (mark.length : Int) = (next.length : Int) by omega), if_neg (show ¬ mark.length ≠ next.length from fun x => x h2)]
      refine anyL_ev0 [] next (lenB a) 3 _ (fun k i => evermoreref25_Check.l0 k (next.length : Int) i a s next mark) ?_ ?_ ?_
      · intro i hi e
        refine Ev.step (fun k => by rw [evermoreref25_Check.l0]) ?_
        have e' : ¬ ((next.getD i []).length : Int) = a + 2 := bne_iff_ne.1 e
        simp only [rdR, w64 (n := a + 2) (by omega) (by omega), if_pos (show (0 : Int) ≤ (i : Int) by omega), if_pos (show (i : Int) < (next.length : Int) by omega), if_neg e']
        exact Ev.now _
      · intro i hi e r hr
        refine Ev.step (fun k => by rw [evermoreref25_Check.l0]) ?_
        have e' : ((next.getD i []).length : Int) = a + 2 := bne_eq_false_iff_eq.1 e
        simp only [rdR, w64 (n := a + 2) (by omega) (by omega), if_pos (show (0 : Int) ≤ (i : Int) by omega), if_pos (show (i : Int) < (next.length : Int) by omega), if_pos e', w1 i (by omega)]
        exact hr
      · intro hl
        refine Ev.step (fun k => by rw [evermoreref25_Check.l0]) ?_
        simp only [if_neg (show ¬ (next.length : Int) < (next.length : Int) by omega)]
        have j3 : ∀ b : Bool, b = badB next.length s → Ev (fun k => evermoreref25_Check.j3 k (next.length : Int) b a s next mark) (if badB next.length s = true then 2 else if next.any (fun r => r.any (badX next.length)) = true then 2 else if mark.any badM = true then 2 else 0) := by
          intro b hb'
          refine Ev.step (fun k => by rw [evermoreref25_Check.j3]) ?_
          rw [← hb']
          cases b with
          | true => simp only [if_true]; exact Ev.now _
          | false => simp only [if_neg (show ¬ (false = true) by decide)]; exact rchk_l1 a s next mark ha (by omega) h2 hl
        by_cases q : s < 0
        · simp only [if_pos q]; exact j3 true (by unfold badB; rw [decide_eq_true q]; rfl)
        · simp only [if_neg q]; exact j3 _ (by unfold badB; rw [decide_eq_false q]; rfl)
    · simp only [if_neg (show ¬ (mark.length : Int) = (next.length : Int) by omega), if_pos (show mark.length ≠ next.length from h2)]
      exact Ev.now _
  have j0 : ∀ b : Bool, (b = true ↔ (a < 1 ∨ a > 4)) → Ev (fun k => evermoreref25_Check.j0 k b a s next mark) (vT a s next mark) := by
    intro b hb
    refine Ev.step (fun k => by rw [evermoreref25_Check.j0]) ?_
    unfold vT
    by_cases h : a < 1 ∨ a > 4
    · simp only [if_pos h, if_pos (hb.2 h)]; exact Ev.now _
    simp only [if_neg h, if_neg (fun x => h (hb.1 x))]
    by_cases h1 : next.length < 1
    · simp only [if_pos (show (next.length : Int) < 1 by omega)]; exact j1 (by omega) true ⟨fun _ => .inl h1, fun _ => rfl⟩
    · simp only [if_neg (show ¬ (next.length : Int) < 1 by omega)]; exact j1 (by omega) _ (by rw [decide_eq_true_iff]; omega)
  unfold evermoreref25_Check.f
  by_cases h1 : a < 1
  · simp only [if_pos h1]; exact j0 true ⟨fun _ => .inl h1, fun _ => rfl⟩
  simp only [if_neg h1]
  exact j0 _ (by rw [decide_eq_true_iff]; omega)
structure WOk (a s : Int) (next : List (List S144)) (mark : List Int) : Prop where
  a1 : 1 ≤ a ∧ a ≤ 4
  n1 : 1 ≤ next.length ∧ next.length ≤ 4
  m : mark.length = next.length
  st : 0 ≤ s ∧ s < (next.length : Int)
  len : ∀ i, i < next.length → ((next.getD i []).length : Int) = a + 2
  x : ∀ i, i < next.length → ∀ j, j < (next.getD i []).length → 0 ≤ ((next.getD i []).getD j z144).f0 ∧ ((next.getD i []).getD j z144).f0 < (next.length : Int) ∧ (((next.getD i []).getD j z144).f1 = 1 ∨ ((next.getD i []).getD j z144).f1 = -1)
theorem anyf {α : Type} {xs : List α} {p : α → Bool} (h : ¬ xs.any p = true) : ∀ x ∈ xs, p x = false := by
  intro x hx
  cases e : p x with
  | false => rfl
  | true => exact absurd (List.any_eq_true.2 ⟨x, hx, e⟩) h
theorem vT_ok {a s : Int} {next : List (List S144)} {mark : List Int} (h : vT a s next mark = 0) : WOk a s next mark := by
  unfold vT at h
  by_cases h1 : a < 1 ∨ a > 4
  · rw [if_pos h1] at h; omega
  rw [if_neg h1] at h
  by_cases h2 : next.length < 1 ∨ next.length > 4
  · rw [if_pos h2] at h; omega
  rw [if_neg h2] at h
  by_cases h3 : mark.length ≠ next.length
  · rw [if_pos h3] at h; omega
  rw [if_neg h3] at h
  by_cases h4 : next.any (lenB a) = true
  · rw [if_pos h4] at h; omega
  rw [if_neg h4] at h
  by_cases h5 : badB next.length s = true
  · rw [if_pos h5] at h; omega
  rw [if_neg h5] at h
  by_cases h6 : next.any (fun r => r.any (badX next.length)) = true
  · rw [if_pos h6] at h; omega
  rw [Bool.not_eq_true] at h5
  have b5 := badB_f h5
  refine ⟨by omega, by omega, by omega, by omega, fun i hi => bne_eq_false_iff_eq.1 (anyf h4 _ (getD_mem next i [] hi)), fun i hi j hj => ?_⟩
  have e := anyf (by rw [anyf h6 _ (getD_mem next i [] hi)]; decide) _ (getD_mem (next.getD i []) j z144 hj)
  obtain ⟨e1, e2, e3⟩ := badX_f e
  omega
/-- where one is behind some steps: the state, the place -/
def stp (next : List (List S144)) (tape : List Int) (c : Nat × Int) : Nat × Int :=
  (((next.getD c.1 []).getD (tape.getD c.2.toNat 0).toNat z144).f0.toNat, c.2 + ((next.getD c.1 []).getD (tape.getD c.2.toNat 0).toNat z144).f1)
def cfg (next : List (List S144)) (tape : List Int) (c0 : Nat × Int) : Nat → Nat × Int
  | 0 => c0
  | i + 1 => stp next tape (cfg next tape c0 i)
def ins (L : Nat) (c : Nat × Int) : Prop := 0 ≤ c.2 ∧ c.2 < (L : Int)
structure Tp (a : Int) (tape : List Int) : Prop where
  lo : ∀ i, i < tape.length → 0 ≤ tape.getD i 0 ∧ tape.getD i 0 < a + 2
theorem stp_ok {a s : Int} {next : List (List S144)} {mark : List Int} (K : WOk a s next mark) {tape : List Int} (T : Tp a tape) {c : Nat × Int} (hq : c.1 < next.length) (hi : ins tape.length c) :
    (stp next tape c).1 < next.length ∧ ((stp next tape c).2 = c.2 + 1 ∨ (stp next tape c).2 = c.2 - 1) ∧ 0 ≤ tape.getD c.2.toNat 0 ∧ (tape.getD c.2.toNat 0) < ((next.getD c.1 []).length : Int) ∧ 0 ≤ ((next.getD c.1 []).getD (tape.getD c.2.toNat 0).toNat z144).f0 := by
  obtain ⟨i1, i2⟩ := hi
  have t := T.lo c.2.toNat (by omega)
  have hl := K.len c.1 hq
  have x := K.x c.1 hq (tape.getD c.2.toNat 0).toNat (by omega)
  unfold stp
  refine ⟨by show Int.toNat _ < _; omega, ?_, by omega, by omega, by omega⟩
  show c.2 + _ = c.2 + 1 ∨ c.2 + _ = c.2 - 1
  omega
theorem cfg_q {a s : Int} {next : List (List S144)} {mark : List Int} (K : WOk a s next mark) {tape : List Int} (T : Tp a tape) {c0 : Nat × Int} (h0 : c0.1 < next.length) : ∀ i, (∀ j, j < i → ins tape.length (cfg next tape c0 j)) → (cfg next tape c0 i).1 < next.length
  | 0, _ => h0
  | i + 1, h => (stp_ok K T (cfg_q K T h0 i (fun j hj => h j (by omega))) (h i (by omega))).1
theorem cfg_add (next : List (List S144)) (tape : List Int) (c0 : Nat × Int) (i j : Nat) (h : cfg next tape c0 i = cfg next tape c0 j) : ∀ k, cfg next tape c0 (i + k) = cfg next tape c0 (j + k)
  | 0 => h
  | k + 1 => by
    show stp next tape (cfg next tape c0 (i + k)) = stp next tape (cfg next tape c0 (j + k))
    rw [cfg_add next tape c0 i j h k]
/-- who is within for so many steps as there are states and places stays within -/
theorem stays {a s : Int} {next : List (List S144)} {mark : List Int} (K : WOk a s next mark) {tape : List Int} (T : Tp a tape) {c0 : Nat × Int} (h0 : c0.1 < next.length) (h : ∀ i, i ≤ tape.length * next.length → ins tape.length (cfg next tape c0 i)) : ins tape.length (cfg next tape c0 (tape.length * next.length + 1)) := by
  obtain ⟨i, j, hij, hj, he⟩ := pigeon (tape.length * next.length) (fun i => (cfg next tape c0 i).2.toNat + tape.length * (cfg next tape c0 i).1) (fun i hi => by
    have hq := cfg_q K T h0 i (fun j hj => h j (by omega))
    have hin := h i hi
    unfold ins at hin
    have e : tape.length * (cfg next tape c0 i).1 + tape.length ≤ tape.length * next.length := by
      rw [← Nat.mul_succ]; exact Nat.mul_le_mul_left _ hq
    omega)
  have hi1 := h i (by omega)
  have hj1 := h j hj
  unfold ins at hi1 hj1
  have hL : 0 < tape.length := by omega
  have e1 : (cfg next tape c0 i).1 = (cfg next tape c0 j).1 := by
    have := congrArg (· / tape.length) he
    simp only [Nat.add_mul_div_left _ _ hL] at this
    rw [Nat.div_eq_of_lt (by omega), Nat.div_eq_of_lt (by omega)] at this
    omega
  have e2 : (cfg next tape c0 i).2.toNat = (cfg next tape c0 j).2.toNat := by
    simp only [e1] at he; omega
  have ec : cfg next tape c0 i = cfg next tape c0 j := Prod.ext e1 (by omega)
  have := cfg_add next tape c0 i j ec (tape.length * next.length + 1 - j)
  rw [show j + (tape.length * next.length + 1 - j) = tape.length * next.length + 1 by omega] at this
  rw [← this]
  exact h _ (by omega)
/-- the answer -/
def rr (next : List (List S144)) (mark tape : List Int) : Nat → Nat → Nat × Int → Bool × Int
  | 0, _, _ => (false, 0)
  | d + 1, i, c => if c.2 < 0 then (false, (i : Int)) else if c.2 = (tape.length : Int) then (mark.getD c.1 0 == 1, (i : Int)) else rr next mark tape d (i + 1) (stp next tape c)
theorem rrun_l0 {a s : Int} {next : List (List S144)} {mark : List Int} (K : WOk a s next mark) {tape : List Int} (T : Tp a tape) (hL : tape.length ≤ 62) : ∀ d i (c : Nat × Int), i + d = tape.length * next.length + 1 → c.1 < next.length → -1 ≤ c.2 → c.2 ≤ (tape.length : Int) →
    Ev (fun k => evermoreref25_Run.l0 k tape (c.1 : Int) c.2 (i : Int) a s next mark) (rr next mark tape d i c) := by
  have hM : tape.length * next.length ≤ 62 * 4 := Nat.mul_le_mul hL K.n1.2
  have eM : wrap64 ((tape.length : Int) * (next.length : Int)) = ((tape.length * next.length : Nat) : Int) := by
    have : (tape.length : Int) * (next.length : Int) = ((tape.length * next.length : Nat) : Int) := by rw [Int.natCast_mul]
    rw [this, w64 (by omega) (by omega)]
  intro d
  induction d with
  | zero =>
    intro i c hi hq h1 h2
    refine Ev.step (fun k => by rw [evermoreref25_Run.l0]) ?_
    simp only [eM, if_neg (show ¬ (i : Int) ≤ ((tape.length * next.length : Nat) : Int) by omega)]
    exact Ev.now _
  | succ d ih =>
    intro i c hi hq h1 h2
    refine Ev.step (fun k => by rw [evermoreref25_Run.l0]) ?_
    simp only [eM, if_pos (show (i : Int) ≤ ((tape.length * next.length : Nat) : Int) by omega)]
    rw [rr]
    by_cases g1 : c.2 < 0
    · simp only [if_pos g1]; exact Ev.now _
    simp only [if_neg g1]
    have hm := K.m
    by_cases g2 : c.2 = (tape.length : Int)
    · simp only [if_pos g2, rdN, if_pos (show (0 : Int) ≤ (c.1 : Int) by omega), if_pos (show (c.1 : Int) < (mark.length : Int) by omega)]
      exact Ev.now _
    simp only [if_neg g2]
    obtain ⟨p, hp⟩ := Int.eq_ofNat_of_zero_le (show 0 ≤ c.2 by omega)
    have st := stp_ok K T (c := c) hq ⟨by omega, by omega⟩
    have ih' := ih (i + 1) (stp next tape c) (by omega) st.1 (by omega) (by omega)
    obtain ⟨s1, s2, s3, s4, s5⟩ := st
    have ep : c.2.toNat = p := by rw [hp, Int.toNat_natCast]
    rw [ep] at s3 s4 s5
    obtain ⟨x, hx⟩ := Int.eq_ofNat_of_zero_le s3
    have ex : (tape.getD p 0).toNat = x := by rw [hx, Int.toNat_natCast]
    rw [ex] at s5
    rw [hx] at s4
    have e0 : ((stp next tape c).1 : Int) = ((next.getD c.1 []).getD x z144).f0 := by unfold stp; rw [ep, ex]; show ((Int.toNat _ : Nat) : Int) = _; omega
    have e1 : (stp next tape c).2 = (p : Int) + ((next.getD c.1 []).getD x z144).f1 := by unfold stp; rw [ep, ex]; show c.2 + _ = _; rw [hp]
    rw [e0, e1] at ih'
    rw [hp] at g1 g2 h2 ⊢
    simp only [rdN, rdR, rdX, hx, if_pos (show (0 : Int) ≤ (c.1 : Int) by omega), if_pos (show (c.1 : Int) < (next.length : Int) by omega), if_pos (show (0 : Int) ≤ (p : Int) by omega), if_pos (show (p : Int) < (tape.length : Int) by omega), if_pos (show (0 : Int) ≤ (x : Int) by omega), if_pos s4, w1 i (by omega), w64 (n := (p : Int) + ((next.getD c.1 []).getD x z144).f1) (by omega) (by omega)]
    exact ih'
theorem prun_l0 {a s : Int} {next : List (List S144)} {mark : List Int} (K : WOk a s next mark) {tape : List Int} (T : Tp a tape) (hL : tape.length ≤ 62) (hL1 : 1 ≤ tape.length) (c0 : Nat × Int) (h0 : c0.1 < next.length) : ∀ d i, i + d = tape.length * next.length + 1 → (∀ j, j < i → ins tape.length (cfg next tape c0 j)) → -1 ≤ (cfg next tape c0 i).2 → (cfg next tape c0 i).2 ≤ (tape.length : Int) →
    Ev (fun k => two_Run.l0 k (i : Int) tape (cfg next tape c0 i).2 ((cfg next tape c0 i).1 : Int) a s next mark) ((rr next mark tape d i (cfg next tape c0 i)).1, (rr next mark tape d i (cfg next tape c0 i)).2, 0) := by
  have hM : tape.length * next.length ≤ 62 * 4 := Nat.mul_le_mul hL K.n1.2
  have eM : wrap64 ((tape.length : Int) * (next.length : Int)) = ((tape.length * next.length : Nat) : Int) := by
    have : (tape.length : Int) * (next.length : Int) = ((tape.length * next.length : Nat) : Int) := by rw [Int.natCast_mul]
    rw [this, w64 (by omega) (by omega)]
  intro d
  induction d with
  | zero =>
    intro i hi hb h1 h2
    have hin : ins tape.length (cfg next tape c0 i) := by
      rw [show i = tape.length * next.length + 1 by omega] at hb ⊢
      exact stays K T h0 (fun j hj => hb j (by omega))
    generalize cfg next tape c0 i = c at hin h1 h2 ⊢
    unfold ins at hin
    refine Ev.step (fun k => by rw [two_Run.l0]) ?_
    simp only [if_pos (show c.2 ≥ 0 by omega)]
    refine Ev.step (fun k => by rw [two_Run.j1]) ?_
    simp only [decide_eq_true (show c.2 < (tape.length : Int) by omega), if_true, eM, if_pos (show (i : Int) > ((tape.length * next.length : Nat) : Int) by omega)]
    exact Ev.now _
  | succ d ih =>
    intro i hi hb h1 h2
    have hq := cfg_q K T h0 i hb
    have ihs := ih (i + 1) (by omega)
    have hm := K.m
    by_cases hin : ins tape.length (cfg next tape c0 i)
    · have ihs' := ihs (fun j hj => by rcases Nat.lt_or_ge j i with h | h; exact hb j h; rw [show j = i by omega]; exact hin)
      have hc : cfg next tape c0 (i + 1) = stp next tape (cfg next tape c0 i) := rfl
      rw [hc] at ihs'
      generalize cfg next tape c0 i = c at hin hq h1 h2 ihs' ⊢
      have st := stp_ok K T (c := c) hq hin
      unfold ins at hin
      have ih' := ihs' (by omega) (by omega)
      obtain ⟨p, hp⟩ := Int.eq_ofNat_of_zero_le hin.1
      obtain ⟨s1, s2, s3, s4, s5⟩ := st
      have ep : c.2.toNat = p := by rw [hp, Int.toNat_natCast]
      rw [ep] at s3 s4 s5
      obtain ⟨x, hx⟩ := Int.eq_ofNat_of_zero_le s3
      have ex : (tape.getD p 0).toNat = x := by rw [hx, Int.toNat_natCast]
      rw [ex] at s5
      rw [hx] at s4
      have e0 : ((stp next tape c).1 : Int) = ((next.getD c.1 []).getD x z144).f0 := by unfold stp; rw [ep, ex]; show ((Int.toNat _ : Nat) : Int) = _; omega
      have e1 : (stp next tape c).2 = (p : Int) + ((next.getD c.1 []).getD x z144).f1 := by unfold stp; rw [ep, ex]; show c.2 + _ = _; rw [hp]
      have er : rr next mark tape (d + 1) i c = rr next mark tape d (i + 1) (stp next tape c) := by rw [rr, if_neg (by omega), if_neg (by omega)]
      rw [er]
      rw [e0, e1] at ih'
      refine Ev.step (fun k => by rw [two_Run.l0]) ?_
      simp only [if_pos (show c.2 ≥ 0 by omega)]
      refine Ev.step (fun k => by rw [two_Run.j1]) ?_
      simp only [decide_eq_true (show c.2 < (tape.length : Int) by omega), if_true, eM, if_neg (show ¬ (i : Int) > ((tape.length * next.length : Nat) : Int) by omega)]
      rw [hp] at hin ⊢
      simp only [rdN, rdR, rdX, hx, if_pos (show (0 : Int) ≤ (c.1 : Int) by omega), if_pos (show (c.1 : Int) < (next.length : Int) by omega), if_pos (show (0 : Int) ≤ (p : Int) by omega), if_pos (show (p : Int) < (tape.length : Int) by omega), if_pos (show (0 : Int) ≤ (x : Int) by omega), if_pos s4, w1 i (by omega), w64 (n := (p : Int) + ((next.getD c.1 []).getD x z144).f1) (by omega) (by omega)]
      exact ih'
    · generalize cfg next tape c0 i = c at hin hq h1 h2 ⊢
      unfold ins at hin
      have j1f : Ev (fun k => two_Run.j1 k (i : Int) tape c.2 (c.1 : Int) false a s next mark) ((rr next mark tape (d + 1) i c).1, (rr next mark tape (d + 1) i c).2, 0) := by
        refine Ev.step (fun k => by rw [two_Run.j1]) ?_
        simp only [if_neg (show ¬ (false = true) by decide)]
        rw [rr]
        by_cases g : c.2 < 0
        · simp only [if_pos g, if_neg (show ¬ c.2 > 0 by omega)]; exact Ev.now _
        · simp only [if_neg g, if_pos (show c.2 = (tape.length : Int) by omega), if_pos (show c.2 > 0 by omega), rdN, if_pos (show (0 : Int) ≤ (c.1 : Int) by omega), if_pos (show (c.1 : Int) < (mark.length : Int) by omega)]
          exact Ev.now _
      refine Ev.step (fun k => by rw [two_Run.l0]) ?_
      by_cases g : c.2 ≥ 0
      · simp only [if_pos g, decide_eq_false (show ¬ c.2 < (tape.length : Int) by omega)]; exact j1f
      · simp only [if_neg g]; exact j1f
theorem tape_ok {a : Int} (ha : 1 ≤ a ∧ a ≤ 4) {w : List Int} (hw : ∀ x ∈ w, 0 ≤ x ∧ x < a) : Tp a ([a] ++ w ++ [a + 1]) := by
  refine ⟨fun i hi => ?_⟩
  have hm := getD_mem ([a] ++ w ++ [a + 1]) i 0 hi
  generalize ([a] ++ w ++ [a + 1]).getD i 0 = x at hm
  rcases List.mem_append.1 hm with hm | hm
  · rcases List.mem_append.1 hm with hm | hm
    · rw [List.mem_singleton.1 hm]; omega
    · have := hw x hm; omega
  · rw [List.mem_singleton.1 hm]; omega
def resS (a s : Int) (next : List (List S144)) (mark w : List Int) : Bool × Int := rr next mark ([a] ++ w ++ [a + 1]) (([a] ++ w ++ [a + 1]).length * next.length + 1) 0 (s.toNat, 0)
theorem TwoRuns : evermorelaw_TwoRuns.PureH := by
  intro a s next mark w hp hwp
  obtain ⟨_, _, ⟨_, hnb, hni⟩, _⟩ := hp
  have hr : ∀ r ∈ next, r.length ≤ 4611686018427387904 := fun r hx => by have := (hni r hx).2.1; omega
  refine Ev.rounds ?_
  unfold evermorelaw_TwoRuns.f
  refine Ev.bind (pchk_ev a s next mark hr) ?_
  refine Ev.bind (rchk_ev a s next mark) ?_
  by_cases h0 : ¬ vT a s next mark = 0
  · have hrun : Ev (fun k => two_Run.f k a s next mark w) (false, 0, vT a s next mark) := by
      unfold two_Run.f
      refine Ev.bind (pchk_ev a s next mark hr) ?_
      simp only [if_neg h0]; exact Ev.now _
    refine Ev.bind hrun ?_
    simp only [if_true, if_neg h0, if_neg (show ¬ (false = true) by decide)]
    exact Ev.now _
  replace h0 := Classical.not_not.1 h0
  have K := vT_ok h0
  by_cases hm : ¬ mayS a w = 0
  · have hrun : Ev (fun k => two_Run.f k a s next mark w) (false, 0, mayS a w) := by
      unfold two_Run.f
      refine Ev.bind (pchk_ev a s next mark hr) ?_
      simp only [if_pos h0]
      refine Ev.bind (word_May_ev a w) ?_
      simp only [if_neg hm]; exact Ev.now _
    refine Ev.bind hrun ?_
    simp only [if_true, if_pos h0]
    refine Ev.bind (evermoreref1_May_ev a w) ?_
    simp only [if_neg hm, if_true, if_neg (show ¬ (false = true) by decide)]
    exact Ev.now _
  replace hm := Classical.not_not.1 hm
  obtain ⟨_, _, m1, m2⟩ := mayS_ok hm
  have T := tape_ok K.a1 m2
  have hL : ([a] ++ w ++ [a + 1]).length = w.length + 2 := by simp
  have wa : wrap64 (a + 1) = a + 1 := w64 (by have := K.a1; omega) (by have := K.a1; omega)
  have es : ((s.toNat : Nat) : Int) = s := by have := K.st; omega
  have hs : s.toNat < next.length := by have := K.st; omega
  have hrun : Ev (fun k => two_Run.f k a s next mark w) ((resS a s next mark w).1, (resS a s next mark w).2, 0) := by
    unfold two_Run.f
    refine Ev.bind (pchk_ev a s next mark hr) ?_
    simp only [if_pos h0]
    refine Ev.bind (word_May_ev a w) ?_
    simp only [if_pos hm, wa]
    refine Ev.bind (evs (show slices_Concat_int_int.f [[a], w, [a + 1]] = some ([a] ++ w ++ [a + 1]) from ?_)) ?_
    · unfold slices_Concat_int_int.f
      have ef : ([[a], w, [a + 1]] : List (List Int)).flatten = [a] ++ w ++ [a + 1] := by simp
      rw [ef, if_pos (by rw [hL]; omega)]
    · have := prun_l0 K T (by rw [hL]; omega) (by rw [hL]; omega) (s.toNat, 0) hs (([a] ++ w ++ [a + 1]).length * next.length + 1) 0 (by omega) (fun j hj => by omega) (by show (-1 : Int) ≤ 0; decide) (by show (0 : Int) ≤ _; omega)
      rw [show (cfg next ([a] ++ w ++ [a + 1]) (s.toNat, 0) 0) = (s.toNat, 0) from rfl, es] at this
      exact this
  refine Ev.bind hrun ?_
  simp only [if_true, if_pos h0]
  refine Ev.bind (evermoreref1_May_ev a w) ?_
  simp only [if_pos hm]
  have href : Ev (fun k => evermoreref25_Run.f k a s next mark w) (resS a s next mark w) := by
    unfold evermoreref25_Run.f
    simp only [Option.bind_some, List.length_cons, List.length_nil, if_pos (show 0 + 1 + w.length < 17592186044416 by omega), List.length_append, wa]
    have := rrun_l0 K T (by rw [hL]; omega) (([a] ++ w ++ [a + 1]).length * next.length + 1) 0 (s.toNat, 0) (by omega) hs (by show (-1 : Int) ≤ 0; decide) (by show (0 : Int) ≤ _; omega)
    rw [es] at this
    exact this
  refine Ev.bind href ?_
  simp only [beq_self_eq_true, if_true]
  exact Ev.now _

end Go.Proofs.Ytaaibckhpbmbeaa.Pure
