/- For every two words, every number of rounds and every place the program's answers are the reference's. No conditions beyond the statement's. -/
import Derived.Test.YtklkcdphcmimoaaPEhrenWinsx6
import Derived.Test.YtklkcdphcmimoaaWSized
namespace Go.Proofs.Ytklkcdphcmimoaa.Pure
open Go.RowKit Go.Proofs.Ytklkcdphcmimoaa.PEhrenWins Go.Proofs.YtklkcdphcmimoaaW.PrintWords Go.Proofs.YtklkcdphcmimoaaW.PrintLast Go.Proofs.YtklkcdphcmimoaaW.PrintMore
set_option linter.unusedVariables false
set_option linter.unusedSimpArgs false
theorem w64 {n : Int} (h : -9223372036854775808 ≤ n) (h' : n ≤ 9223372036854775807) : wrap64 n = n := by unfold wrap64; omega
theorem rdn (l : List Int) (i : Nat) (h : i < l.length) : rd l (i : Int) = l[i] := by
  unfold rd; rw [Int.toNat_natCast, List.getD_eq_getElem?_getD, List.getElem?_eq_getElem h]; rfl
theorem rdOfn {α : Type} (d : α) (l : List α) (i : Nat) (h : i < l.length) : rdOf d l (i : Int) = l[i] := by
  unfold rdOf; rw [Int.toNat_natCast, List.getD_eq_getElem?_getD, List.getElem?_eq_getElem h]; rfl
theorem evc {α : Type} {g : Nat → Option α} {a b : α} (h : Ev g a) (e : a = b) : Ev g b := e ▸ h
theorem rdL (l : List (List Int)) (n : Nat) : rd_L1 l (n : Int) = l.getD n [] := by unfold rd_L1; rw [Int.toNat_natCast]
theorem rdN (l : List Int) (n : Nat) : rd l (n : Int) = l.getD n 0 := by unfold rd; rw [Int.toNat_natCast]
theorem w1 (i : Nat) (h : i ≤ 9223372036854775000) : wrap64 ((i : Int) + 1) = ((i + 1 : Nat) : Int) := by rw [w64 (by omega) (by omega)]; omega
theorem getD_mem {α : Type} (l : List α) (n : Nat) (d : α) (h : n < l.length) : l.getD n d ∈ l := by
  rw [List.getD_eq_getElem?_getD, List.getElem?_eq_getElem h]; exact List.getElem_mem h
theorem drop_getD {α : Type} (l : List α) (n : Nat) (d : α) (h : n < l.length) : l.drop n = l.getD n d :: l.drop (n + 1) := by
  rw [List.drop_eq_getElem_cons h, List.getD_eq_getElem?_getD, List.getElem?_eq_getElem h]; rfl
/-- the first place at which p holds, from i on; -1: none -/
def ixf {α : Type} (p : α → Bool) : List α → Nat → Int
  | [], _ => -1
  | x :: xs, i => if p x = true then (i : Int) else ixf p xs (i + 1)
theorem ixf_any {α : Type} (p : α → Bool) : ∀ (xs : List α) (i : Nat), decide (ixf p xs i ≥ 0) = xs.any p
  | [], _ => by simp [ixf]
  | x :: xs, i => by
    have ih := ixf_any p xs (i + 1)
    by_cases h : p x = true
    · rw [ixf, if_pos h, List.any_cons, h]
      simp
    · rw [ixf, if_neg h, List.any_cons, ih]
      simp [h]
/-- a loop over a list that ends at the first element of which p holds -/
theorem anyL_ev {α R : Type} (d0 : α) (xs : List α) (p : α → Bool) (a b : R) (L : Nat → Int → Option R)
    (hstop : ∀ i : Nat, i < xs.length → p (xs.getD i d0) = true → Ev (fun k => L k (i : Int)) a)
    (hgo : ∀ i : Nat, i < xs.length → p (xs.getD i d0) = false → ∀ r, Ev (fun k => L k ((i + 1 : Nat) : Int)) r → Ev (fun k => L k (i : Int)) r)
    (hend : xs.any p = false → Ev (fun k => L k (xs.length : Int)) b) : ∀ d i : Nat, i + d = xs.length → ((xs.drop i).any p = false → xs.any p = false) → Ev (fun k => L k (i : Int)) (if (xs.drop i).any p = true then a else b) := by
  intro d
  induction d with
  | zero =>
    intro i hi hp
    rw [List.drop_of_length_le (by omega)] at hp ⊢
    rw [show i = xs.length by omega]
    exact hend (hp rfl)
  | succ d ih =>
    intro i hi hp
    rw [drop_getD xs i d0 (by omega), List.any_cons] at hp ⊢
    cases h : p (xs.getD i d0) with
    | true => exact hstop i (by omega) h
    | false => exact hgo i (by omega) h _ (ih (i + 1) (by omega) (fun e => hp (by rw [h, e]; rfl)))
theorem anyL_ev0 {α R : Type} (d0 : α) (xs : List α) (p : α → Bool) (a b : R) (L : Nat → Int → Option R)
    (hstop : ∀ i : Nat, i < xs.length → p (xs.getD i d0) = true → Ev (fun k => L k (i : Int)) a)
    (hgo : ∀ i : Nat, i < xs.length → p (xs.getD i d0) = false → ∀ r, Ev (fun k => L k ((i + 1 : Nat) : Int)) r → Ev (fun k => L k (i : Int)) r)
    (hend : xs.any p = false → Ev (fun k => L k (xs.length : Int)) b) : Ev (fun k => L k 0) (if xs.any p = true then a else b) := by
  have := anyL_ev d0 xs p a b L hstop hgo hend xs.length 0 (by omega) (fun h => by rwa [List.drop_zero] at h)
  rwa [List.drop_zero] at this
/-- a loop over numbers that ends at the first one of which p holds -/
theorem anyN_ev {R : Type} (n : Nat) (p : Nat → Bool) (a b : R) (L : Nat → Int → Option R)
    (hstop : ∀ i : Nat, i < n → p i = true → Ev (fun k => L k (i : Int)) a)
    (hgo : ∀ i : Nat, i < n → p i = false → ∀ r, Ev (fun k => L k ((i + 1 : Nat) : Int)) r → Ev (fun k => L k (i : Int)) r)
    (hend : (List.range n).any p = false → Ev (fun k => L k (n : Int)) b) : Ev (fun k => L k 0) (if (List.range n).any p = true then a else b) := by
  have e : (List.range n).length = n := List.length_range
  have g : ∀ i, i < n → (List.range n).getD i 0 = i := fun i hi => by rw [List.getD_eq_getElem?_getD, List.getElem?_range hi]; rfl
  exact anyL_ev0 0 (List.range n) p a b L (fun i hi h => by rw [e] at hi; rw [g i hi] at h; exact hstop i hi h) (fun i hi h r hr => by rw [e] at hi; rw [g i hi] at h; exact hgo i hi h r hr) (fun h => by rw [e]; exact hend h)
theorem evs {α : Type} {x : Option α} {r : α} (h : x = some r) : Ev (fun _ => x) r := ⟨0, fun _ _ => h⟩
/-- the first fault -/
def fe (f : Nat → Int) : List Nat → Int
  | [] => 0
  | i :: is => if f i = 0 then fe f is else f i
theorem fe_range (f : Nat → Int) (n : Nat) : ∀ d i, i + d = n → fe f ((List.range n).drop i) = 0 → ∀ j, i ≤ j → j < n → f j = 0 := by
  intro d
  induction d with
  | zero => intro i hi _ j h1 h2; omega
  | succ d ih =>
    intro i hi h j h1 h2
    rw [List.drop_eq_getElem_cons (by rw [List.length_range]; omega), List.getElem_range, fe] at h
    by_cases e : f i = 0
    · rw [if_pos e] at h
      rcases Nat.lt_or_ge i j with hj | hj
      · exact ih (i + 1) (by omega) h j (by omega) h2
      · rw [show j = i by omega]; exact e
    · rw [if_neg e] at h; exact absurd h e
theorem fe_ok {f : Nat → Int} {n : Nat} (h : fe f (List.range n) = 0) : ∀ j, j < n → f j = 0 := fun j hj => fe_range f n n 0 (by omega) (by rwa [List.drop_zero]) j (Nat.zero_le _) hj
/-- a loop over numbers that ends at the first fault -/
theorem feN_ev {R : Type} (n : Nat) (f : Nat → Int) (G : Int → R) (b : R) (hb : G 0 = b) (L : Nat → Int → Option R)
    (hstop : ∀ i : Nat, i < n → f i ≠ 0 → Ev (fun k => L k (i : Int)) (G (f i)))
    (hgo : ∀ i : Nat, i < n → f i = 0 → ∀ r, Ev (fun k => L k ((i + 1 : Nat) : Int)) r → Ev (fun k => L k (i : Int)) r)
    (hend : Ev (fun k => L k (n : Int)) b) : Ev (fun k => L k 0) (G (fe f (List.range n))) := by
  have key : ∀ d i : Nat, i + d = n → Ev (fun k => L k (i : Int)) (G (fe f ((List.range n).drop i))) := by
    intro d
    induction d with
    | zero =>
      intro i hi
      rw [List.drop_of_length_le (by rw [List.length_range]; omega), show i = n by omega, fe, hb]
      exact hend
    | succ d ih =>
      intro i hi
      rw [List.drop_eq_getElem_cons (by rw [List.length_range]; omega), List.getElem_range, fe]
      by_cases e : f i = 0
      · rw [if_pos e]; exact hgo i (by omega) e _ (ih (i + 1) (by omega))
      · rw [if_neg e]; exact hstop i (by omega) e
  have := key n 0 (by omega)
  rwa [List.drop_zero] at this
/-- a row that is filled from the left -/
def fillR {α : Type} (v : Nat → α) (z : α) (n i : Nat) : List α := (List.range i).map v ++ List.replicate (n - i) z
theorem fillR_len {α : Type} (v : Nat → α) (z : α) {n i : Nat} (h : i ≤ n) : (fillR v z n i).length = n := by
  unfold fillR; rw [List.length_append, List.length_map, List.length_range, List.length_replicate]; omega
theorem fillR_set {α : Type} (v : Nat → α) (z : α) {n i : Nat} (h : i < n) (x : α) (hx : x = v i) : (fillR v z n i).set i x = fillR v z n (i + 1) := by
  subst hx
  unfold fillR
  have e : List.replicate (n - i) z = z :: List.replicate (n - (i + 1)) z := by
    rw [show n - i = (n - (i + 1)) + 1 by omega]; rfl
  rw [e, List.range_succ, List.map_append, List.append_assoc, List.set_append_right _ _ (by rw [List.length_map, List.length_range]; omega), List.length_map, List.length_range, Nat.sub_self]
  rfl
theorem fillR_zero {α : Type} (v : Nat → α) (z : α) (n : Nat) : fillR v z n 0 = List.replicate n z := by unfold fillR; rfl
theorem fillR_full {α : Type} (v : Nat → α) (z : α) (n : Nat) : fillR v z n n = (List.range n).map v := by unfold fillR; rw [Nat.sub_self]; simp
theorem getD_mapRange {α : Type} (v : Nat → α) (d : α) {n i : Nat} (h : i < n) : ((List.range n).map v).getD i d = v i := by
  rw [List.getD_eq_getElem?_getD, List.getElem?_map, List.getElem?_range h]; rfl
/-- a loop over numbers that ends at the first one of which p holds, and tells it -/
theorem findN_ev {R : Type} (n : Nat) (p : Nat → Bool) (g : Nat → R) (b : R) (L : Nat → Int → Option R)
    (hstop : ∀ i : Nat, i < n → p i = true → Ev (fun k => L k (i : Int)) (g i))
    (hgo : ∀ i : Nat, i < n → p i = false → ∀ r, Ev (fun k => L k ((i + 1 : Nat) : Int)) r → Ev (fun k => L k (i : Int)) r)
    (hend : Ev (fun k => L k (n : Int)) b) : Ev (fun k => L k 0) (match (List.range n).find? p with | some i => g i | none => b) := by
  have key : ∀ d i : Nat, i + d = n → Ev (fun k => L k (i : Int)) (match ((List.range n).drop i).find? p with | some i => g i | none => b) := by
    intro d
    induction d with
    | zero =>
      intro i hi
      rw [List.drop_of_length_le (by rw [List.length_range]; omega), show i = n by omega]
      exact hend
    | succ d ih =>
      intro i hi
      rw [List.drop_eq_getElem_cons (by rw [List.length_range]; omega), List.getElem_range, List.find?_cons]
      cases e : p i with
      | true => exact hstop i (by omega) e
      | false => exact hgo i (by omega) e _ (ih (i + 1) (by omega))
  have := key n 0 (by omega)
  rwa [List.drop_zero] at this
def okB (n : Int) (l : List Int) : Bool := l.all (fun a => decide (0 ≤ a) && decide (a < n))
theorem okB_cons (n a : Int) (l : List Int) : okB n (a :: l) = (decide (0 ≤ a) && decide (a < n) && okB n l) := rfl
def mayS (n : Int) (l : List Int) : Int := if n < 1 ∨ n > 4 then 2 else if l.length > 60 then 1 else if okB n l = true then 0 else 2
theorem mayS_ok {n : Int} {l : List Int} (h : mayS n l = 0) : 1 ≤ n ∧ n ≤ 4 ∧ l.length ≤ 60 ∧ ∀ a ∈ l, 0 ≤ a ∧ a < n := by
  unfold mayS at h
  by_cases h1 : n < 1 ∨ n > 4
  · rw [if_pos h1] at h; omega
  · rw [if_neg h1] at h
    by_cases h2 : l.length > 60
    · rw [if_pos h2] at h; omega
    · rw [if_neg h2] at h
      by_cases h3 : okB n l = true
      · refine ⟨by omega, by omega, by omega, ?_⟩
        simpa [okB] using h3
      · rw [if_neg h3] at h; omega
theorem word_May_l0 (n : Int) (l : List Int) (hl : l.length ≤ 60) : ∀ d i : Nat, i + d = l.length → Ev (fun k => word_May.l0 k n l (l.length : Int) (i : Int)) (if okB n (l.drop i) = true then 0 else 2) := by
  intro d
  induction d with
  | zero =>
    intro i hi
    refine Ev.step (fun k => by rw [word_May.l0]) ?_
    simp only [if_neg (show ¬ ((i : Int) < (l.length : Int)) by omega)]
    rw [List.drop_of_length_le (by omega)]
    exact Ev.now _
  | succ d ih =>
    intro i hi
    refine Ev.step (fun k => by rw [word_May.l0]) ?_
    have h1 : i < l.length := by omega
    simp only [if_pos (show ((i : Int) < (l.length : Int)) by omega), if_pos (show (0 ≤ (i : Int)) by omega), rdn l i h1]
    rw [List.drop_eq_getElem_cons h1]
    have := ih (i + 1) (by omega)
    rw [show wrap64 ((i : Int) + 1) = ((i + 1 : Nat) : Int) from by rw [w64 (by omega) (by omega)]; omega]
    by_cases e : l[i] < 0
    · simp only [if_pos e]
      exact evc (Ev.now 2) (by rw [okB_cons, decide_eq_false (show ¬ (0 ≤ l[i]) by omega)]; rfl)
    · simp only [if_neg e]
      by_cases e' : l[i] ≥ n
      · simp only [if_pos e']
        exact evc (Ev.now 2) (by rw [okB_cons, decide_eq_false (show ¬ (l[i] < n) by omega), Bool.and_false]; rfl)
      · simp only [if_neg e']
        exact evc this (by rw [okB_cons, decide_eq_true (show (0 ≤ l[i]) by omega), decide_eq_true (show (l[i] < n) by omega), Bool.true_and, Bool.true_and])
theorem word_May_ev (n : Int) (l : List Int) : Ev (fun k => word_May.f k n l) (mayS n l) := by
  have key : ∀ b : Bool, (b = true ↔ (n < 1 ∨ n > 4)) → Ev (fun k => word_May.j0 k n l b) (mayS n l) := by
    intro b hb
    refine Ev.step (fun k => by rw [word_May.j0]) ?_
    unfold mayS
    by_cases h : b = true
    · simp only [if_pos h, if_pos (hb.1 h)]; exact Ev.now _
    · simp only [if_neg h, if_neg (fun x => h (hb.2 x))]
      by_cases h2 : l.length > 60
      · simp only [if_pos h2, if_pos (show (l.length : Int) > 60 by omega)]; exact Ev.now _
      · simp only [if_neg h2, if_neg (show ¬ (l.length : Int) > 60 by omega)]
        exact word_May_l0 n l (by omega) l.length 0 (by omega)
  unfold word_May.f
  by_cases h : n < 1
  · simp only [if_pos h]; exact key true (by simp; omega)
  · simp only [if_neg h]; exact key _ (by simp; omega)
theorem wf64 {n : Int} (h : (Lit.int .i64 n).wf = true) : -9223372036854775808 ≤ n ∧ n ≤ 9223372036854775807 := by
  simp [Lit.wf, IntKind.min, IntKind.max, IntKind.signed, IntKind.bits] at h
  omega
/-- may two places be pointed to, behind others -/
def sg (a b : Int) : Int := if a < b then -1 else if a > b then 1 else 0
def fitB (u v a b : List Int) (p q : Nat) : Bool := decide (u.getD p 0 = v.getD q 0) && !((List.range a.length).any (fun i => !(decide (sg (a.getD i 0) p = sg (b.getD i 0) q))))
def ansW (W : List Int → List Int → List Int → List Int → Bool) (u v a b : List Int) (p : Nat) : Option Nat :=
  (List.range v.length).find? (fun q => fitB u v a b p q && W u v (a ++ [(p : Int)]) (b ++ [(q : Int)]))
def win : Nat → List Int → List Int → List Int → List Int → Bool
  | 0, _, _, _, _ => true
  | k + 1, u, v, a, b => if (List.range u.length).any (fun p => (ansW (win k) u v a b p).isNone) = true then false else if (List.range v.length).any (fun q => (ansW (win k) v u b a q).isNone) = true then false else true
theorem cmp_ev (a b : Int) : cmp_Compare_int.f a b = some (sg a b) := by
  unfold cmp_Compare_int.f cmp_isNaN_int.f sg
  have e : ∀ x : Int, (x != x) = false := fun x => by simp
  simp only [e, Option.bind_some, if_neg (show ¬ (false = true) by decide)]
  split
  · rfl
  · split <;> rfl
theorem sgn_ev (a b : Int) : evermoreref33_sign.f a b = some (sg a b) := by
  unfold evermoreref33_sign.f sg
  split
  · rfl
  · split <;> rfl
theorem pfit_ev (u v a b : List Int) (hab : b.length = a.length) (ha : a.length ≤ 1000) (p q : Nat) (hp : p < u.length) (hq : q < v.length) : Ev (fun k => ehren_table_fits.f k u v a b (p : Int) (q : Int)) (fitB u v a b p q) := by
  unfold ehren_table_fits.f fitB
  simp only [rdN, if_pos (show (0 : Int) ≤ (p : Int) by omega), if_pos (show (p : Int) < (u.length : Int) by omega), if_pos (show (0 : Int) ≤ (q : Int) by omega), if_pos (show (q : Int) < (v.length : Int) by omega)]
  by_cases e : u.getD p 0 = v.getD q 0
  · simp only [if_pos e, decide_eq_true e, Bool.true_and]
    refine evc (anyN_ev a.length (fun i => !(decide (sg (a.getD i 0) p = sg (b.getD i 0) q))) false true (fun k i => ehren_table_fits.l0 k (p : Int) (q : Int) (a.length : Int) i u v a b) ?_ ?_ ?_) (by cases (List.range a.length).any (fun i => !(decide (sg (a.getD i 0) p = sg (b.getD i 0) q))) <;> rfl)
    · intro i hi h
      have h' : ¬ sg (a.getD i 0) p = sg (b.getD i 0) q := by
        intro x; rw [decide_eq_true x] at h; cases h
      refine Ev.step (fun k => by rw [ehren_table_fits.l0]) ?_
      simp only [rdN, cmp_ev, Option.bind_some, if_pos (show (i : Int) < (a.length : Int) by omega), if_pos (show (0 : Int) ≤ (i : Int) by omega), if_pos (show (i : Int) < (b.length : Int) by omega), if_neg h']
      exact Ev.now _
    · intro i hi h r hr
      have h' : sg (a.getD i 0) p = sg (b.getD i 0) q := Classical.byContradiction fun x => by rw [decide_eq_false x] at h; cases h
      refine Ev.step (fun k => by rw [ehren_table_fits.l0]) ?_
      simp only [rdN, cmp_ev, Option.bind_some, if_pos (show (i : Int) < (a.length : Int) by omega), if_pos (show (0 : Int) ≤ (i : Int) by omega), if_pos (show (i : Int) < (b.length : Int) by omega), if_pos h', w1 i (by omega)]
      exact hr
    · intro _
      refine Ev.step (fun k => by rw [ehren_table_fits.l0]) ?_
      simp only [if_neg (show ¬ (a.length : Int) < (a.length : Int) by omega)]
      exact Ev.now _
  · simp only [if_neg e, decide_eq_false e, Bool.false_and]
    exact Ev.now _
theorem rfit_ev (u v a b : List Int) (hab : b.length = a.length) (ha : a.length ≤ 1000) (p q : Nat) (hp : p < u.length) (hq : q < v.length) : Ev (fun k => evermoreref33_Fits.f k u v a b (p : Int) (q : Int)) (fitB u v a b p q) := by
  unfold evermoreref33_Fits.f fitB
  simp only [rdN, if_pos (show (0 : Int) ≤ (p : Int) by omega), if_pos (show (p : Int) < (u.length : Int) by omega), if_pos (show (0 : Int) ≤ (q : Int) by omega), if_pos (show (q : Int) < (v.length : Int) by omega)]
  by_cases e : u.getD p 0 = v.getD q 0
  · simp only [if_pos e, decide_eq_true e, Bool.true_and]
    refine evc (anyN_ev a.length (fun i => !(decide (sg (a.getD i 0) p = sg (b.getD i 0) q))) false true (fun k i => evermoreref33_Fits.l0 k a b (p : Int) (q : Int) i) ?_ ?_ ?_) (by cases (List.range a.length).any (fun i => !(decide (sg (a.getD i 0) p = sg (b.getD i 0) q))) <;> rfl)
    · intro i hi h
      have h' : ¬ sg (a.getD i 0) p = sg (b.getD i 0) q := by
        intro x; rw [decide_eq_true x] at h; cases h
      refine Ev.step (fun k => by rw [evermoreref33_Fits.l0]) ?_
      simp only [rdN, sgn_ev, Option.bind_some, if_pos (show (i : Int) < (a.length : Int) by omega), if_pos (show (0 : Int) ≤ (i : Int) by omega), if_pos (show (i : Int) < (b.length : Int) by omega), if_neg h']
      exact Ev.now _
    · intro i hi h r hr
      have h' : sg (a.getD i 0) p = sg (b.getD i 0) q := Classical.byContradiction fun x => by rw [decide_eq_false x] at h; cases h
      refine Ev.step (fun k => by rw [evermoreref33_Fits.l0]) ?_
      simp only [rdN, sgn_ev, Option.bind_some, if_pos (show (i : Int) < (a.length : Int) by omega), if_pos (show (0 : Int) ≤ (i : Int) by omega), if_pos (show (i : Int) < (b.length : Int) by omega), if_pos h', w1 i (by omega)]
      exact hr
    · intro _
      refine Ev.step (fun k => by rw [evermoreref33_Fits.l0]) ?_
      simp only [if_neg (show ¬ (a.length : Int) < (a.length : Int) by omega)]
      exact Ev.now _
  · simp only [if_neg e, decide_eq_false e, Bool.false_and]
    exact Ev.now _
theorem with_ev (u v a b : List Int) (hab : b.length = a.length) (ha : a.length ≤ 1000) (p q : Int) : ehren_table_with.f u v a b p q = some (u, v, a ++ [p], b ++ [q]) := by
  unfold ehren_table_with.f
  have e1 : slices_Clone_int_int.f a = some a := by unfold slices_Clone_int_int.f; rw [if_pos (by omega)]
  have e2 : slices_Clone_int_int.f b = some b := by unfold slices_Clone_int_int.f; rw [if_pos (by omega)]
  simp only [e1, e2, Option.bind_some, List.length_cons, List.length_nil, if_pos (show a.length + (0 + 1) < 17592186044416 by omega), if_pos (show b.length + (0 + 1) < 17592186044416 by omega)]
/-- the answers of both, for k rounds, out of who wins -/
def PW (k : Nat) : Prop := ∀ u v a b : List Int, u.length ≤ 8 → v.length ≤ 8 → b.length = a.length → a.length + k ≤ 500 → Ev (fun n => ehren_table_wins.f n u v a b (k : Int)) (win k u v a b) ∧ Ev (fun n => evermoreref33_Wins.f n u v a b (k : Int)) (win k u v a b)
def prA (o : Option Nat) : Int × Bool := match o with | some i => ((i : Int), true) | none => (0, false)
def rrA (o : Option Nat) : Int := match o with | some i => (i : Int) | none => -1
theorem pans {k : Nat} (H : PW k) (u v a b : List Int) (hu : u.length ≤ 8) (hv : v.length ≤ 8) (hab : b.length = a.length) (ha : a.length + (k + 1) ≤ 500) (p : Nat) (hp : p < u.length) : Ev (fun n => ehren_table_reply.f n u v a b (p : Int) (k : Int)) (prA (ansW (win k) u v a b p)) := by
  refine Ev.step (fun k => by rw [ehren_table_reply.f]) ?_
  refine evc (findN_ev v.length (fun q => fitB u v a b p q && win k u v (a ++ [(p : Int)]) (b ++ [(q : Int)])) (fun i => ((i : Int), true)) (0, false) (fun n i => ehren_table_reply.l0 n (p : Int) (k : Int) (v.length : Int) i u v a b) ?_ ?_ ?_) ?_
  · intro q hq h
    rw [Bool.and_eq_true] at h
    refine Ev.step (fun k => by rw [ehren_table_reply.l0]) ?_
    simp only [if_pos (show (q : Int) < (v.length : Int) by omega)]
    refine Ev.bind (pfit_ev u v a b hab (by omega) p q hp hq) ?_
    simp only [h.1, if_true, with_ev u v a b hab (by omega), Option.bind_some]
    refine Ev.bind (H u v _ _ hu hv (by simp [hab]) (by simp; omega)).1 ?_
    simp only [h.2, if_true]
    exact Ev.now _
  · intro q hq h r hr
    refine Ev.step (fun k => by rw [ehren_table_reply.l0]) ?_
    simp only [if_pos (show (q : Int) < (v.length : Int) by omega)]
    refine Ev.bind (pfit_ev u v a b hab (by omega) p q hp hq) ?_
    cases e : fitB u v a b p q with
    | true =>
      rw [e, Bool.true_and] at h
      simp only [if_true, with_ev u v a b hab (by omega), Option.bind_some]
      refine Ev.bind (H u v _ _ hu hv (by simp [hab]) (by simp; omega)).1 ?_
      simp only [h, if_neg (show ¬ (false = true) by decide), w1 q (by omega)]
      exact hr
    | false =>
      simp only [if_neg (show ¬ (false = true) by decide), w1 q (by omega)]
      exact hr
  · refine Ev.step (fun k => by rw [ehren_table_reply.l0]) ?_
    simp only [if_neg (show ¬ (v.length : Int) < (v.length : Int) by omega)]
    exact Ev.now _
  · unfold prA ansW
    rfl
theorem rans {k : Nat} (H : PW k) (u v a b : List Int) (hu : u.length ≤ 8) (hv : v.length ≤ 8) (hab : b.length = a.length) (ha : a.length + (k + 1) ≤ 500) (p : Nat) (hp : p < u.length) : Ev (fun n => evermoreref33_Answer.f n u v a b (p : Int) (k : Int)) (rrA (ansW (win k) u v a b p)) := by
  refine Ev.step (fun k => by rw [evermoreref33_Answer.f]) ?_
  refine evc (findN_ev v.length (fun q => fitB u v a b p q && win k u v (a ++ [(p : Int)]) (b ++ [(q : Int)])) (fun i => (i : Int)) (-1) (fun n i => evermoreref33_Answer.l0 n u v a b (p : Int) (k : Int) i) ?_ ?_ ?_) ?_
  · intro q hq h
    rw [Bool.and_eq_true] at h
    refine Ev.step (fun k => by rw [evermoreref33_Answer.l0]) ?_
    simp only [if_pos (show (q : Int) < (v.length : Int) by omega)]
    refine Ev.bind (rfit_ev u v a b hab (by omega) p q hp hq) ?_
    simp only [h.1, if_true, Option.bind_some, List.length_nil, List.nil_append, Nat.zero_add, if_pos (show a.length < 17592186044416 by omega), if_pos (show b.length < 17592186044416 by omega)]
    refine Ev.bind (H u v _ _ hu hv (by simp [hab]) (by simp; omega)).2 ?_
    simp only [h.2, if_true]
    exact Ev.now _
  · intro q hq h r hr
    refine Ev.step (fun k => by rw [evermoreref33_Answer.l0]) ?_
    simp only [if_pos (show (q : Int) < (v.length : Int) by omega)]
    refine Ev.bind (rfit_ev u v a b hab (by omega) p q hp hq) ?_
    cases e : fitB u v a b p q with
    | true =>
      rw [e, Bool.true_and] at h
      simp only [if_true, Option.bind_some, List.length_nil, List.nil_append, Nat.zero_add, if_pos (show a.length < 17592186044416 by omega), if_pos (show b.length < 17592186044416 by omega)]
      refine Ev.bind (H u v _ _ hu hv (by simp [hab]) (by simp; omega)).2 ?_
      simp only [h, if_neg (show ¬ (false = true) by decide), w1 q (by omega)]
      exact hr
    | false =>
      simp only [if_neg (show ¬ (false = true) by decide), w1 q (by omega)]
      exact hr
  · refine Ev.step (fun k => by rw [evermoreref33_Answer.l0]) ?_
    simp only [if_neg (show ¬ (v.length : Int) < (v.length : Int) by omega)]
    exact Ev.now _
  · unfold rrA ansW
    rfl
theorem prA_2 (o : Option Nat) : (prA o).2 = !o.isNone := by cases o <;> rfl
theorem rrA_neg (o : Option Nat) : (rrA o < 0) ↔ o.isNone = true := by
  cases o with
  | none => simp [rrA]
  | some i => simp [rrA]
theorem wk (k : Nat) (h : k ≤ 500) : wrap64 (((k + 1 : Nat) : Int) - 1) = (k : Int) := by rw [w64 (by omega) (by omega)]; omega
theorem pw_all : ∀ k, PW k
  | 0 => by
    intro u v a b _ _ _ _
    refine ⟨?_, ?_⟩
    · refine Ev.step (fun k => by rw [ehren_table_wins.f]) ?_
      exact Ev.now true
    · refine Ev.step (fun k => by rw [evermoreref33_Wins.f]) ?_
      exact Ev.now true
  | k + 1 => by
    have H := pw_all k
    intro u v a b hu hv hab ha
    refine ⟨?_, ?_⟩
    · refine Ev.step (fun k => by rw [ehren_table_wins.f]) ?_
      simp only [if_neg (show ¬ ((k + 1 : Nat) : Int) = 0 by omega), ehren_table_turned.f, Option.bind_some]
      have s2 : ((([(⟨u, v, a, b⟩ : S162), (⟨v, u, b, a⟩ : S162)] : List S162).length : Nat) : Int) = 2 := rfl
      have r0 : rd_T162 [(⟨u, v, a, b⟩ : S162), (⟨v, u, b, a⟩ : S162)] 0 = ⟨u, v, a, b⟩ := rfl
      have r1 : rd_T162 [(⟨u, v, a, b⟩ : S162), (⟨v, u, b, a⟩ : S162)] 1 = ⟨v, u, b, a⟩ := rfl
      simp only [s2]
      unfold win
      have inner : ∀ (m m' : Int) (u v a b : List Int), u.length ≤ 8 → v.length ≤ 8 → b.length = a.length → a.length + (k + 1) ≤ 500 → wrap64 (m + 1) = m' → ∀ r : Bool, Ev (fun n => ehren_table_wins.l0 n ((k + 1 : Nat) : Int) [(⟨u, v, a, b⟩ : S162), (⟨v, u, b, a⟩ : S162)] 2 m') r → True := fun _ _ _ _ _ _ _ _ _ _ _ _ _ => trivial
      have row : ∀ (ts : List S162) (m : Int) (u v a b : List Int), u.length ≤ 8 → v.length ≤ 8 → b.length = a.length → a.length + (k + 1) ≤ 500 → ∀ r : Bool, Ev (fun n => ehren_table_wins.l0 n ((k + 1 : Nat) : Int) ts 2 (wrap64 (m + 1))) r →
          Ev (fun n => ehren_table_wins.l1 n ((k + 1 : Nat) : Int) ts 2 m (u.length : Int) 0 u v a b) (if (List.range u.length).any (fun p => (ansW (win k) u v a b p).isNone) = true then false else r) := by
        intro ts m u v a b hu hv hab ha r hr
        refine anyN_ev u.length (fun p => (ansW (win k) u v a b p).isNone) false r (fun n i => ehren_table_wins.l1 n ((k + 1 : Nat) : Int) ts 2 m (u.length : Int) i u v a b) ?_ ?_ ?_
        · intro p hp h
          refine Ev.step (fun k => by rw [ehren_table_wins.l1]) ?_
          simp only [if_pos (show (p : Int) < (u.length : Int) by omega), wk k (by omega)]
          refine Ev.bind (pans H u v a b hu hv hab ha p hp) ?_
          simp only [prA_2, h, Bool.not_true, if_neg (show ¬ (false = true) by decide)]
          exact Ev.now _
        · intro p hp h r' hr'
          refine Ev.step (fun k => by rw [ehren_table_wins.l1]) ?_
          simp only [if_pos (show (p : Int) < (u.length : Int) by omega), wk k (by omega)]
          refine Ev.bind (pans H u v a b hu hv hab ha p hp) ?_
          simp only [prA_2, h, Bool.not_false, if_true, w1 p (by omega)]
          exact hr'
        · intro _
          refine Ev.step (fun k => by rw [ehren_table_wins.l1]) ?_
          simp only [if_neg (show ¬ (u.length : Int) < (u.length : Int) by omega)]
          exact hr
      refine Ev.step (fun k => by rw [ehren_table_wins.l0]) ?_
      simp only [r0, s2, if_pos (show (0 : Int) < 2 by decide), if_pos (show (0 : Int) ≤ 0 by decide)]
      refine row _ 0 u v a b hu hv hab ha _ ?_
      simp only [show wrap64 (0 + 1) = 1 from w64 (n := 0 + 1) (by decide) (by decide)]
      refine Ev.step (fun k => by rw [ehren_table_wins.l0]) ?_
      simp only [r1, s2, if_pos (show (1 : Int) < 2 by decide), if_pos (show (0 : Int) ≤ 1 by decide)]
      refine row _ 1 v u b a hv hu hab.symm (by omega) _ ?_
      simp only [show wrap64 (1 + 1) = 2 from w64 (n := 1 + 1) (by decide) (by decide)]
      refine Ev.step (fun k => by rw [ehren_table_wins.l0]) ?_
      simp only [if_neg (show ¬ (2 : Int) < 2 by decide)]
      exact Ev.now _
    · refine Ev.step (fun k => by rw [evermoreref33_Wins.f]) ?_
      simp only [if_neg (show ¬ ((k + 1 : Nat) : Int) = 0 by omega)]
      unfold win
      refine anyN_ev u.length (fun p => (ansW (win k) u v a b p).isNone) false _ (fun n i => evermoreref33_Wins.l0 n u v a b ((k + 1 : Nat) : Int) i) ?_ ?_ ?_
      · intro p hp h
        refine Ev.step (fun k => by rw [evermoreref33_Wins.l0]) ?_
        simp only [if_pos (show (p : Int) < (u.length : Int) by omega), wk k (by omega)]
        refine Ev.bind (rans H u v a b hu hv hab ha p hp) ?_
        simp only [if_pos ((rrA_neg _).2 h)]
        exact Ev.now _
      · intro p hp h r' hr'
        refine Ev.step (fun k => by rw [evermoreref33_Wins.l0]) ?_
        simp only [if_pos (show (p : Int) < (u.length : Int) by omega), wk k (by omega)]
        refine Ev.bind (rans H u v a b hu hv hab ha p hp) ?_
        simp only [if_neg (show ¬ rrA (ansW (win k) u v a b p) < 0 from fun x => by rw [(rrA_neg _).1 x] at h; cases h), w1 p (by omega)]
        exact hr'
      intro _
      refine Ev.step (fun k => by rw [evermoreref33_Wins.l0]) ?_
      simp only [if_neg (show ¬ (u.length : Int) < (u.length : Int) by omega)]
      refine anyN_ev v.length (fun p => (ansW (win k) v u b a p).isNone) false true (fun n i => evermoreref33_Wins.l1 n u v a b ((k + 1 : Nat) : Int) i) ?_ ?_ ?_
      · intro p hp h
        refine Ev.step (fun k => by rw [evermoreref33_Wins.l1]) ?_
        simp only [if_pos (show (p : Int) < (v.length : Int) by omega), wk k (by omega)]
        refine Ev.bind (rans H v u b a hv hu hab.symm (by omega) p hp) ?_
        simp only [if_pos ((rrA_neg _).2 h)]
        exact Ev.now _
      · intro p hp h r' hr'
        refine Ev.step (fun k => by rw [evermoreref33_Wins.l1]) ?_
        simp only [if_pos (show (p : Int) < (v.length : Int) by omega), wk k (by omega)]
        refine Ev.bind (rans H v u b a hv hu hab.symm (by omega) p hp) ?_
        simp only [if_neg (show ¬ rrA (ansW (win k) v u b a p) < 0 from fun x => by rw [(rrA_neg _).1 x] at h; cases h), w1 p (by omega)]
        exact hr'
      · intro _
        refine Ev.step (fun k => by rw [evermoreref33_Wins.l1]) ?_
        simp only [if_neg (show ¬ (v.length : Int) < (v.length : Int) by omega)]
        exact Ev.now _
def vE (u v : List Int) (k : Int) : Int := if mayS 2 u ≠ 0 then mayS 2 u else if mayS 2 v ≠ 0 then mayS 2 v else if u.length > 8 ∨ v.length > 8 then 1 else if k < 0 ∨ k > 3 then 2 else 0
theorem pchk_ev (u v : List Int) (k : Int) : Ev (fun n => ehren_checked.f n u v k) (vE u v k) := by
  have j1 : ∀ b : Bool, (b = true ↔ u.length > 8 ∨ v.length > 8) → Ev (fun n => ehren_checked.j1 n k b) (if u.length > 8 ∨ v.length > 8 then 1 else if k < 0 ∨ k > 3 then 2 else 0) := by
    intro b hb
    refine Ev.step (fun k => by rw [ehren_checked.j1]) ?_
    by_cases h : u.length > 8 ∨ v.length > 8
    · simp only [if_pos h, if_pos (hb.2 h)]; exact Ev.now _
    · simp only [if_neg h, if_neg (fun x => h (hb.1 x))]
      by_cases q : k < 0
      · simp only [if_pos q, if_pos (show k < 0 ∨ k > 3 from .inl q)]; exact Ev.now _
      · simp only [if_neg q]
        by_cases q2 : k > 3
        · simp only [if_pos q2, if_pos (show k < 0 ∨ k > 3 from .inr q2)]; exact Ev.now _
        · simp only [if_neg q2, if_neg (show ¬ (k < 0 ∨ k > 3) by omega)]; exact Ev.now _
  unfold ehren_checked.f vE
  simp only [Option.bind_some]
  have s2 : ((([u, v] : List (List Int)).length : Nat) : Int) = 2 := rfl
  have r0 : rd_L1 [u, v] 0 = u := rfl
  have r1 : rd_L1 [u, v] 1 = v := rfl
  refine Ev.step (fun k => by rw [ehren_checked.l0]) ?_
  simp only [s2, r0, if_pos (show (0 : Int) < 2 by decide), if_pos (show (0 : Int) ≤ 0 by decide)]
  refine Ev.bind (word_May_ev 2 u) ?_
  by_cases h : mayS 2 u = 0
  · simp only [if_pos h, if_neg (show ¬ mayS 2 u ≠ 0 from fun x => x h), show wrap64 (0 + 1) = 1 from w64 (n := 0 + 1) (by decide) (by decide)]
    refine Ev.step (fun k => by rw [ehren_checked.l0]) ?_
    simp only [s2, r1, if_pos (show (1 : Int) < 2 by decide), if_pos (show (0 : Int) ≤ 1 by decide)]
    refine Ev.bind (word_May_ev 2 v) ?_
    by_cases g : mayS 2 v = 0
    · simp only [if_pos g, if_neg (show ¬ mayS 2 v ≠ 0 from fun x => x g), show wrap64 (1 + 1) = 2 from w64 (n := 1 + 1) (by decide) (by decide)]
      refine Ev.step (fun k => by rw [ehren_checked.l0]) ?_
      simp only [s2, if_neg (show ¬ (2 : Int) < 2 by decide)]
      by_cases q : u.length > 8
      · simp only [if_pos (show (u.length : Int) > 8 by omega)]; exact j1 true (by simp; omega)
      · simp only [if_neg (show ¬ (u.length : Int) > 8 by omega)]; exact j1 _ (by rw [decide_eq_true_iff]; omega)
    · simp only [if_neg g, if_pos (show mayS 2 v ≠ 0 from g)]; exact Ev.now _
  · simp only [if_neg h, if_pos (show mayS 2 u ≠ 0 from h)]; exact Ev.now _
theorem rword_ev (w : List Int) : Ev (fun n => evermoreref33_word.f n w) (mayS 2 w) := by
  unfold evermoreref33_word.f mayS
  simp only [if_neg (show ¬ ((2 : Int) < 1 ∨ (2 : Int) > 4) by decide)]
  by_cases h : w.length > 60
  · simp only [if_pos h, if_pos (show (w.length : Int) > 60 by omega)]; exact Ev.now _
  simp only [if_neg h, if_neg (show ¬ (w.length : Int) > 60 by omega)]
  refine evc (anyL_ev0 0 w (fun a => !(decide (0 ≤ a) && decide (a < 2))) 2 0 (fun n i => evermoreref33_word.l0 n w i) ?_ ?_ ?_) ?_
  · intro i hi e
    have e' : ¬ (0 ≤ w.getD i 0 ∧ w.getD i 0 < 2) := fun x => by rw [decide_eq_true x.1, decide_eq_true x.2] at e; cases e
    refine Ev.step (fun k => by rw [evermoreref33_word.l0]) ?_
    simp only [rdN, if_pos (show (i : Int) < (w.length : Int) by omega), if_pos (show (0 : Int) ≤ (i : Int) by omega), if_neg (show ¬ w.getD i 0 = 0 by omega), if_neg (show ¬ w.getD i 0 = 1 by omega)]
    exact Ev.now _
  · intro i hi e r hr
    have e' : 0 ≤ w.getD i 0 ∧ w.getD i 0 < 2 := by
      rw [Bool.not_eq_false', Bool.and_eq_true] at e
      exact ⟨of_decide_eq_true e.1, of_decide_eq_true e.2⟩
    refine Ev.step (fun k => by rw [evermoreref33_word.l0]) ?_
    simp only [rdN, if_pos (show (i : Int) < (w.length : Int) by omega), if_pos (show (0 : Int) ≤ (i : Int) by omega), w1 i (by omega)]
    by_cases q : w.getD i 0 = 0
    · simp only [if_pos q]; exact hr
    · simp only [if_neg q, if_pos (show w.getD i 0 = 1 by omega)]; exact hr
  · intro _
    refine Ev.step (fun k => by rw [evermoreref33_word.l0]) ?_
    simp only [if_neg (show ¬ (w.length : Int) < (w.length : Int) by omega)]
    exact Ev.now _
  · have e : w.any (fun a => !(decide (0 ≤ a) && decide (a < 2))) = !(okB 2 w) := by
      unfold okB
      induction w with
      | nil => rfl
      | cons x w ih => rw [List.any_cons, List.all_cons, ih (by simp at h ⊢; omega), Bool.not_and, Bool.not_and, Bool.not_and]
    rw [e]
    cases okB 2 w <;> rfl
theorem rchk_ev (u v : List Int) (k : Int) : Ev (fun n => evermoreref33_Check.f n u v k) (vE u v k) := by
  have j1 : ∀ b : Bool, (b = true ↔ u.length > 8 ∨ v.length > 8) → Ev (fun n => evermoreref33_Check.j0 n k b) (if u.length > 8 ∨ v.length > 8 then 1 else if k < 0 ∨ k > 3 then 2 else 0) := by
    intro b hb
    refine Ev.step (fun k => by rw [evermoreref33_Check.j0]) ?_
    by_cases h : u.length > 8 ∨ v.length > 8
    · simp only [if_pos h, if_pos (hb.2 h)]; exact Ev.now _
    · simp only [if_neg h, if_neg (fun x => h (hb.1 x))]
      by_cases q : k < 0
      · simp only [if_pos q, if_pos (show k < 0 ∨ k > 3 from .inl q)]; exact Ev.now _
      · simp only [if_neg q]
        by_cases q2 : k > 3
        · simp only [if_pos q2, if_pos (show k < 0 ∨ k > 3 from .inr q2)]; exact Ev.now _
        · simp only [if_neg q2, if_neg (show ¬ (k < 0 ∨ k > 3) by omega)]; exact Ev.now _
  unfold evermoreref33_Check.f vE
  refine Ev.bind (rword_ev u) ?_
  refine Ev.bind (rword_ev v) ?_
  by_cases h : mayS 2 u = 0
  · simp only [if_pos h, if_neg (show ¬ mayS 2 u ≠ 0 from fun x => x h)]
    by_cases g : mayS 2 v = 0
    · simp only [if_pos g, if_neg (show ¬ mayS 2 v ≠ 0 from fun x => x g)]
      by_cases q : u.length > 8
      · simp only [if_pos (show (u.length : Int) > 8 by omega)]; exact j1 true (by simp; omega)
      · simp only [if_neg (show ¬ (u.length : Int) > 8 by omega)]; exact j1 _ (by rw [decide_eq_true_iff]; omega)
    · simp only [if_neg g, if_pos (show mayS 2 v ≠ 0 from g)]; exact Ev.now _
  · simp only [if_neg h, if_pos (show mayS 2 u ≠ 0 from h)]; exact Ev.now _
theorem vE_ok {u v : List Int} {k : Int} (h : vE u v k = 0) : u.length ≤ 8 ∧ v.length ≤ 8 ∧ 0 ≤ k ∧ k ≤ 3 := by
  unfold vE at h
  by_cases h1 : mayS 2 u ≠ 0
  · rw [if_pos h1] at h; exact absurd h h1
  rw [if_neg h1] at h
  by_cases h2 : mayS 2 v ≠ 0
  · rw [if_pos h2] at h; exact absurd h h2
  rw [if_neg h2] at h
  by_cases h3 : u.length > 8 ∨ v.length > 8
  · rw [if_pos h3] at h; omega
  rw [if_neg h3] at h
  by_cases h4 : k < 0 ∨ k > 3
  · rw [if_pos h4] at h; omega
  omega
theorem pWins_ev (u v : List Int) (k : Int) (R : Bool × Int) (h1 : vE u v k ≠ 0 → R = (false, vE u v k)) (h2 : vE u v k = 0 → R = (win k.toNat u v [] [], 0)) : Ev (fun n => ehren_Wins.f n u v k) R := by
  unfold ehren_Wins.f
  refine Ev.bind (pchk_ev u v k) ?_
  by_cases h : vE u v k = 0
  · simp only [if_pos h]
    obtain ⟨b1, b2, b3, b4⟩ := vE_ok h
    obtain ⟨m, hm⟩ := Int.eq_ofNat_of_zero_le b3
    rw [h2 h, hm, Int.toNat_natCast]
    exact Ev.bind (pw_all m u v [] [] b1 b2 rfl (by simp; omega)).1 (Ev.now _)
  · simp only [if_neg h]
    rw [h1 h]
    exact Ev.now _
theorem pReply_ev (u v : List Int) (k place : Int) (R : Int × Bool × Int) (h1 : vE u v k ≠ 0 → R = (0, false, vE u v k)) (h2 : vE u v k = 0 → k = 0 ∨ place < 0 ∨ place ≥ (u.length : Int) → R = (0, false, 2))
    (h3 : vE u v k = 0 → ¬ (k = 0 ∨ place < 0 ∨ place ≥ (u.length : Int)) → R = ((prA (ansW (win (k - 1).toNat) u v [] [] place.toNat)).1, (prA (ansW (win (k - 1).toNat) u v [] [] place.toNat)).2, 0)) : Ev (fun n => ehren_Reply.f n u v k place) R := by
  unfold ehren_Reply.f
  refine Ev.bind (pchk_ev u v k) ?_
  by_cases h : vE u v k = 0
  · simp only [if_pos h]
    obtain ⟨b1, b2, b3, b4⟩ := vE_ok h
    by_cases q0 : k = 0
    · simp only [if_pos q0]; rw [h2 h (.inl q0)]; exact Ev.now _
    simp only [if_neg q0]
    by_cases q1 : place < 0
    · simp only [if_pos q1]; rw [h2 h (.inr (.inl q1))]; exact Ev.now _
    simp only [if_neg q1]
    by_cases q2 : place ≥ (u.length : Int)
    · simp only [if_pos q2]; rw [h2 h (.inr (.inr q2))]; exact Ev.now _
    simp only [if_neg q2]
    obtain ⟨m, hm⟩ := Int.eq_ofNat_of_zero_le (show 0 ≤ k - 1 by omega)
    obtain ⟨p, hp⟩ := Int.eq_ofNat_of_zero_le (show 0 ≤ place by omega)
    rw [h3 h (by omega), w64 (by omega) (by omega), hm, hp, Int.toNat_natCast, Int.toNat_natCast]
    exact Ev.bind (pans (pw_all m) u v [] [] b1 b2 rfl (by simp; omega) p (by omega)) (Ev.now _)
  · simp only [if_neg h]
    rw [h1 h]
    exact Ev.now _
theorem EhrenWins : evermorelaw_EhrenWins.Pure := by
  intro u v k place _ _ _ _ _ _ _ _
  refine Ev.rounds ?_
  unfold evermorelaw_EhrenWins.f
  by_cases h : vE u v k = 0
  · obtain ⟨b1, b2, b3, b4⟩ := vE_ok h
    obtain ⟨m, hm⟩ := Int.eq_ofNat_of_zero_le b3
    refine Ev.bind (pWins_ev u v k (win k.toNat u v [] [], 0) (fun x => absurd h x) (fun _ => rfl)) ?_
    by_cases q : k = 0 ∨ place < 0 ∨ place ≥ (u.length : Int)
    · refine Ev.bind (pReply_ev u v k place (0, false, 2) (fun x => absurd h x) (fun _ _ => rfl) (fun _ x => absurd q x)) ?_
      refine Ev.bind (rchk_ev u v k) ?_
      simp only [if_pos h]
      rw [hm, Int.toNat_natCast]
      refine Ev.bind (pw_all m u v [] [] b1 b2 rfl (by simp; omega)).2 ?_
      simp only [if_true, bne_self_eq_false]
      refine Ev.step (fun k => by rw [evermorelaw_EhrenWins.j0]) ?_
      simp only [if_neg (show ¬ (false = true) by decide)]
      have j1 : Ev (fun n => evermorelaw_EhrenWins.j1 n u v (m : Int) place 0 false 2 true) true := by
        refine Ev.step (fun k => by rw [evermorelaw_EhrenWins.j1]) ?_
        simp only [if_true, if_neg (show ¬ (false = true) by decide)]
        exact Ev.now _
      by_cases q0 : (m : Int) = 0
      · simp only [if_pos q0]; exact j1
      simp only [if_neg q0]
      by_cases q1 : place < 0
      · simp only [if_pos q1]; exact j1
      simp only [if_neg q1]
      rw [decide_eq_true (show place ≥ (u.length : Int) by omega)]
      exact j1
    · refine Ev.bind (pReply_ev u v k place _ (fun x => absurd h x) (fun _ x => absurd x q) (fun _ _ => rfl)) ?_
      refine Ev.bind (rchk_ev u v k) ?_
      simp only [if_pos h]
      rw [hm, Int.toNat_natCast]
      refine Ev.bind (pw_all m u v [] [] b1 b2 rfl (by simp; omega)).2 ?_
      simp only [if_true, bne_self_eq_false]
      refine Ev.step (fun k => by rw [evermorelaw_EhrenWins.j0]) ?_
      simp only [if_neg (show ¬ (false = true) by decide), if_neg (show ¬ (m : Int) = 0 by omega), if_neg (show ¬ place < 0 by omega), decide_eq_false (show ¬ place ≥ (u.length : Int) by omega)]
      refine Ev.step (fun k => by rw [evermorelaw_EhrenWins.j1]) ?_
      simp only [if_neg (show ¬ (false = true) by decide)]
      obtain ⟨c, hc⟩ := Int.eq_ofNat_of_zero_le (show 0 ≤ (m : Int) - 1 by omega)
      obtain ⟨p, hp⟩ := Int.eq_ofNat_of_zero_le (show 0 ≤ place by omega)
      rw [w64 (by omega) (by omega), hc, hp, Int.toNat_natCast, Int.toNat_natCast]
      refine Ev.bind (rans (pw_all c) u v [] [] b1 b2 rfl (by simp; omega) p (by omega)) ?_
      cases ansW (win c) u v [] [] p with
      | none =>
        simp only [rrA, prA, if_pos (show (-1 : Int) < 0 by decide), if_true, if_neg (show ¬ (false = true) by decide)]
        exact Ev.now _
      | some i =>
        simp only [rrA, prA, if_neg (show ¬ (i : Int) < 0 by omega), if_true]
        exact evc (Ev.now _) (by simp)
  · refine Ev.bind (pWins_ev u v k (false, vE u v k) (fun _ => rfl) (fun x => absurd x h)) ?_
    refine Ev.bind (pReply_ev u v k place (0, false, vE u v k) (fun _ => rfl) (fun x => absurd x h) (fun x => absurd x h)) ?_
    refine Ev.bind (rchk_ev u v k) ?_
    simp only [if_neg h, if_true, if_neg (show ¬ (false = true) by decide)]
    exact Ev.now _

end Go.Proofs.Ytklkcdphcmimoaa.Pure
namespace Go.Proofs.Ytklkcdphcmimoaa.PrintWords
abbrev sized_ints := @Go.Proofs.YtklkcdphcmimoaaW.PrintWords.sized_ints
end Go.Proofs.Ytklkcdphcmimoaa.PrintWords
