/- For every list of rules, every stack and every rule's number the program's answer is the reference's. No conditions beyond the statement's. -/
import Derived.Test.YthbdmfhobienaaaPStackStepsx6
import Derived.Test.YthbdmfhobienaaaQStackSteps
namespace Go.Proofs.Ythbdmfhobienaaa.Pure
open Go.RowKit Go.Proofs.Ythbdmfhobienaaa.PStackSteps Go.Proofs.YthbdmfhobienaaaW.PrintWords Go.Proofs.YthbdmfhobienaaaW.PrintLast Go.Proofs.YthbdmfhobienaaaW.PrintMore
set_option linter.unusedVariables false
set_option linter.unusedSimpArgs false
theorem w64 {n : Int} (h : -9223372036854775808 ≤ n) (h' : n ≤ 9223372036854775807) : wrap64 n = n := by unfold wrap64; omega
theorem rdn (l : List Int) (i : Nat) (h : i < l.length) : rd l (i : Int) = l[i] := by
  unfold rd; rw [Int.toNat_natCast, List.getD_eq_getElem?_getD, List.getElem?_eq_getElem h]; rfl
theorem rdOfn {α : Type} (d : α) (l : List α) (i : Nat) (h : i < l.length) : rdOf d l (i : Int) = l[i] := by
  unfold rdOf; rw [Int.toNat_natCast, List.getD_eq_getElem?_getD, List.getElem?_eq_getElem h]; rfl
theorem evc {α : Type} {g : Nat → Option α} {a b : α} (h : Ev g a) (e : a = b) : Ev g b := e ▸ h
theorem rdL (l : List (List Int)) (n : Nat) : rd_L1 l (n : Int) = l.getD n [] := by unfold rd_L1; rw [Int.toNat_natCast]
theorem rdN (l : List Int) (n : Nat) : rd l (n : Int) = l.getD n 0 := by unfold rd; rw [Int.toNat_natCast]
theorem w1 (i : Nat) (h : i ≤ 9223372036854775000) : wrap64 ((i : Int) + 1) = ((i + 1 : Nat) : Int) := by rw [w64 (by omega) (by omega)]; omega
theorem getD_mem {α : Type} (l : List α) (n : Nat) (d : α) (h : n < l.length) : l.getD n d ∈ l := by
  rw [List.getD_eq_getElem?_getD, List.getElem?_eq_getElem h]; exact List.getElem_mem h
theorem drop_getD {α : Type} (l : List α) (n : Nat) (d : α) (h : n < l.length) : l.drop n = l.getD n d :: l.drop (n + 1) := by
  rw [List.drop_eq_getElem_cons h, List.getD_eq_getElem?_getD, List.getElem?_eq_getElem h]; rfl
/-- the first place at which p holds, from i on; -1: none -/
def ixf {α : Type} (p : α → Bool) : List α → Nat → Int
  | [], _ => -1
  | x :: xs, i => if p x = true then (i : Int) else ixf p xs (i + 1)
theorem ixf_any {α : Type} (p : α → Bool) : ∀ (xs : List α) (i : Nat), decide (ixf p xs i ≥ 0) = xs.any p
  | [], _ => by simp [ixf]
  | x :: xs, i => by
    have ih := ixf_any p xs (i + 1)
    by_cases h : p x = true
    · rw [ixf, if_pos h, List.any_cons, h]
      simp
    · rw [ixf, if_neg h, List.any_cons, ih]
      simp [h]
/-- a loop over a list that ends at the first element of which p holds -/
theorem anyL_ev {α R : Type} (d0 : α) (xs : List α) (p : α → Bool) (a b : R) (L : Nat → Int → Option R)
    (hstop : ∀ i : Nat, i < xs.length → p (xs.getD i d0) = true → Ev (fun k => L k (i : Int)) a)
    (hgo : ∀ i : Nat, i < xs.length → p (xs.getD i d0) = false → ∀ r, Ev (fun k => L k ((i + 1 : Nat) : Int)) r → Ev (fun k => L k (i : Int)) r)
    (hend : xs.any p = false → Ev (fun k => L k (xs.length : Int)) b) : ∀ d i : Nat, i + d = xs.length → ((xs.drop i).any p = false → xs.any p = false) → Ev (fun k => L k (i : Int)) (if (xs.drop i).any p = true then a else b) := by
  intro d
  induction d with
  | zero =>
    intro i hi hp
    rw [List.drop_of_length_le (by omega)] at hp ⊢
    rw [show i = xs.length by omega]
    exact hend (hp rfl)
  | succ d ih =>
    intro i hi hp
    rw [drop_getD xs i d0 (by omega), List.any_cons] at hp ⊢
    cases h : p (xs.getD i d0) with
    | true => exact hstop i (by omega) h
    | false => exact hgo i (by omega) h _ (ih (i + 1) (by omega) (fun e => hp (by rw [h, e]; rfl)))
theorem anyL_ev0 {α R : Type} (d0 : α) (xs : List α) (p : α → Bool) (a b : R) (L : Nat → Int → Option R)
    (hstop : ∀ i : Nat, i < xs.length → p (xs.getD i d0) = true → Ev (fun k => L k (i : Int)) a)
    (hgo : ∀ i : Nat, i < xs.length → p (xs.getD i d0) = false → ∀ r, Ev (fun k => L k ((i + 1 : Nat) : Int)) r → Ev (fun k => L k (i : Int)) r)
    (hend : xs.any p = false → Ev (fun k => L k (xs.length : Int)) b) : Ev (fun k => L k 0) (if xs.any p = true then a else b) := by
  have := anyL_ev d0 xs p a b L hstop hgo hend xs.length 0 (by omega) (fun h => by rwa [List.drop_zero] at h)
  rwa [List.drop_zero] at this
/-- a loop over numbers that ends at the first one of which p holds -/
theorem anyN_ev {R : Type} (n : Nat) (p : Nat → Bool) (a b : R) (L : Nat → Int → Option R)
    (hstop : ∀ i : Nat, i < n → p i = true → Ev (fun k => L k (i : Int)) a)
    (hgo : ∀ i : Nat, i < n → p i = false → ∀ r, Ev (fun k => L k ((i + 1 : Nat) : Int)) r → Ev (fun k => L k (i : Int)) r)
    (hend : (List.range n).any p = false → Ev (fun k => L k (n : Int)) b) : Ev (fun k => L k 0) (if (List.range n).any p = true then a else b) := by
  have e : (List.range n).length = n := List.length_range
  have g : ∀ i, i < n → (List.range n).getD i 0 = i := fun i hi => by rw [List.getD_eq_getElem?_getD, List.getElem?_range hi]; rfl
  exact anyL_ev0 0 (List.range n) p a b L (fun i hi h => by rw [e] at hi; rw [g i hi] at h; exact hstop i hi h) (fun i hi h r hr => by rw [e] at hi; rw [g i hi] at h; exact hgo i hi h r hr) (fun h => by rw [e]; exact hend h)
theorem evs {α : Type} {x : Option α} {r : α} (h : x = some r) : Ev (fun _ => x) r := ⟨0, fun _ _ => h⟩
/-- the first fault -/
def fe (f : Nat → Int) : List Nat → Int
  | [] => 0
  | i :: is => if f i = 0 then fe f is else f i
theorem fe_range (f : Nat → Int) (n : Nat) : ∀ d i, i + d = n → fe f ((List.range n).drop i) = 0 → ∀ j, i ≤ j → j < n → f j = 0 := by
  intro d
  induction d with
  | zero => intro i hi _ j h1 h2; omega
  | succ d ih =>
    intro i hi h j h1 h2
    rw [List.drop_eq_getElem_cons (by rw [List.length_range]; omega), List.getElem_range, fe] at h
    by_cases e : f i = 0
    · rw [if_pos e] at h
      rcases Nat.lt_or_ge i j with hj | hj
      · exact ih (i + 1) (by omega) h j (by omega) h2
      · rw [show j = i by omega]; exact e
    · rw [if_neg e] at h; exact absurd h e
theorem fe_ok {f : Nat → Int} {n : Nat} (h : fe f (List.range n) = 0) : ∀ j, j < n → f j = 0 := fun j hj => fe_range f n n 0 (by omega) (by rwa [List.drop_zero]) j (Nat.zero_le _) hj
/-- a loop over numbers that ends at the first fault -/
theorem feN_ev {R : Type} (n : Nat) (f : Nat → Int) (G : Int → R) (b : R) (hb : G 0 = b) (L : Nat → Int → Option R)
    (hstop : ∀ i : Nat, i < n → f i ≠ 0 → Ev (fun k => L k (i : Int)) (G (f i)))
    (hgo : ∀ i : Nat, i < n → f i = 0 → ∀ r, Ev (fun k => L k ((i + 1 : Nat) : Int)) r → Ev (fun k => L k (i : Int)) r)
    (hend : Ev (fun k => L k (n : Int)) b) : Ev (fun k => L k 0) (G (fe f (List.range n))) := by
  have key : ∀ d i : Nat, i + d = n → Ev (fun k => L k (i : Int)) (G (fe f ((List.range n).drop i))) := by
    intro d
    induction d with
    | zero =>
      intro i hi
      rw [List.drop_of_length_le (by rw [List.length_range]; omega), show i = n by omega, fe, hb]
      exact hend
    | succ d ih =>
      intro i hi
      rw [List.drop_eq_getElem_cons (by rw [List.length_range]; omega), List.getElem_range, fe]
      by_cases e : f i = 0
      · rw [if_pos e]; exact hgo i (by omega) e _ (ih (i + 1) (by omega))
      · rw [if_neg e]; exact hstop i (by omega) e
  have := key n 0 (by omega)
  rwa [List.drop_zero] at this
/-- a row that is filled from the left -/
def fillR {α : Type} (v : Nat → α) (z : α) (n i : Nat) : List α := (List.range i).map v ++ List.replicate (n - i) z
theorem fillR_len {α : Type} (v : Nat → α) (z : α) {n i : Nat} (h : i ≤ n) : (fillR v z n i).length = n := by
  unfold fillR; rw [List.length_append, List.length_map, List.length_range, List.length_replicate]; omega
theorem fillR_set {α : Type} (v : Nat → α) (z : α) {n i : Nat} (h : i < n) (x : α) (hx : x = v i) : (fillR v z n i).set i x = fillR v z n (i + 1) := by
  subst hx
  unfold fillR
  have e : List.replicate (n - i) z = z :: List.replicate (n - (i + 1)) z := by
    rw [show n - i = (n - (i + 1)) + 1 by omega]; rfl
  rw [e, List.range_succ, List.map_append, List.append_assoc, List.set_append_right _ _ (by rw [List.length_map, List.length_range]; omega), List.length_map, List.length_range, Nat.sub_self]
  rfl
theorem fillR_zero {α : Type} (v : Nat → α) (z : α) (n : Nat) : fillR v z n 0 = List.replicate n z := by unfold fillR; rfl
theorem fillR_full {α : Type} (v : Nat → α) (z : α) (n : Nat) : fillR v z n n = (List.range n).map v := by unfold fillR; rw [Nat.sub_self]; simp
theorem getD_mapRange {α : Type} (v : Nat → α) (d : α) {n i : Nat} (h : i < n) : ((List.range n).map v).getD i d = v i := by
  rw [List.getD_eq_getElem?_getD, List.getElem?_map, List.getElem?_range h]; rfl
theorem wf64 {n : Int} (h : (Lit.int .i64 n).wf = true) : -9223372036854775808 ≤ n ∧ n ≤ 9223372036854775807 := by
  simp [Lit.wf, IntKind.min, IntKind.max, IntKind.signed, IntKind.bits] at h
  omega
theorem rdT (l : List S72) (n : Nat) : rd_T72 l (n : Int) = l.getD n z72 := by unfold rd_T72; rw [Int.toNat_natCast]
def noB (a : Int) : Bool := decide (a < 0) || decide (a > 2)
def bigB (x : S72) : Bool := decide ((x.f3.length : Int) > 2)
def badR (x : S72) : Bool := noB x.f0 || (noB x.f1 || (noB x.f2 || x.f3.any noB))
def vK (l : List S72) : Int := if l.length > 8 then 1 else if l.any bigB = true then 1 else if l.any badR = true then 2 else 0
def vG (a : Int) (w : List Int) : Int := if w.length > 20 then 1 else if noB a = true then 2 else if w.any noB = true then 2 else 0
theorem no_ev (a : Int) : stack_no.f a = some (noB a) := by
  unfold stack_no.f noB
  by_cases h : a < 0
  · rw [if_pos h, decide_eq_true h, Bool.true_or]
  · rw [if_neg h, decide_eq_false h, Bool.false_or]
    have e : decide (a ≥ 3) = decide (a > 2) := by
      by_cases h2 : a ≥ 3
      · rw [decide_eq_true h2, decide_eq_true (show a > 2 by omega)]
      · rw [decide_eq_false h2, decide_eq_false (show ¬ a > 2 by omega)]
    rw [e]
theorem or_ext : ∀ a b c d : Bool, true = (a || (b || c)) → (a || (b || (c || d))) = true := by decide
theorem or_f3 : ∀ a b c : Bool, false = (a || (b || c)) → a = false ∧ b = false ∧ c = false := by decide
theorem noB_t {a : Int} (h : noB a = true) : a < 0 ∨ (¬ a < 0 ∧ a > 2) := by
  unfold noB at h
  rw [Bool.or_eq_true, decide_eq_true_iff, decide_eq_true_iff] at h
  omega
theorem noB_f {a : Int} (h : noB a = false) : ¬ a < 0 ∧ ¬ a > 2 := by
  unfold noB at h
  rw [Bool.or_eq_false_iff] at h
  exact ⟨of_decide_eq_false h.1, of_decide_eq_false h.2⟩
theorem slices_IndexFunc__stack_Check_1_l0_ev (xs : List (S72))  (p : S72 → Bool) (hb : xs.length ≤ 4611686018427387904) (hp : ∀ x ∈ xs, Ev (fun k => stack_Check_1.f (x.f0) (x.f1) (x.f2) (x.f3)) (p x)) : ∀ d i : Nat, i + d = xs.length → Ev (fun k => slices_IndexFunc__stack_Check_1.l0 k xs (xs.length : Int) (i : Int) ) (ixf p (xs.drop i) i) := by
  intro d
  induction d with
  | zero =>
    intro i hi
    refine Ev.step (fun k => by rw [slices_IndexFunc__stack_Check_1.l0]) ?_
    simp only [if_neg (show ¬ ((i : Int) < (xs.length : Int)) by omega)]
    rw [List.drop_of_length_le (by omega)]
    exact Ev.now _
  | succ d ih =>
    intro i hi
    refine Ev.step (fun k => by rw [slices_IndexFunc__stack_Check_1.l0]) ?_
    have er : rd_T72 xs (i : Int) = xs.getD i z72 := by unfold rd_T72; rw [Int.toNat_natCast]
    simp only [if_pos (show ((i : Int) < (xs.length : Int)) by omega), if_pos (show (0 ≤ (i : Int)) by omega), er]
    refine Ev.bind (hp _ (getD_mem xs i _ (by omega))) ?_
    rw [drop_getD xs i z72 (by omega), ixf]
    by_cases h : p (xs.getD i z72) = true
    · simp only [if_pos h]
      exact Ev.now _
    · simp only [if_neg h]
      rw [w1 i (by omega)]
      exact ih (i + 1) (by omega)
theorem slices_IndexFunc__stack_Check_1_ev (xs : List (S72))  (p : S72 → Bool) (hb : xs.length ≤ 4611686018427387904) (hp : ∀ x ∈ xs, Ev (fun k => stack_Check_1.f (x.f0) (x.f1) (x.f2) (x.f3)) (p x)) : Ev (fun k => slices_IndexFunc__stack_Check_1.f k xs ) (ixf p xs 0) := by
  unfold slices_IndexFunc__stack_Check_1.f
  exact slices_IndexFunc__stack_Check_1_l0_ev xs  p hb hp xs.length 0 (by omega)
theorem slices_ContainsFunc__stack_Check_1_ev (xs : List (S72))  (p : S72 → Bool) (hb : xs.length ≤ 4611686018427387904) (hp : ∀ x ∈ xs, Ev (fun k => stack_Check_1.f (x.f0) (x.f1) (x.f2) (x.f3)) (p x)) : Ev (fun k => slices_ContainsFunc__stack_Check_1.f k xs ) (xs.any p) := by
  unfold slices_ContainsFunc__stack_Check_1.f
  refine Ev.bind (slices_IndexFunc__stack_Check_1_ev xs  p hb hp) ?_
  rw [ixf_any]
  exact Ev.now _
theorem slices_IndexFunc__stack_no_l0_ev (xs : List (Int))  (p : Int → Bool) (hb : xs.length ≤ 4611686018427387904) (hp : ∀ x ∈ xs, Ev (fun k => stack_no.f x) (p x)) : ∀ d i : Nat, i + d = xs.length → Ev (fun k => slices_IndexFunc__stack_no.l0 k xs (xs.length : Int) (i : Int) ) (ixf p (xs.drop i) i) := by
  intro d
  induction d with
  | zero =>
    intro i hi
    refine Ev.step (fun k => by rw [slices_IndexFunc__stack_no.l0]) ?_
    simp only [if_neg (show ¬ ((i : Int) < (xs.length : Int)) by omega)]
    rw [List.drop_of_length_le (by omega)]
    exact Ev.now _
  | succ d ih =>
    intro i hi
    refine Ev.step (fun k => by rw [slices_IndexFunc__stack_no.l0]) ?_
    have er : rd xs (i : Int) = xs.getD i 0 := by unfold rd; rw [Int.toNat_natCast]
    simp only [if_pos (show ((i : Int) < (xs.length : Int)) by omega), if_pos (show (0 ≤ (i : Int)) by omega), er]
    refine Ev.bind (hp _ (getD_mem xs i _ (by omega))) ?_
    rw [drop_getD xs i 0 (by omega), ixf]
    by_cases h : p (xs.getD i 0) = true
    · simp only [if_pos h]
      exact Ev.now _
    · simp only [if_neg h]
      rw [w1 i (by omega)]
      exact ih (i + 1) (by omega)
theorem slices_IndexFunc__stack_no_ev (xs : List (Int))  (p : Int → Bool) (hb : xs.length ≤ 4611686018427387904) (hp : ∀ x ∈ xs, Ev (fun k => stack_no.f x) (p x)) : Ev (fun k => slices_IndexFunc__stack_no.f k xs ) (ixf p xs 0) := by
  unfold slices_IndexFunc__stack_no.f
  exact slices_IndexFunc__stack_no_l0_ev xs  p hb hp xs.length 0 (by omega)
theorem slices_ContainsFunc__stack_no_ev (xs : List (Int))  (p : Int → Bool) (hb : xs.length ≤ 4611686018427387904) (hp : ∀ x ∈ xs, Ev (fun k => stack_no.f x) (p x)) : Ev (fun k => slices_ContainsFunc__stack_no.f k xs ) (xs.any p) := by
  unfold slices_ContainsFunc__stack_no.f
  refine Ev.bind (slices_IndexFunc__stack_no_ev xs  p hb hp) ?_
  rw [ixf_any]
  exact Ev.now _
theorem slices_IndexFunc__stack_Check_2_l0_ev (xs : List (S72))  (p : S72 → Bool) (hb : xs.length ≤ 4611686018427387904) (hp : ∀ x ∈ xs, Ev (fun k => stack_Check_2.f k (x.f0) (x.f1) (x.f2) (x.f3)) (p x)) : ∀ d i : Nat, i + d = xs.length → Ev (fun k => slices_IndexFunc__stack_Check_2.l0 k xs (xs.length : Int) (i : Int) ) (ixf p (xs.drop i) i) := by
  intro d
  induction d with
  | zero =>
    intro i hi
    refine Ev.step (fun k => by rw [slices_IndexFunc__stack_Check_2.l0]) ?_
    simp only [if_neg (show ¬ ((i : Int) < (xs.length : Int)) by omega)]
    rw [List.drop_of_length_le (by omega)]
    exact Ev.now _
  | succ d ih =>
    intro i hi
    refine Ev.step (fun k => by rw [slices_IndexFunc__stack_Check_2.l0]) ?_
    have er : rd_T72 xs (i : Int) = xs.getD i z72 := by unfold rd_T72; rw [Int.toNat_natCast]
    simp only [if_pos (show ((i : Int) < (xs.length : Int)) by omega), if_pos (show (0 ≤ (i : Int)) by omega), er]
    refine Ev.bind (hp _ (getD_mem xs i _ (by omega))) ?_
    rw [drop_getD xs i z72 (by omega), ixf]
    by_cases h : p (xs.getD i z72) = true
    · simp only [if_pos h]
      exact Ev.now _
    · simp only [if_neg h]
      rw [w1 i (by omega)]
      exact ih (i + 1) (by omega)
theorem slices_IndexFunc__stack_Check_2_ev (xs : List (S72))  (p : S72 → Bool) (hb : xs.length ≤ 4611686018427387904) (hp : ∀ x ∈ xs, Ev (fun k => stack_Check_2.f k (x.f0) (x.f1) (x.f2) (x.f3)) (p x)) : Ev (fun k => slices_IndexFunc__stack_Check_2.f k xs ) (ixf p xs 0) := by
  unfold slices_IndexFunc__stack_Check_2.f
  exact slices_IndexFunc__stack_Check_2_l0_ev xs  p hb hp xs.length 0 (by omega)
theorem slices_ContainsFunc__stack_Check_2_ev (xs : List (S72))  (p : S72 → Bool) (hb : xs.length ≤ 4611686018427387904) (hp : ∀ x ∈ xs, Ev (fun k => stack_Check_2.f k (x.f0) (x.f1) (x.f2) (x.f3)) (p x)) : Ev (fun k => slices_ContainsFunc__stack_Check_2.f k xs ) (xs.any p) := by
  unfold slices_ContainsFunc__stack_Check_2.f
  refine Ev.bind (slices_IndexFunc__stack_Check_2_ev xs  p hb hp) ?_
  rw [ixf_any]
  exact Ev.now _
theorem c2_ev (x : S72) (hb : x.f3.length ≤ 4611686018427387904) : Ev (fun k => stack_Check_2.f k x.f0 x.f1 x.f2 x.f3) (badR x) := by
  unfold stack_Check_2.f badR
  simp only [no_ev, Option.bind_some]
  cases noB x.f0 with
  | true => simp only [if_true, Bool.true_or]; exact Ev.now _
  | false =>
    simp only [if_neg (show ¬ (false = true) by decide), Bool.false_or]
    cases noB x.f1 with
    | true => simp only [if_true, Bool.true_or]; exact Ev.now _
    | false =>
      simp only [if_neg (show ¬ (false = true) by decide), Bool.false_or]
      cases noB x.f2 with
      | true => simp only [if_true, Bool.true_or]; exact Ev.now _
      | false =>
        simp only [if_neg (show ¬ (false = true) by decide), Bool.false_or]
        exact Ev.bind (slices_ContainsFunc__stack_no_ev x.f3 noB hb (fun y _ => evs (no_ev y))) (Ev.now _)
theorem pchk_ev (l : List S72) (hb : l.length ≤ 4611686018427387904) (hl : ∀ x ∈ l, x.f3.length ≤ 4611686018427387904) : Ev (fun k => stack_Check.f k l) (vK l) := by
  unfold stack_Check.f vK
  by_cases h : l.length > 8
  · simp only [if_pos h, if_pos (show (l.length : Int) > 8 by omega)]
    refine Ev.step (fun k => by rw [stack_Check.j0]) ?_
    simp only [if_true]; exact Ev.now _
  · simp only [if_neg h, if_neg (show ¬ (l.length : Int) > 8 by omega)]
    refine Ev.bind (slices_ContainsFunc__stack_Check_1_ev l bigB hb (fun x _ => evs rfl)) ?_
    refine Ev.step (fun k => by rw [stack_Check.j0]) ?_
    cases l.any bigB with
    | true => simp only [if_true]; exact Ev.now _
    | false =>
      simp only [if_neg (show ¬ (false = true) by decide)]
      refine Ev.bind (slices_ContainsFunc__stack_Check_2_ev l badR hb (fun x hx => c2_ev x (hl x hx))) ?_
      cases l.any badR with
      | true => simp only [if_true]; exact Ev.now _
      | false => simp only [if_neg (show ¬ (false = true) by decide)]; exact Ev.now _
theorem rchk_ev (l : List S72) : Ev (fun k => evermoreref14_Check.f k l) (vK l) := by
  unfold evermoreref14_Check.f vK
  by_cases h : l.length > 8
  · simp only [if_pos h, if_pos (show (l.length : Int) > 8 by omega)]; exact Ev.now _
  simp only [if_neg h, if_neg (show ¬ (l.length : Int) > 8 by omega)]
  refine anyL_ev0 z72 l bigB 1 _ (fun k i => evermoreref14_Check.l0 k l i) ?_ ?_ ?_
  · intro i hi e
    refine Ev.step (fun k => by rw [evermoreref14_Check.l0]) ?_
    simp only [rdT, if_pos (show (i : Int) < (l.length : Int) by omega), if_pos (show (0 : Int) ≤ (i : Int) by omega), if_pos (of_decide_eq_true e)]
    exact Ev.now _
  · intro i hi e r hr
    refine Ev.step (fun k => by rw [evermoreref14_Check.l0]) ?_
    simp only [rdT, if_pos (show (i : Int) < (l.length : Int) by omega), if_pos (show (0 : Int) ≤ (i : Int) by omega), if_neg (of_decide_eq_false e), w1 i (by omega)]
    exact hr
  intro hbig
  refine Ev.step (fun k => by rw [evermoreref14_Check.l0]) ?_
  simp only [if_neg (show ¬ (l.length : Int) < (l.length : Int) by omega)]
  have st : ∀ i : Nat, i < l.length → ∀ r : Int, (badR (l.getD i z72) = true → r = 2) → (badR (l.getD i z72) = false → Ev (fun k => evermoreref14_Check.l1 k l ((i + 1 : Nat) : Int)) r) → Ev (fun k => evermoreref14_Check.l1 k l (i : Int)) r := by
    intro i hi r h1 h2
    have hs : ((l.getD i z72).f3.length : Int) ≤ 2 := by
      have e : bigB (l.getD i z72) = false := by
        cases e : bigB (l.getD i z72) with
        | false => rfl
        | true => exact absurd (List.any_eq_true.2 ⟨_, getD_mem l i z72 hi, e⟩) (by rw [hbig]; decide)
      have := of_decide_eq_false e
      omega
    refine Ev.step (fun k => by rw [evermoreref14_Check.l1]) ?_
    simp only [rdT, if_pos (show (i : Int) < (l.length : Int) by omega), if_pos (show (0 : Int) ≤ (i : Int) by omega)]
    unfold badR at h1 h2
    generalize l.getD i z72 = x at h1 h2 hs ⊢
    have j2 : ∀ b : Bool, b = (noB x.f0 || (noB x.f1 || noB x.f2)) → Ev (fun k => evermoreref14_Check.j2 k l (i : Int) b x.f0 x.f1 x.f2 x.f3) r := by
      intro b hb
      refine Ev.step (fun k => by rw [evermoreref14_Check.j2]) ?_
      cases b with
      | true =>
        simp only [if_true]
        rw [h1 (or_ext _ _ _ _ hb)]
        exact Ev.now _
      | false =>
        simp only [if_neg (show ¬ (false = true) by decide)]
        obtain ⟨e0, e1, e2⟩ := or_f3 _ _ _ hb
        rw [e0, e1, e2, Bool.false_or, Bool.false_or, Bool.false_or] at h1 h2
        have := anyL_ev0 0 x.f3 noB 2 r (fun k j => evermoreref14_Check.l2 k l (i : Int) j x.f0 x.f1 x.f2 x.f3) (by
          intro j hj e
          refine Ev.step (fun k => by rw [evermoreref14_Check.l2]) ?_
          simp only [rdN, if_pos (show (j : Int) < (x.f3.length : Int) by omega), if_pos (show (0 : Int) ≤ (j : Int) by omega)]
          rcases noB_t e with e | ⟨e, e'⟩
          · simp only [if_pos e]; exact Ev.now _
          · simp only [if_neg e, if_pos e']; exact Ev.now _) (by
          intro j hj e r' hr
          refine Ev.step (fun k => by rw [evermoreref14_Check.l2]) ?_
          simp only [rdN, if_pos (show (j : Int) < (x.f3.length : Int) by omega), if_pos (show (0 : Int) ≤ (j : Int) by omega), if_neg (noB_f e).1, if_neg (noB_f e).2, w1 j (by omega)]
          exact hr) (by
          intro e
          refine Ev.step (fun k => by rw [evermoreref14_Check.l2]) ?_
          simp only [if_neg (show ¬ (x.f3.length : Int) < (x.f3.length : Int) by omega), w1 i (by omega)]
          exact h2 e)
        refine evc this ?_
        cases e : x.f3.any noB with
        | true => rw [h1 e]; rfl
        | false => rfl
    have e : ∀ a : Int, ¬ a < 0 → noB a = decide (a > 2) := fun a ha => by unfold noB; rw [decide_eq_false ha, Bool.false_or]
    have e0 : ∀ a : Int, a < 0 → noB a = true := fun a ha => by unfold noB; rw [decide_eq_true ha, Bool.true_or]
    by_cases q1 : x.f0 < 0
    · simp only [if_pos q1]; exact j2 true (by rw [e0 _ q1]; rfl)
    simp only [if_neg q1]
    by_cases q2 : x.f0 > 2
    · simp only [if_pos q2]; exact j2 true (by rw [e _ q1, decide_eq_true q2]; rfl)
    simp only [if_neg q2]
    by_cases q3 : x.f1 < 0
    · simp only [if_pos q3]; exact j2 true (by rw [e0 _ q3]; simp)
    simp only [if_neg q3]
    by_cases q4 : x.f1 > 2
    · simp only [if_pos q4]; exact j2 true (by rw [e _ q3, decide_eq_true q4]; simp)
    simp only [if_neg q4]
    by_cases q5 : x.f2 < 0
    · simp only [if_pos q5]; exact j2 true (by rw [e0 _ q5]; simp)
    simp only [if_neg q5]
    exact j2 _ (by rw [e _ q1, e _ q3, e _ q5, decide_eq_false q2, decide_eq_false q4, Bool.false_or, Bool.false_or])
  refine anyL_ev0 z72 l badR 2 0 (fun k i => evermoreref14_Check.l1 k l i) ?_ ?_ ?_
  · intro i hi e; exact st i hi 2 (fun _ => rfl) (fun e' => by rw [e] at e'; cases e')
  · intro i hi e r hr; exact st i hi r (fun e' => by rw [e] at e'; cases e') (fun _ => hr)
  · intro _
    refine Ev.step (fun k => by rw [evermoreref14_Check.l1]) ?_
    simp only [if_neg (show ¬ (l.length : Int) < (l.length : Int) by omega)]
    exact Ev.now _
theorem pcfg_ev (a : Int) (w : List Int) : Ev (fun k => stack_config.f k a w) (vG a w) := by
  unfold stack_config.f vG
  by_cases h : w.length > 20
  · simp only [if_pos h, if_pos (show (w.length : Int) > 20 by omega)]; exact Ev.now _
  simp only [if_neg h, if_neg (show ¬ (w.length : Int) > 20 by omega), no_ev, Option.bind_some]
  cases noB a with
  | true => simp only [if_true]; exact Ev.now _
  | false =>
    simp only [if_neg (show ¬ (false = true) by decide)]
    refine Ev.bind (slices_ContainsFunc__stack_no_ev w noB (by omega) (fun y _ => evs (no_ev y))) ?_
    cases w.any noB with
    | true => simp only [if_true]; exact Ev.now _
    | false => simp only [if_neg (show ¬ (false = true) by decide)]; exact Ev.now _
theorem rcfg_ev (a : Int) (w : List Int) : Ev (fun k => evermoreref14_Config.f k a w) (vG a w) := by
  have j0 : w.length ≤ 20 → ∀ b : Bool, b = noB a → Ev (fun k => evermoreref14_Config.j0 k b a w) (if noB a = true then 2 else if w.any noB = true then 2 else 0) := by
    intro hw b hb
    refine Ev.step (fun k => by rw [evermoreref14_Config.j0]) ?_
    rw [← hb]
    cases b with
    | true => simp only [if_true]; exact Ev.now _
    | false =>
      simp only [if_neg (show ¬ (false = true) by decide)]
      refine anyL_ev0 0 w noB 2 0 (fun k j => evermoreref14_Config.l0 k j a w) ?_ ?_ ?_
      · intro j hj e
        refine Ev.step (fun k => by rw [evermoreref14_Config.l0]) ?_
        simp only [rdN, if_pos (show (j : Int) < (w.length : Int) by omega), if_pos (show (0 : Int) ≤ (j : Int) by omega)]
        rcases noB_t e with e | ⟨e, e'⟩
        · simp only [if_pos e]; exact Ev.now _
        · simp only [if_neg e, if_pos e']; exact Ev.now _
      · intro j hj e r hr
        refine Ev.step (fun k => by rw [evermoreref14_Config.l0]) ?_
        simp only [rdN, if_pos (show (j : Int) < (w.length : Int) by omega), if_pos (show (0 : Int) ≤ (j : Int) by omega), if_neg (noB_f e).1, if_neg (noB_f e).2, w1 j (by omega)]
        exact hr
      · intro _
        refine Ev.step (fun k => by rw [evermoreref14_Config.l0]) ?_
        simp only [if_neg (show ¬ (w.length : Int) < (w.length : Int) by omega)]
        exact Ev.now _
  unfold evermoreref14_Config.f vG
  by_cases h : w.length > 20
  · simp only [if_pos h, if_pos (show (w.length : Int) > 20 by omega)]; exact Ev.now _
  simp only [if_neg h, if_neg (show ¬ (w.length : Int) > 20 by omega)]
  by_cases q : a < 0
  · simp only [if_pos q]; exact j0 (by omega) true (by unfold noB; rw [decide_eq_true q]; rfl)
  · simp only [if_neg q]; exact j0 (by omega) _ (by unfold noB; rw [decide_eq_false q]; rfl)
theorem chkd_ev (l : List S72) (hb : l.length ≤ 4611686018427387904) (hl : ∀ x ∈ l, x.f3.length ≤ 4611686018427387904) (a : Int) (w : List Int) : Ev (fun k => stack_checked.f k l [⟨a, w⟩]) (if vK l = 0 then vG a w else vK l) := by
  unfold stack_checked.f
  refine Ev.bind (pchk_ev l hb hl) ?_
  by_cases h : vK l = 0
  · simp only [if_pos h]
    refine Ev.step (fun k => by rw [stack_checked.l0]) ?_
    have s1 : ((([(⟨a, w⟩ : S65)] : List S65).length : Nat) : Int) = 1 := rfl
    have r0 : rd_T65 [(⟨a, w⟩ : S65)] 0 = ⟨a, w⟩ := rfl
    simp only [s1, r0, if_pos (show (0 : Int) < 1 by decide), if_pos (show (0 : Int) ≤ 0 by decide)]
    refine Ev.bind (pcfg_ev a w) ?_
    by_cases g : vG a w = 0
    · simp only [if_pos g, show wrap64 (0 + 1) = 1 from w64 (n := 0 + 1) (by decide) (by decide)]
      refine Ev.step (fun k => by rw [stack_checked.l0]) ?_
      simp only [s1, if_neg (show ¬ (1 : Int) < 1 by decide)]
      rw [g]; exact Ev.now _
    · simp only [if_neg g]; exact Ev.now _
  · simp only [if_neg h]; exact Ev.now _
/-- can the rule be done? -/
def canB (x : S72) (a : Int) (w : List Int) : Bool := decide (a = x.f0) && (decide (w ≠ []) && decide (w.getD 0 0 = x.f1))
/-- the answer, with its error -/
def stS (l : List S72) (a : Int) (w : List Int) (r : Int) : Int × List Int × Int :=
  if vK l = 0 then (if vG a w = 0 then (if r < 0 ∨ r ≥ (l.length : Int) then (0, [], 5) else if canB (l.getD r.toNat z72) a w = true then ((l.getD r.toNat z72).f2, (l.getD r.toNat z72).f3 ++ w.drop 1, 0) else (0, [], 6)) else (0, [], vG a w)) else (0, [], vK l)
theorem vG_len {a : Int} {w : List Int} (h : vG a w = 0) : w.length ≤ 20 := by
  unfold vG at h
  by_cases q : w.length > 20
  · rw [if_pos q] at h; omega
  · omega
theorem vK_len {l : List S72} (h : vK l = 0) : l.length ≤ 8 ∧ ∀ x ∈ l, x.f3.length ≤ 2 := by
  unfold vK at h
  by_cases q : l.length > 8
  · rw [if_pos q] at h; omega
  rw [if_neg q] at h
  by_cases q2 : l.any bigB = true
  · rw [if_pos q2] at h; omega
  refine ⟨by omega, fun x hx => ?_⟩
  cases e : bigB x with
  | false => have := of_decide_eq_false e; omega
  | true => exact absurd (List.any_eq_true.2 ⟨x, hx, e⟩) q2
theorem step_ev (l : List S72) (hb : l.length ≤ 4611686018427387904) (hl : ∀ x ∈ l, x.f3.length ≤ 4611686018427387904) (a : Int) (w : List Int) (r : Int) : Ev (fun k => stack_Step.f k l a w r) (stS l a w r) := by
  unfold stack_Step.f stS
  refine Ev.bind (chkd_ev l hb hl a w) ?_
  by_cases h : ¬ vK l = 0
  · simp only [if_neg h]; exact Ev.now _
  replace h := Classical.not_not.1 h
  simp only [if_pos h]
  by_cases g : ¬ vG a w = 0
  · simp only [if_neg g]; exact Ev.now _
  replace g := Classical.not_not.1 g
  simp only [if_pos g]
  have hw := vG_len g
  have j0 : ∀ b : Bool, (b = true ↔ r < 0 ∨ r ≥ (l.length : Int)) → Ev (fun k => stack_Step.j0 k l r b a w) (if r < 0 ∨ r ≥ (l.length : Int) then (0, [], 5) else if canB (l.getD r.toNat z72) a w = true then ((l.getD r.toNat z72).f2, (l.getD r.toNat z72).f3 ++ w.drop 1, 0) else (0, [], 6)) := by
    intro b hb'
    refine Ev.step (fun k => by rw [stack_Step.j0]) ?_
    by_cases q : r < 0 ∨ r ≥ (l.length : Int)
    · simp only [if_pos q, if_pos (hb'.2 q)]; exact Ev.now _
    simp only [if_neg q, if_neg (fun x => q (hb'.1 x)), if_pos (show 0 ≤ r by omega), if_pos (show r < (l.length : Int) by omega)]
    obtain ⟨n, hn⟩ := Int.eq_ofNat_of_zero_le (show 0 ≤ r by omega)
    rw [hn, Int.toNat_natCast]
    have hx := (vK_len h).2 _ (getD_mem l n z72 (by omega))
    simp only [rdT]
    generalize l.getD n z72 = x at hx ⊢
    unfold canB
    by_cases e0 : a = x.f0
    · simp only [if_pos e0, decide_eq_true e0, Bool.true_and]
      cases w with
      | nil => simp; exact Ev.now _
      | cons y ws =>
        have r0 : rd (y :: ws) 0 = y := rfl
        have hp : (0 : Int) < ((y :: ws).length : Int) := by rw [List.length_cons]; omega
        rw [List.length_cons] at hw
        simp only [if_neg (show ¬ ((y :: ws).length : Int) = 0 by omega), if_pos hp, r0]
        by_cases e1 : y = x.f1
        · simp only [if_pos e1]
          have ec : slices_Clone_int_int.f x.f3 = some x.f3 := by unfold slices_Clone_int_int.f; rw [if_pos (by omega)]
          refine Ev.bind (evs ec) ?_
          simp only [if_pos (show (1 : Int) ≤ ((y :: ws).length : Int) by omega), Option.bind_some, if_pos (show x.f3.length + ((y :: ws).drop 1).length < 17592186044416 by rw [List.length_drop, List.length_cons]; omega)]
          refine evc (Ev.now _) ?_
          rw [if_pos (by simp [e1])]
        · simp only [if_neg e1]
          refine evc (Ev.now _) ?_
          rw [if_neg (by simp [e1])]
    · simp only [if_neg e0, decide_eq_false e0, Bool.false_and, if_neg (show ¬ (false = true) by decide)]
      exact Ev.now _
  by_cases q : r < 0
  · simp only [if_pos q]; exact j0 true ⟨fun _ => .inl q, fun _ => rfl⟩
  · simp only [if_neg q]; exact j0 _ (by rw [decide_eq_true_iff]; omega)
theorem can_ev (x : S72) (a : Int) (w : List Int) : evermoreref14_Can.f x.f0 x.f1 x.f2 x.f3 a w = some (canB x a w) := by
  unfold evermoreref14_Can.f canB
  by_cases e0 : a = x.f0
  · simp only [if_pos e0, decide_eq_true e0, Bool.true_and]
    cases w with
    | nil => simp
    | cons y ws =>
      have r0 : rd (y :: ws) 0 = y := rfl
      have hp : (0 : Int) < ((y :: ws).length : Int) := by rw [List.length_cons]; omega
      simp only [if_pos hp, show ((y :: ws).length : Int) > 0 from hp, if_true, r0]
      by_cases e1 : y = x.f1
      · simp [e1]
      · simp [e1]
  · simp only [if_neg e0, decide_eq_false e0, Bool.false_and]
theorem same_ev (a : Int) (w : List Int) (hw : w.length ≤ 4611686018427387904) : Ev (fun k => evermoreref14_Same.f k a w a w) true := by
  unfold evermoreref14_Same.f
  simp only [if_true]
  refine Ev.step (fun k => by rw [evermoreref14_Same.j0]) ?_
  simp only [bne_self_eq_false, if_neg (show ¬ (false = true) by decide)]
  have key : ∀ d i : Nat, i + d = w.length → Ev (fun k => evermoreref14_Same.l0 k (i : Int) a w a w) true := by
    intro d
    induction d with
    | zero =>
      intro i hi
      refine Ev.step (fun k => by rw [evermoreref14_Same.l0]) ?_
      simp only [if_neg (show ¬ (i : Int) < (w.length : Int) by omega)]
      exact Ev.now _
    | succ d ih =>
      intro i hi
      refine Ev.step (fun k => by rw [evermoreref14_Same.l0]) ?_
      simp only [if_pos (show (i : Int) < (w.length : Int) by omega), if_pos (show (0 : Int) ≤ (i : Int) by omega), if_true, w1 i (by omega)]
      exact ih (i + 1) (by omega)
  exact key w.length 0 (by omega)
theorem StackSteps : evermorelaw_StackSteps.PureH := by
  intro l a w r hl ha hr
  obtain ⟨_, hb, hi⟩ := hl
  have hbig : l.length ≤ 4611686018427387904 := by omega
  have hl3 : ∀ x ∈ l, x.f3.length ≤ 4611686018427387904 := fun x hx => by have := (hi x hx).2.2.2.2.1; omega
  refine Ev.rounds ?_
  unfold evermorelaw_StackSteps.f
  refine Ev.bind (pchk_ev l hbig hl3) ?_
  refine Ev.bind (rchk_ev l) ?_
  refine Ev.bind (step_ev l hbig hl3 a w r) ?_
  simp only [if_true]
  have j3 : ∀ (x10 x11 c : Int) (v : List Int), (x11 ≠ 0 → x10 = x11 ∧ c = 0 ∧ v = []) → (x11 = 0 → 0 ≤ r ∧ r < (l.length : Int) ∧ vK l = 0 ∧ vG a w = 0 ∧ canB (l.getD r.toNat z72) a w = true ∧ x10 = 0 ∧ c = (l.getD r.toNat z72).f2 ∧ v = (l.getD r.toNat z72).f3 ++ w.drop 1) → Ev (fun k => evermorelaw_StackSteps.j3 k l r x10 x11 a w c v) true := by
    intro x10 x11 c v h1 h2
    refine Ev.step (fun k => by rw [evermorelaw_StackSteps.j3]) ?_
    by_cases h0 : x11 = 0
    · obtain ⟨g1, g2, g3, g4, g5, g6, g7, g8⟩ := h2 h0
      obtain ⟨n, hn⟩ := Int.eq_ofNat_of_zero_le g1
      have hx := (vK_len g3).2 _ (getD_mem l n z72 (by omega))
      have hw := vG_len g4
      rw [hn, Int.toNat_natCast] at g5 g7 g8
      simp only [if_pos h0, if_pos g1, if_pos g2, hn, if_pos (show (0 : Int) ≤ (n : Int) by omega), if_pos (show (n : Int) < (l.length : Int) by omega), rdT, g6, if_true]
      rw [g7, g8]
      generalize l.getD n z72 = x at hx g5 ⊢
      have hne : w ≠ [] := by
        intro e; unfold canB at g5; rw [e] at g5; simp at g5
      have hp : 0 < w.length := List.length_pos_iff.2 hne
      have eb : evermoreref14_Behind.f x.f0 x.f1 x.f2 x.f3 a w = some (x.f2, x.f3 ++ w.drop 1) := by
        unfold evermoreref14_Behind.f
        simp only [List.length_nil, Nat.zero_add, List.nil_append, if_pos (show x.f3.length < 17592186044416 by omega), Option.bind_some, if_pos (show (1 : Int) ≤ (w.length : Int) by omega), if_pos (show x.f3.length + (w.drop 1).length < 17592186044416 by rw [List.length_drop]; omega)]
      refine Ev.bind (evs eb) ?_
      exact Ev.bind (same_ev _ _ (by rw [List.length_append, List.length_drop]; omega)) (Ev.now _)
    · obtain ⟨g1, g2, g3⟩ := h1 h0
      simp only [if_neg h0, if_pos g1, g2, g3, if_true]
      exact Ev.now _
  have j2 : ∀ (x10 x11 c : Int) (v : List Int), (x11 ≠ 0 → x10 = x11 ∧ c = 0 ∧ v = []) → (x11 = 0 → 0 ≤ r ∧ r < (l.length : Int) ∧ vK l = 0 ∧ vG a w = 0 ∧ (canB (l.getD r.toNat z72) a w = true → x10 = 0 ∧ c = (l.getD r.toNat z72).f2 ∧ v = (l.getD r.toNat z72).f3 ++ w.drop 1) ∧ (canB (l.getD r.toNat z72) a w = false → x10 = 6 ∧ c = 0 ∧ v = [])) → Ev (fun k => evermorelaw_StackSteps.j2 k l r x10 x11 a w c v) true := by
    intro x10 x11 c v h1 h2
    refine Ev.step (fun k => by rw [evermorelaw_StackSteps.j2]) ?_
    by_cases h0 : x11 = 0
    · obtain ⟨g1, g2, g3, g4, g5, g6⟩ := h2 h0
      obtain ⟨n, hn⟩ := Int.eq_ofNat_of_zero_le g1
      simp only [if_pos h0, if_pos g1, if_pos g2]
      have er : rd_T72 l r = l.getD r.toNat z72 := by unfold rd_T72; rfl
      simp only [er]
      refine Ev.bind (evs (can_ev _ a w)) ?_
      cases e : canB (l.getD r.toNat z72) a w with
      | true => simp only [if_true]; exact j3 x10 x11 c v (fun h => absurd h0 h) (fun _ => ⟨g1, g2, g3, g4, e, g5 e⟩)
      | false => simp only [if_neg (show ¬ (false = true) by decide)]; exact j3 x10 6 c v (fun _ => g6 e) (fun h => absurd h (by decide))
    · simp only [if_neg h0]; exact j3 x10 x11 c v h1 (fun h => absurd h h0)
  have j1 : ∀ (x10 x11 c : Int) (v : List Int) (b : Bool), (b = true → x10 = 5 ∧ c = 0 ∧ v = []) → (b = false → x11 ≠ 0 → x10 = x11 ∧ c = 0 ∧ v = []) → (b = false → x11 = 0 → 0 ≤ r ∧ r < (l.length : Int) ∧ vK l = 0 ∧ vG a w = 0 ∧ (canB (l.getD r.toNat z72) a w = true → x10 = 0 ∧ c = (l.getD r.toNat z72).f2 ∧ v = (l.getD r.toNat z72).f3 ++ w.drop 1) ∧ (canB (l.getD r.toNat z72) a w = false → x10 = 6 ∧ c = 0 ∧ v = [])) → Ev (fun k => evermorelaw_StackSteps.j1 k l r x10 x11 b a w c v) true := by
    intro x10 x11 c v b h1 h2 h3
    refine Ev.step (fun k => by rw [evermorelaw_StackSteps.j1]) ?_
    cases b with
    | true => simp only [if_true]; exact j2 x10 5 c v (fun _ => h1 rfl) (fun h => absurd h (by decide))
    | false => simp only [if_neg (show ¬ (false = true) by decide)]; exact j2 x10 x11 c v (h2 rfl) (h3 rfl)
  unfold stS
  by_cases h : vK l = 0
  · simp only [if_pos h]
    refine Ev.bind (rcfg_ev a w) ?_
    refine Ev.step (fun k => by rw [evermorelaw_StackSteps.j0]) ?_
    by_cases g : vG a w = 0
    · simp only [if_pos g]
      by_cases q : r < 0
      · simp only [if_pos q, if_pos (show r < 0 ∨ r ≥ (l.length : Int) from .inl q)]
        exact j1 _ _ _ _ true (fun _ => ⟨rfl, rfl, rfl⟩) (fun e => by cases e) (fun e => by cases e)
      · simp only [if_neg q]
        by_cases q2 : r ≥ (l.length : Int)
        · rw [decide_eq_true q2]; simp only [if_pos (show r < 0 ∨ r ≥ (l.length : Int) from .inr q2)]
          exact j1 _ _ _ _ true (fun _ => ⟨rfl, rfl, rfl⟩) (fun e => by cases e) (fun e => by cases e)
        · rw [decide_eq_false q2]; simp only [if_neg (show ¬ (r < 0 ∨ r ≥ (l.length : Int)) by omega)]
          cases e : canB (l.getD r.toNat z72) a w with
          | true => simp only [if_true]; exact j1 _ _ _ _ false (fun e => by cases e) (fun _ h' => absurd g h') (fun _ _ => ⟨by omega, by omega, h, g, fun _ => ⟨rfl, rfl, rfl⟩, fun e' => by rw [e] at e'; cases e'⟩)
          | false => simp only [if_neg (show ¬ (false = true) by decide)]; exact j1 _ _ _ _ false (fun e => by cases e) (fun _ h' => absurd g h') (fun _ _ => ⟨by omega, by omega, h, g, fun e' => (by rw [e] at e'; cases e'), fun _ => ⟨rfl, rfl, rfl⟩⟩)
    · simp only [if_neg g]
      exact j1 _ _ _ _ false (fun e => by cases e) (fun _ _ => ⟨rfl, rfl, rfl⟩) (fun _ h' => absurd h' g)
  · simp only [if_neg h]
    refine Ev.step (fun k => by rw [evermorelaw_StackSteps.j0]) ?_
    simp only [if_neg h]
    exact j1 _ _ _ _ false (fun e => by cases e) (fun _ _ => ⟨rfl, rfl, rfl⟩) (fun _ h' => absurd h' h)

end Go.Proofs.Ythbdmfhobienaaa.Pure
