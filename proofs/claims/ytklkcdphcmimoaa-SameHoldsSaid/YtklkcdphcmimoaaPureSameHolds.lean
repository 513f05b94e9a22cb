/- For every graph and every saying the program's checks and answer are the reference's. No conditions beyond the statement's. -/
import Derived.Test.YtklkcdphcmimoaaPSameHoldsx10
import Derived.Test.YtklkcdphcmimoaaQSameHolds
namespace Go.Proofs.Ytklkcdphcmimoaa.Pure
open Go.RowKit Go.Proofs.Ytklkcdphcmimoaa.PSameHolds Go.Proofs.YtklkcdphcmimoaaW.PrintWords Go.Proofs.YtklkcdphcmimoaaW.PrintLast Go.Proofs.YtklkcdphcmimoaaW.PrintMore
set_option linter.unusedVariables false
set_option linter.unusedSimpArgs false
theorem w64 {n : Int} (h : -9223372036854775808 ≤ n) (h' : n ≤ 9223372036854775807) : wrap64 n = n := by unfold wrap64; omega
theorem rdn (l : List Int) (i : Nat) (h : i < l.length) : rd l (i : Int) = l[i] := by
  unfold rd; rw [Int.toNat_natCast, List.getD_eq_getElem?_getD, List.getElem?_eq_getElem h]; rfl
theorem rdOfn {α : Type} (d : α) (l : List α) (i : Nat) (h : i < l.length) : rdOf d l (i : Int) = l[i] := by
  unfold rdOf; rw [Int.toNat_natCast, List.getD_eq_getElem?_getD, List.getElem?_eq_getElem h]; rfl
theorem evc {α : Type} {g : Nat → Option α} {a b : α} (h : Ev g a) (e : a = b) : Ev g b := e ▸ h
theorem rdN (l : List Int) (n : Nat) : rd l (n : Int) = l.getD n 0 := by unfold rd; rw [Int.toNat_natCast]
theorem w1 (i : Nat) (h : i ≤ 9223372036854775000) : wrap64 ((i : Int) + 1) = ((i + 1 : Nat) : Int) := by rw [w64 (by omega) (by omega)]; omega
theorem getD_mem {α : Type} (l : List α) (n : Nat) (d : α) (h : n < l.length) : l.getD n d ∈ l := by
  rw [List.getD_eq_getElem?_getD, List.getElem?_eq_getElem h]; exact List.getElem_mem h
theorem drop_getD {α : Type} (l : List α) (n : Nat) (d : α) (h : n < l.length) : l.drop n = l.getD n d :: l.drop (n + 1) := by
  rw [List.drop_eq_getElem_cons h, List.getD_eq_getElem?_getD, List.getElem?_eq_getElem h]; rfl
/-- the first place at which p holds, from i on; -1: none -/
def ixf {α : Type} (p : α → Bool) : List α → Nat → Int
  | [], _ => -1
  | x :: xs, i => if p x = true then (i : Int) else ixf p xs (i + 1)
theorem ixf_any {α : Type} (p : α → Bool) : ∀ (xs : List α) (i : Nat), decide (ixf p xs i ≥ 0) = xs.any p
  | [], _ => by simp [ixf]
  | x :: xs, i => by
    have ih := ixf_any p xs (i + 1)
    by_cases h : p x = true
    · rw [ixf, if_pos h, List.any_cons, h]
      simp
    · rw [ixf, if_neg h, List.any_cons, ih]
      simp [h]
/-- a loop over a list that ends at the first element of which p holds -/
theorem anyL_ev {α R : Type} (d0 : α) (xs : List α) (p : α → Bool) (a b : R) (L : Nat → Int → Option R)
    (hstop : ∀ i : Nat, i < xs.length → p (xs.getD i d0) = true → Ev (fun k => L k (i : Int)) a)
    (hgo : ∀ i : Nat, i < xs.length → p (xs.getD i d0) = false → ∀ r, Ev (fun k => L k ((i + 1 : Nat) : Int)) r → Ev (fun k => L k (i : Int)) r)
    (hend : xs.any p = false → Ev (fun k => L k (xs.length : Int)) b) : ∀ d i : Nat, i + d = xs.length → ((xs.drop i).any p = false → xs.any p = false) → Ev (fun k => L k (i : Int)) (if (xs.drop i).any p = true then a else b) := by
  intro d
  induction d with
  | zero =>
    intro i hi hp
    rw [List.drop_of_length_le (by omega)] at hp ⊢
    rw [show i = xs.length by omega]
    exact hend (hp rfl)
  | succ d ih =>
    intro i hi hp
    rw [drop_getD xs i d0 (by omega), List.any_cons] at hp ⊢
    cases h : p (xs.getD i d0) with
    | true => exact hstop i (by omega) h
    | false => exact hgo i (by omega) h _ (ih (i + 1) (by omega) (fun e => hp (by rw [h, e]; rfl)))
theorem anyL_ev0 {α R : Type} (d0 : α) (xs : List α) (p : α → Bool) (a b : R) (L : Nat → Int → Option R)
    (hstop : ∀ i : Nat, i < xs.length → p (xs.getD i d0) = true → Ev (fun k => L k (i : Int)) a)
    (hgo : ∀ i : Nat, i < xs.length → p (xs.getD i d0) = false → ∀ r, Ev (fun k => L k ((i + 1 : Nat) : Int)) r → Ev (fun k => L k (i : Int)) r)
    (hend : xs.any p = false → Ev (fun k => L k (xs.length : Int)) b) : Ev (fun k => L k 0) (if xs.any p = true then a else b) := by
  have := anyL_ev d0 xs p a b L hstop hgo hend xs.length 0 (by omega) (fun h => by rwa [List.drop_zero] at h)
  rwa [List.drop_zero] at this
/-- a loop over numbers that ends at the first one of which p holds -/
theorem anyN_ev {R : Type} (n : Nat) (p : Nat → Bool) (a b : R) (L : Nat → Int → Option R)
    (hstop : ∀ i : Nat, i < n → p i = true → Ev (fun k => L k (i : Int)) a)
    (hgo : ∀ i : Nat, i < n → p i = false → ∀ r, Ev (fun k => L k ((i + 1 : Nat) : Int)) r → Ev (fun k => L k (i : Int)) r)
    (hend : (List.range n).any p = false → Ev (fun k => L k (n : Int)) b) : Ev (fun k => L k 0) (if (List.range n).any p = true then a else b) := by
  have e : (List.range n).length = n := List.length_range
  have g : ∀ i, i < n → (List.range n).getD i 0 = i := fun i hi => by rw [List.getD_eq_getElem?_getD, List.getElem?_range hi]; rfl
  exact anyL_ev0 0 (List.range n) p a b L (fun i hi h => by rw [e] at hi; rw [g i hi] at h; exact hstop i hi h) (fun i hi h r hr => by rw [e] at hi; rw [g i hi] at h; exact hgo i hi h r hr) (fun h => by rw [e]; exact hend h)
theorem evs {α : Type} {x : Option α} {r : α} (h : x = some r) : Ev (fun _ => x) r := ⟨0, fun _ _ => h⟩
/-- the first fault -/
def fe (f : Nat → Int) : List Nat → Int
  | [] => 0
  | i :: is => if f i = 0 then fe f is else f i
theorem fe_range (f : Nat → Int) (n : Nat) : ∀ d i, i + d = n → fe f ((List.range n).drop i) = 0 → ∀ j, i ≤ j → j < n → f j = 0 := by
  intro d
  induction d with
  | zero => intro i hi _ j h1 h2; omega
  | succ d ih =>
    intro i hi h j h1 h2
    rw [List.drop_eq_getElem_cons (by rw [List.length_range]; omega), List.getElem_range, fe] at h
    by_cases e : f i = 0
    · rw [if_pos e] at h
      rcases Nat.lt_or_ge i j with hj | hj
      · exact ih (i + 1) (by omega) h j (by omega) h2
      · rw [show j = i by omega]; exact e
    · rw [if_neg e] at h; exact absurd h e
theorem fe_ok {f : Nat → Int} {n : Nat} (h : fe f (List.range n) = 0) : ∀ j, j < n → f j = 0 := fun j hj => fe_range f n n 0 (by omega) (by rwa [List.drop_zero]) j (Nat.zero_le _) hj
/-- a loop over numbers that ends at the first fault -/
theorem feN_ev {R : Type} (n : Nat) (f : Nat → Int) (G : Int → R) (b : R) (hb : G 0 = b) (L : Nat → Int → Option R)
    (hstop : ∀ i : Nat, i < n → f i ≠ 0 → Ev (fun k => L k (i : Int)) (G (f i)))
    (hgo : ∀ i : Nat, i < n → f i = 0 → ∀ r, Ev (fun k => L k ((i + 1 : Nat) : Int)) r → Ev (fun k => L k (i : Int)) r)
    (hend : Ev (fun k => L k (n : Int)) b) : Ev (fun k => L k 0) (G (fe f (List.range n))) := by
  have key : ∀ d i : Nat, i + d = n → Ev (fun k => L k (i : Int)) (G (fe f ((List.range n).drop i))) := by
    intro d
    induction d with
    | zero =>
      intro i hi
      rw [List.drop_of_length_le (by rw [List.length_range]; omega), show i = n by omega, fe, hb]
      exact hend
    | succ d ih =>
      intro i hi
      rw [List.drop_eq_getElem_cons (by rw [List.length_range]; omega), List.getElem_range, fe]
      by_cases e : f i = 0
      · rw [if_pos e]; exact hgo i (by omega) e _ (ih (i + 1) (by omega))
      · rw [if_neg e]; exact hstop i (by omega) e
  have := key n 0 (by omega)
  rwa [List.drop_zero] at this
/-- a row that is filled from the left -/
def fillR {α : Type} (v : Nat → α) (z : α) (n i : Nat) : List α := (List.range i).map v ++ List.replicate (n - i) z
theorem fillR_len {α : Type} (v : Nat → α) (z : α) {n i : Nat} (h : i ≤ n) : (fillR v z n i).length = n := by
  unfold fillR; rw [List.length_append, List.length_map, List.length_range, List.length_replicate]; omega
theorem fillR_set {α : Type} (v : Nat → α) (z : α) {n i : Nat} (h : i < n) (x : α) (hx : x = v i) : (fillR v z n i).set i x = fillR v z n (i + 1) := by
  subst hx
  unfold fillR
  have e : List.replicate (n - i) z = z :: List.replicate (n - (i + 1)) z := by
    rw [show n - i = (n - (i + 1)) + 1 by omega]; rfl
  rw [e, List.range_succ, List.map_append, List.append_assoc, List.set_append_right _ _ (by rw [List.length_map, List.length_range]; omega), List.length_map, List.length_range, Nat.sub_self]
  rfl
theorem fillR_zero {α : Type} (v : Nat → α) (z : α) (n : Nat) : fillR v z n 0 = List.replicate n z := by unfold fillR; rfl
theorem fillR_full {α : Type} (v : Nat → α) (z : α) (n : Nat) : fillR v z n n = (List.range n).map v := by unfold fillR; rw [Nat.sub_self]; simp
theorem getD_mapRange {α : Type} (v : Nat → α) (d : α) {n i : Nat} (h : i < n) : ((List.range n).map v).getD i d = v i := by
  rw [List.getD_eq_getElem?_getD, List.getElem?_map, List.getElem?_range h]; rfl
theorem wf64 {n : Int} (h : (Lit.int .i64 n).wf = true) : -9223372036854775808 ≤ n ∧ n ≤ 9223372036854775807 := by
  simp [Lit.wf, IntKind.min, IntKind.max, IntKind.signed, IntKind.bits] at h
  omega
theorem rdT3 (l : List S133) (n : Nat) : rd_T133 l (n : Int) = l.getD n z133 := by unfold rd_T133; rw [Int.toNat_natCast]
theorem rdT8 (l : List S138) (n : Nat) : rd_T138 l (n : Int) = l.getD n z138 := by unfold rd_T138; rw [Int.toNat_natCast]
theorem rdB (l : List (List Bool)) (n : Nat) : rd_L4 l (n : Int) = l.getD n [] := by unfold rd_L4; rw [Int.toNat_natCast]
theorem rdb (l : List Bool) (n : Nat) : rdOf false l (n : Int) = l.getD n false := by unfold rdOf; rw [Int.toNat_natCast]
theorem wm1 (i : Nat) (h : 0 < i) (h2 : i ≤ 9223372036854775000) : wrap64 ((i : Int) - 1) = ((i - 1 : Nat) : Int) := by rw [w64 (by omega) (by omega)]; omega
def badA (a0 a1 : Int) (x : S133) : Bool := decide (x.f0 < 0) || (decide (x.f0 ≥ a1) || (decide (x.f2 < 0) || (decide (x.f2 ≥ a1) || (decide (x.f1 < 0) || decide (x.f1 ≥ a0)))))
def ahead (x y : S133) : Bool := if x.f0 = y.f0 then (if x.f1 = y.f1 then decide (x.f2 < y.f2) else decide (x.f1 < y.f1)) else decide (x.f0 < y.f0)
def shp (l : List S133) (i : Nat) : Bool := decide (0 < i) && !(ahead (l.getD (i - 1) z133) (l.getD i z133))
def vC (a0 a1 : Int) (l : List S133) : Int := if a0 < 1 ∨ a0 > 4 then 2 else if a1 < 1 ∨ a1 > 12 ∨ l.length > 60 then 1 else if l.any (badA a0 a1) = true then 2 else if (List.range l.length).any (shp l) = true then 3 else 0
theorem or_b {p : Prop} [Decidable p] {b : Bool} (h : p) : (decide p || b) = true := by rw [decide_eq_true h]; rfl
theorem or_nb {p : Prop} [Decidable p] {b : Bool} (h : ¬ p) : (decide p || b) = b := by rw [decide_eq_false h]; rfl
theorem c2_ev (x : S133) (a0 a1 : Int) (l : List S133) : same_Check_2.f x.f0 x.f1 x.f2 a0 a1 l = some (badA a0 a1 x) := by
  unfold same_Check_2.f same_Check_1.f badA
  by_cases h1 : x.f0 < 0
  · simp only [if_pos h1, or_b h1, Option.bind_some, if_true]
  simp only [if_neg h1, or_nb h1, Option.bind_some]
  by_cases h2 : x.f0 ≥ a1
  · simp only [if_pos (decide_eq_true h2), or_b h2]
  simp only [or_nb h2, decide_eq_false h2, if_neg (show ¬ (false = true) by decide)]
  by_cases h3 : x.f2 < 0
  · simp only [if_pos h3, or_b h3, Bool.false_or, Option.bind_some, if_true]
  simp only [if_neg h3, or_nb h3, Bool.false_or, Option.bind_some]
  by_cases h4 : x.f2 ≥ a1
  · simp only [if_pos (decide_eq_true h4), or_b h4, Bool.false_or]
  simp only [or_nb h4, decide_eq_false h4, if_neg (show ¬ (false = true) by decide)]
  by_cases h5 : x.f1 < 0
  · simp only [if_pos h5, or_b h5, Bool.false_or]
  simp only [if_neg h5, or_nb h5, Bool.false_or]
theorem slices_IndexFunc__same_Check_2_l0_ev (xs : List (S133)) (a3_0 : Int) (a3_1 : Int) (l3_2 : List (S133)) (p : S133 → Bool) (hb : xs.length ≤ 4611686018427387904) (hp : ∀ x ∈ xs, Ev (fun k => same_Check_2.f (x.f0) (x.f1) (x.f2) a3_0 a3_1 l3_2) (p x)) : ∀ d i : Nat, i + d = xs.length → Ev (fun k => slices_IndexFunc__same_Check_2.l0 k xs (xs.length : Int) (i : Int) a3_0 a3_1 l3_2) (ixf p (xs.drop i) i) := by
  intro d
  induction d with
  | zero =>
    intro i hi
    refine Ev.step (fun k => by rw [slices_IndexFunc__same_Check_2.l0]) ?_
    simp only [if_neg (show ¬ ((i : Int) < (xs.length : Int)) by omega)]
    rw [List.drop_of_length_le (by omega)]
    exact Ev.now _
  | succ d ih =>
    intro i hi
    refine Ev.step (fun k => by rw [slices_IndexFunc__same_Check_2.l0]) ?_
    have er : rd_T133 xs (i : Int) = xs.getD i z133 := by unfold rd_T133; rw [Int.toNat_natCast]
    simp only [if_pos (show ((i : Int) < (xs.length : Int)) by omega), if_pos (show (0 ≤ (i : Int)) by omega), er]
    refine Ev.bind (hp _ (getD_mem xs i _ (by omega))) ?_
    rw [drop_getD xs i z133 (by omega), ixf]
    by_cases h : p (xs.getD i z133) = true
    · simp only [if_pos h]
      exact Ev.now _
    · simp only [if_neg h]
      rw [w1 i (by omega)]
      exact ih (i + 1) (by omega)
theorem slices_IndexFunc__same_Check_2_ev (xs : List (S133)) (a3_0 : Int) (a3_1 : Int) (l3_2 : List (S133)) (p : S133 → Bool) (hb : xs.length ≤ 4611686018427387904) (hp : ∀ x ∈ xs, Ev (fun k => same_Check_2.f (x.f0) (x.f1) (x.f2) a3_0 a3_1 l3_2) (p x)) : Ev (fun k => slices_IndexFunc__same_Check_2.f k xs a3_0 a3_1 l3_2) (ixf p xs 0) := by
  unfold slices_IndexFunc__same_Check_2.f
  exact slices_IndexFunc__same_Check_2_l0_ev xs a3_0 a3_1 l3_2 p hb hp xs.length 0 (by omega)
theorem slices_ContainsFunc__same_Check_2_ev (xs : List (S133)) (a3_0 : Int) (a3_1 : Int) (l3_2 : List (S133)) (p : S133 → Bool) (hb : xs.length ≤ 4611686018427387904) (hp : ∀ x ∈ xs, Ev (fun k => same_Check_2.f (x.f0) (x.f1) (x.f2) a3_0 a3_1 l3_2) (p x)) : Ev (fun k => slices_ContainsFunc__same_Check_2.f k xs a3_0 a3_1 l3_2) (xs.any p) := by
  unfold slices_ContainsFunc__same_Check_2.f
  refine Ev.bind (slices_IndexFunc__same_Check_2_ev xs a3_0 a3_1 l3_2 p hb hp) ?_
  rw [ixf_any]
  exact Ev.now _
theorem cmp_ev (a b : Int) : cmp_Compare_int.f a b = some (if a < b then -1 else if a > b then 1 else 0) := by
  unfold cmp_Compare_int.f cmp_isNaN_int.f
  have e : ∀ x : Int, (x != x) = false := fun x => by simp
  simp only [e, Option.bind_some, if_neg (show ¬ (false = true) by decide)]
  split
  · rfl
  · split <;> rfl
theorem or3_ev (x y z : Int) : Ev (fun k => cmp_Or_int.f k [x, y, z]) (if x = 0 then (if y = 0 then z else y) else x) := by
  unfold cmp_Or_int.f
  have s3 : ((([x, y, z] : List Int).length : Nat) : Int) = 3 := rfl
  have r0 : rd [x, y, z] 0 = x := rfl
  have r1 : rd [x, y, z] 1 = y := rfl
  have r2 : rd [x, y, z] 2 = z := rfl
  refine Ev.step (fun k => by rw [cmp_Or_int.l0]) ?_
  simp only [s3, r0, if_pos (show (0 : Int) < 3 by decide), if_pos (show (0 : Int) ≤ 0 by decide)]
  by_cases hx : ¬ x = 0
  · simp only [if_neg hx]; exact Ev.now _
  replace hx := Classical.not_not.1 hx
  simp only [if_pos hx, show wrap64 (0 + 1) = 1 from w64 (n := 0 + 1) (by decide) (by decide)]
  refine Ev.step (fun k => by rw [cmp_Or_int.l0]) ?_
  simp only [s3, r1, if_pos (show (1 : Int) < 3 by decide), if_pos (show (0 : Int) ≤ 1 by decide)]
  by_cases hy : ¬ y = 0
  · simp only [if_neg hy]; exact Ev.now _
  replace hy := Classical.not_not.1 hy
  simp only [if_pos hy, show wrap64 (1 + 1) = 2 from w64 (n := 1 + 1) (by decide) (by decide)]
  refine Ev.step (fun k => by rw [cmp_Or_int.l0]) ?_
  simp only [s3, r2, if_pos (show (2 : Int) < 3 by decide), if_pos (show (0 : Int) ≤ 2 by decide)]
  by_cases hz : z = 0
  · simp only [if_pos hz, show wrap64 (2 + 1) = 3 from w64 (n := 2 + 1) (by decide) (by decide)]
    refine Ev.step (fun k => by rw [cmp_Or_int.l0]) ?_
    simp only [s3, if_neg (show ¬ (3 : Int) < 3 by decide)]
    rw [hz]
    exact Ev.now _
  · simp only [if_neg hz]; exact Ev.now _
def cmpI (a b : Int) : Int := if a < b then -1 else if a > b then 1 else 0
theorem order_ev (x y : S133) : Ev (fun k => same_order.f k x.f0 x.f1 x.f2 y.f0 y.f1 y.f2) (if cmpI x.f0 y.f0 = 0 then (if cmpI x.f1 y.f1 = 0 then cmpI x.f2 y.f2 else cmpI x.f1 y.f1) else cmpI x.f0 y.f0) := by
  unfold same_order.f
  simp only [cmp_ev, Option.bind_some]
  exact Ev.bind (or3_ev _ _ _) (Ev.now _)
theorem order_ahead (x y : S133) : decide ((if cmpI x.f0 y.f0 = 0 then (if cmpI x.f1 y.f1 = 0 then cmpI x.f2 y.f2 else cmpI x.f1 y.f1) else cmpI x.f0 y.f0) ≥ 0) = !(ahead x y) := by
  have e : ∀ a b : Int, (cmpI a b = 0 ↔ a = b) ∧ (cmpI a b ≥ 0 ↔ ¬ a < b) := by
    intro a b
    unfold cmpI
    by_cases h : a < b
    · rw [if_pos h]; exact ⟨⟨fun z => absurd z (by decide), fun z => absurd h (by omega)⟩, ⟨fun z => absurd z (by decide), fun z => absurd h z⟩⟩
    · rw [if_neg h]
      by_cases h2 : a > b
      · rw [if_pos h2]; exact ⟨⟨fun z => absurd z (by decide), fun z => absurd h2 (by omega)⟩, ⟨fun _ => h, fun _ => by decide⟩⟩
      · rw [if_neg h2]; exact ⟨⟨fun _ => by omega, fun _ => rfl⟩, ⟨fun _ => h, fun _ => by decide⟩⟩
  unfold ahead
  by_cases h0 : x.f0 = y.f0
  · simp only [if_pos h0, if_pos ((e x.f0 y.f0).1.2 h0)]
    by_cases h1 : x.f1 = y.f1
    · simp only [if_pos h1, if_pos ((e x.f1 y.f1).1.2 h1), (e x.f2 y.f2).2, decide_not]
    · simp only [if_neg h1, if_neg (fun z => h1 ((e x.f1 y.f1).1.1 z)), (e x.f1 y.f1).2, decide_not]
  · simp only [if_neg h0, if_neg (fun z => h0 ((e x.f0 y.f0).1.1 z)), (e x.f0 y.f0).2, decide_not]
theorem pshp (a0 a1 : Int) (l : List S133) (hl : l.length ≤ 60) : Ev (fun k => same_Check.l0 k (l.length : Int) 0 a0 a1 l) (if (List.range l.length).any (shp l) = true then 3 else 0) := by
  have st : ∀ i : Nat, i < l.length → 0 < i → ∀ r : Int, (shp l i = true → r = 3) → (shp l i = false → Ev (fun k => same_Check.l0 k (l.length : Int) ((i + 1 : Nat) : Int) a0 a1 l) r) → Ev (fun k => same_Check.l0 k (l.length : Int) (i : Int) a0 a1 l) r := by
    intro i hi h0 r h1 h2
    refine Ev.step (fun k => by rw [same_Check.l0]) ?_
    simp only [wm1 i h0 (by omega), rdT3, if_pos (show (i : Int) < (l.length : Int) by omega), if_pos (show (i : Int) > 0 by omega), if_pos (show (0 : Int) ≤ ((i - 1 : Nat) : Int) by omega), if_pos (show ((i - 1 : Nat) : Int) < (l.length : Int) by omega), if_pos (show (0 : Int) ≤ (i : Int) by omega)]
    have ho := order_ev (l.getD (i - 1) z133) (l.getD i z133)
    have hd := order_ahead (l.getD (i - 1) z133) (l.getD i z133)
    revert ho hd
    generalize (if cmpI (l.getD (i - 1) z133).f0 (l.getD i z133).f0 = 0 then (if cmpI (l.getD (i - 1) z133).f1 (l.getD i z133).f1 = 0 then cmpI (l.getD (i - 1) z133).f2 (l.getD i z133).f2 else cmpI (l.getD (i - 1) z133).f1 (l.getD i z133).f1) else cmpI (l.getD (i - 1) z133).f0 (l.getD i z133).f0) = o
    intro ho hd
    refine Ev.bind ho ?_
    have hs : shp l i = !(ahead (l.getD (i - 1) z133) (l.getD i z133)) := by unfold shp; rw [decide_eq_true h0]; rfl
    rw [← hd] at hs
    by_cases h : o ≥ 0
    · simp only [if_pos h]
      rw [h1 (by rw [hs, decide_eq_true h])]
      exact Ev.now _
    · simp only [if_neg h, w1 i (by omega)]
      exact h2 (by rw [hs, decide_eq_false h])
  refine anyN_ev l.length (shp l) 3 0 (fun k i => same_Check.l0 k (l.length : Int) i a0 a1 l) ?_ ?_ ?_
  · intro i hi h
    have h0 : 0 < i := by
      unfold shp at h; rw [Bool.and_eq_true] at h; exact of_decide_eq_true h.1
    exact st i hi h0 3 (fun _ => rfl) (fun e => by rw [e] at h; cases h)
  · intro i hi h r hr
    by_cases h0 : 0 < i
    · exact st i hi h0 r (fun e => by rw [e] at h; cases h) (fun _ => hr)
    · obtain rfl : i = 0 := by omega
      refine Ev.step (fun k => by rw [same_Check.l0]) ?_
      simp only [if_pos (show ((0 : Nat) : Int) < (l.length : Int) by omega), if_neg (show ¬ ((0 : Nat) : Int) > 0 by omega), w1 0 (by omega)]
      exact hr
  · intro _
    refine Ev.step (fun k => by rw [same_Check.l0]) ?_
    simp only [if_neg (show ¬ (l.length : Int) < (l.length : Int) by omega)]
    exact Ev.now _
theorem pchk_ev (a0 a1 : Int) (l : List S133) (hbig : l.length ≤ 4611686018427387904) : Ev (fun k => same_Check.f k a0 a1 l) (vC a0 a1 l) := by
  have j1 : ∀ b : Bool, (b = true ↔ a1 < 1 ∨ a1 > 12 ∨ l.length > 60) → Ev (fun k => same_Check.j1 k b a0 a1 l) (if a1 < 1 ∨ a1 > 12 ∨ l.length > 60 then 1 else if l.any (badA a0 a1) = true then 2 else if (List.range l.length).any (shp l) = true then 3 else 0) := by
    intro b hb
    refine Ev.step (fun k => by rw [same_Check.j1]) ?_
    by_cases h : a1 < 1 ∨ a1 > 12 ∨ l.length > 60
    · simp only [if_pos h, if_pos (hb.2 h)]; exact Ev.now _
    · have hbn : ¬ b = true := fun x => h (hb.1 x)
      simp only [if_neg h, if_neg hbn]
      refine Ev.bind (slices_ContainsFunc__same_Check_2_ev l a0 a1 l (badA a0 a1) hbig (fun x _ => evs (c2_ev x a0 a1 l))) ?_
      cases q : l.any (badA a0 a1) with
      | true => simp only [if_true]; exact Ev.now _
      | false =>
        simp only [if_neg (show ¬ (false = true) by decide)]
        exact pshp a0 a1 l (by omega)
  have j0 : ∀ b : Bool, (b = true ↔ (a0 < 1 ∨ a0 > 4)) → Ev (fun k => same_Check.j0 k b a0 a1 l) (vC a0 a1 l) := by
    intro b hb
    refine Ev.step (fun k => by rw [same_Check.j0]) ?_
    unfold vC
    by_cases h : a0 < 1 ∨ a0 > 4
    · simp only [if_pos h, if_pos (hb.2 h)]; exact Ev.now _
    · have hbn : ¬ b = true := fun x => h (hb.1 x)
      simp only [if_neg h, if_neg hbn]
      by_cases h1 : a1 < 1
      · simp only [if_pos h1]; exact j1 true (by simp; omega)
      simp only [if_neg h1]
      by_cases h2 : a1 > 12
      · simp only [if_pos h2]; exact j1 true (by simp; omega)
      simp only [if_neg h2]
      exact j1 _ (by rw [decide_eq_true_iff]; omega)
  unfold same_Check.f
  by_cases h1 : a0 < 1
  · simp only [if_pos h1]; exact j0 true (by simp; omega)
  simp only [if_neg h1]
  exact j0 _ (by rw [decide_eq_true_iff]; omega)
theorem rshp (a0 a1 : Int) (l : List S133) (hl : l.length ≤ 60) : Ev (fun k => evermoreref20_Check.l1 k 1 a0 a1 l) (if (List.range l.length).any (shp l) = true then 3 else 0) := by
  have key : ∀ d i : Nat, i + d = l.length → 0 < i → Ev (fun k => evermoreref20_Check.l1 k (i : Int) a0 a1 l) (if ((List.range l.length).drop i).any (shp l) = true then 3 else 0) := by
    intro d
    induction d with
    | zero =>
      intro i hi _
      refine Ev.step (fun k => by rw [evermoreref20_Check.l1]) ?_
      simp only [if_neg (show ¬ (i : Int) < (l.length : Int) by omega)]
      rw [List.drop_of_length_le (by rw [List.length_range]; omega)]
      exact Ev.now _
    | succ d ih =>
      intro i hi h0
      refine Ev.step (fun k => by rw [evermoreref20_Check.l1]) ?_
      simp only [wm1 i h0 (by omega), rdT3, if_pos (show (i : Int) < (l.length : Int) by omega), if_pos (show (0 : Int) ≤ ((i - 1 : Nat) : Int) by omega), if_pos (show ((i - 1 : Nat) : Int) < (l.length : Int) by omega), if_pos (show (0 : Int) ≤ (i : Int) by omega)]
      have ea : evermoreref20_Ahead.f (l.getD (i - 1) z133).f0 (l.getD (i - 1) z133).f1 (l.getD (i - 1) z133).f2 (l.getD i z133).f0 (l.getD i z133).f1 (l.getD i z133).f2 = some (ahead (l.getD (i - 1) z133) (l.getD i z133)) := by
        unfold evermoreref20_Ahead.f ahead
        split
        · split <;> rfl
        · rfl
      refine Ev.bind (evs ea) ?_
      rw [List.drop_eq_getElem_cons (by rw [List.length_range]; omega), List.getElem_range, List.any_cons]
      have hs : shp l i = !(ahead (l.getD (i - 1) z133) (l.getD i z133)) := by unfold shp; rw [decide_eq_true h0]; rfl
      rw [hs]
      cases ahead (l.getD (i - 1) z133) (l.getD i z133) with
      | true =>
        simp only [if_true, Bool.not_true, Bool.false_or, w1 i (by omega)]
        exact ih (i + 1) (by omega) (by omega)
      | false =>
        simp only [if_neg (show ¬ (false = true) by decide), Bool.not_false, Bool.true_or, if_true]
        exact Ev.now _
  by_cases h : l.length = 0
  · refine Ev.step (fun k => by rw [evermoreref20_Check.l1]) ?_
    simp only [if_neg (show ¬ (1 : Int) < (l.length : Int) by omega)]
    rw [h]
    exact Ev.now _
  · have := key (l.length - 1) 1 (by omega) (by omega)
    refine evc this ?_
    have e : (List.range l.length).any (shp l) = ((List.range l.length).drop 1).any (shp l) := by
      conv => lhs; rw [show List.range l.length = (List.range l.length).drop 0 from rfl, List.drop_eq_getElem_cons (by rw [List.length_range]; omega), List.getElem_range, List.any_cons]
      rfl
    rw [e]
theorem rchk_ev (a0 a1 : Int) (l : List S133) : Ev (fun k => evermoreref20_Check.f k a0 a1 l) (vC a0 a1 l) := by
  have l0 : l.length ≤ 60 → Ev (fun k => evermoreref20_Check.l0 k 0 a0 a1 l) (if l.any (badA a0 a1) = true then 2 else if (List.range l.length).any (shp l) = true then 3 else 0) := by
    intro hl
    have st : ∀ i : Nat, i < l.length → ∀ r : Int, Ev (fun k => evermoreref20_Check.j3 k (i : Int) (badA a0 a1 (l.getD i z133)) a0 a1 l) r → Ev (fun k => evermoreref20_Check.l0 k (i : Int) a0 a1 l) r := by
      intro i hi r hr
      refine Ev.step (fun k => by rw [evermoreref20_Check.l0]) ?_
      simp only [rdT3, if_pos (show (i : Int) < (l.length : Int) by omega), if_pos (show (0 : Int) ≤ (i : Int) by omega)]
      unfold badA at hr
      generalize l.getD i z133 = x at hr ⊢
      by_cases h1 : x.f0 < 0
      · simp only [if_pos h1]; rw [or_b h1] at hr; exact hr
      simp only [if_neg h1]; rw [or_nb h1] at hr
      by_cases h2 : x.f0 ≥ a1
      · simp only [if_pos h2]; rw [or_b h2] at hr; exact hr
      simp only [if_neg h2]; rw [or_nb h2] at hr
      by_cases h3 : x.f2 < 0
      · simp only [if_pos h3]; rw [or_b h3] at hr; exact hr
      simp only [if_neg h3]; rw [or_nb h3] at hr
      by_cases h4 : x.f2 ≥ a1
      · simp only [if_pos h4]; rw [or_b h4] at hr; exact hr
      simp only [if_neg h4]; rw [or_nb h4] at hr
      by_cases h5 : x.f1 < 0
      · simp only [if_pos h5]; rw [or_b h5] at hr; exact hr
      simp only [if_neg h5]; rw [or_nb h5] at hr
      exact hr
    refine anyL_ev0 z133 l (badA a0 a1) 2 _ (fun k i => evermoreref20_Check.l0 k i a0 a1 l) ?_ ?_ ?_
    · intro i hi h
      refine st i hi 2 ?_
      rw [h]
      refine Ev.step (fun k => by rw [evermoreref20_Check.j3]) ?_
      simp only [if_true]; exact Ev.now _
    · intro i hi h r hr
      refine st i hi r ?_
      rw [h]
      refine Ev.step (fun k => by rw [evermoreref20_Check.j3]) ?_
      simp only [if_neg (show ¬ (false = true) by decide), w1 i (by omega)]; exact hr
    · intro _
      refine Ev.step (fun k => by rw [evermoreref20_Check.l0]) ?_
      simp only [if_neg (show ¬ (l.length : Int) < (l.length : Int) by omega)]
      exact rshp a0 a1 l hl
  have j1 : ∀ b : Bool, (b = true ↔ a1 < 1 ∨ a1 > 12 ∨ l.length > 60) → Ev (fun k => evermoreref20_Check.j1 k b a0 a1 l) (if a1 < 1 ∨ a1 > 12 ∨ l.length > 60 then 1 else if l.any (badA a0 a1) = true then 2 else if (List.range l.length).any (shp l) = true then 3 else 0) := by
    intro b hb
    refine Ev.step (fun k => by rw [evermoreref20_Check.j1]) ?_
    by_cases h : a1 < 1 ∨ a1 > 12 ∨ l.length > 60
    · simp only [if_pos h, if_pos (hb.2 h)]; exact Ev.now _
    · have hbn : ¬ b = true := fun x => h (hb.1 x)
      simp only [if_neg h, if_neg hbn]
      exact l0 (by omega)
  have j0 : ∀ b : Bool, (b = true ↔ (a0 < 1 ∨ a0 > 4)) → Ev (fun k => evermoreref20_Check.j0 k b a0 a1 l) (vC a0 a1 l) := by
    intro b hb
    refine Ev.step (fun k => by rw [evermoreref20_Check.j0]) ?_
    unfold vC
    by_cases h : a0 < 1 ∨ a0 > 4
    · simp only [if_pos h, if_pos (hb.2 h)]; exact Ev.now _
    · have hbn : ¬ b = true := fun x => h (hb.1 x)
      simp only [if_neg h, if_neg hbn]
      by_cases h1 : a1 < 1
      · simp only [if_pos h1]; exact j1 true (by simp; omega)
      simp only [if_neg h1]
      by_cases h2 : a1 > 12
      · simp only [if_pos h2]; exact j1 true (by simp; omega)
      simp only [if_neg h2]
      exact j1 _ (by rw [decide_eq_true_iff]; omega)
  unfold evermoreref20_Check.f
  by_cases h1 : a0 < 1
  · simp only [if_pos h1]; exact j0 true (by simp; omega)
  simp only [if_neg h1]
  exact j0 _ (by rw [decide_eq_true_iff]; omega)
theorem badA_f {a0 a1 : Int} {x : S133} (h : badA a0 a1 x = false) : 0 ≤ x.f0 ∧ x.f0 < a1 ∧ 0 ≤ x.f2 ∧ x.f2 < a1 := by
  unfold badA at h
  simp only [Bool.or_eq_false_iff, decide_eq_false_iff_not] at h
  omega
/-- a part of a saying -/
def okP (i : Int) (s : S138) : Bool := decide (0 ≤ s.f2 ∧ s.f2 < (if s.f0 > 0 then i else 1)) && (decide (0 ≤ s.f3 ∧ s.f3 < (if s.f0 = 3 then i else 1)) && decide (0 ≤ s.f1 ∧ s.f1 < (if s.f0 = 2 then 4 else 1)))
def eS (l : List S138) (i : Nat) : Int := if (l.getD i z138).f0 < 0 ∨ (l.getD i z138).f0 > 3 then 3 else if okP i (l.getD i z138) = true then 0 else 2
def vS (l : List S138) : Int := if l.length < 1 ∨ l.length > 3000 then 1 else fe (eS l) (List.range l.length)
theorem s1_ev (a : Int) (b : Bool) (i : Int) : same_Saying_1.f a b i = some (decide (0 ≤ a ∧ a < (if b = true then i else 1))) := by
  unfold same_Saying_1.f
  cases b with
  | true =>
    simp only [if_true]
    by_cases h : a ≥ 0
    · simp only [if_pos h]
      by_cases h2 : a < i
      · simp only [if_pos h2]; rw [decide_eq_true ⟨h, h2⟩]
      · simp only [if_neg h2]; rw [decide_eq_false (fun x => h2 x.2)]
    · simp only [if_neg h]; rw [decide_eq_false (fun x => h x.1)]
  | false =>
    simp only [if_neg (show ¬ (false = true) by decide)]
    by_cases h : a = 0
    · rw [decide_eq_true (show 0 ≤ a ∧ a < 1 by omega), h]; rfl
    · rw [decide_eq_false (show ¬ (0 ≤ a ∧ a < 1) by omega)]
      congr 1
      exact beq_eq_false_iff_ne.2 h
theorem psay_ev (l : List S138) : Ev (fun k => same_Saying.f k l) (vS l) := by
  have l0 : l.length ≤ 3000 → Ev (fun k => same_Saying.l0 k l (l.length : Int) 0) (fe (eS l) (List.range l.length)) := by
    intro hl
    have st : ∀ i : Nat, i < l.length → ∀ r : Int, (eS l i ≠ 0 → r = eS l i) → (eS l i = 0 → Ev (fun k => same_Saying.l0 k l (l.length : Int) ((i + 1 : Nat) : Int)) r) → Ev (fun k => same_Saying.l0 k l (l.length : Int) (i : Int)) r := by
      intro i hi r h1 h2
      refine Ev.step (fun k => by rw [same_Saying.l0]) ?_
      simp only [rdT8, if_pos (show (i : Int) < (l.length : Int) by omega), if_pos (show (0 : Int) ≤ (i : Int) by omega)]
      unfold eS at h1 h2
      generalize l.getD i z138 = s at h1 h2 ⊢
      have j3 : ∀ b : Bool, (b = true → r = 2) → (b = false → Ev (fun k => same_Saying.l0 k l (l.length : Int) ((i + 1 : Nat) : Int)) r) → Ev (fun k => same_Saying.j3 k l (l.length : Int) (i : Int) b) r := by
        intro b b1 b2
        refine Ev.step (fun k => by rw [same_Saying.j3]) ?_
        cases b with
        | true => simp only [if_true]; rw [b1 rfl]; exact Ev.now _
        | false => simp only [if_neg (show ¬ (false = true) by decide), w1 i (by omega)]; exact b2 rfl
      have j2 : ∀ b : Bool, (b = true ↔ (s.f0 < 0 ∨ s.f0 > 3)) → Ev (fun k => same_Saying.j2 k l (l.length : Int) (i : Int) b (i : Int) s.f0 s.f1 s.f2 s.f3) r := by
        intro b hb
        refine Ev.step (fun k => by rw [same_Saying.j2]) ?_
        by_cases h : s.f0 < 0 ∨ s.f0 > 3
        · simp only [if_pos (hb.2 h)]
          rw [if_pos h] at h1
          rw [h1 (by decide)]; exact Ev.now _
        rw [if_neg h] at h1 h2
        simp only [if_neg (fun x => h (hb.1 x)), s1_ev, Option.bind_some]
        have e3 : (decide (s.f0 > 0) = true) = (s.f0 > 0) := decide_eq_true_eq
        have e4 : ((s.f0 == 3) = true) = (s.f0 = 3) := by rw [beq_iff_eq]
        simp only [e3, e4]
        unfold okP at h1 h2
        have bad : (¬ (decide (0 ≤ s.f2 ∧ s.f2 < (if s.f0 > 0 then (i : Int) else 1)) && (decide (0 ≤ s.f3 ∧ s.f3 < (if s.f0 = 3 then (i : Int) else 1)) && decide (0 ≤ s.f1 ∧ s.f1 < (if s.f0 = 2 then 4 else 1)))) = true) → Ev (fun k => same_Saying.j3 k l (l.length : Int) (i : Int) true) r := by
          intro hn
          rw [if_neg hn] at h1
          exact j3 true (fun _ => h1 (by decide)) (fun e => by cases e)
        cases ha : decide (0 ≤ s.f2 ∧ s.f2 < (if s.f0 > 0 then (i : Int) else 1)) with
        | false => simp only [if_neg (show ¬ (false = true) by decide)]; exact bad (by rw [ha]; simp)
        | true =>
          simp only [if_true]
          cases hb3 : decide (0 ≤ s.f3 ∧ s.f3 < (if s.f0 = 3 then (i : Int) else 1)) with
          | false => simp only [if_neg (show ¬ (false = true) by decide)]; exact bad (by rw [ha, hb3]; simp)
          | true =>
            simp only [if_true]
            rw [ha, hb3] at bad h1 h2
            rw [Bool.true_and, Bool.true_and] at bad h1 h2
            by_cases h2' : s.f0 = 2
            · simp only [if_pos h2'] at bad h1 h2 ⊢
              by_cases h5 : s.f1 < 0
              · simp only [if_pos h5]; exact bad (by rw [decide_eq_true_iff]; omega)
              · simp only [if_neg h5]
                by_cases h6 : s.f1 ≥ 4
                · rw [decide_eq_true h6]; exact bad (by rw [decide_eq_true_iff]; omega)
                · rw [decide_eq_false h6]
                  exact j3 false (fun e => by cases e) (fun _ => h2 (by rw [if_pos (decide_eq_true (show 0 ≤ s.f1 ∧ s.f1 < 4 by omega))]))
            · simp only [if_neg h2'] at bad h1 h2 ⊢
              by_cases h0 : s.f1 = 0
              · simp only [if_pos h0, if_neg (show ¬ s.f1 < 0 by omega), decide_eq_false (show ¬ s.f1 ≥ 4 by omega)]
                exact j3 false (fun e => by cases e) (fun _ => h2 (by rw [if_pos (decide_eq_true (show 0 ≤ s.f1 ∧ s.f1 < 1 by omega))]))
              · simp only [if_neg h0]; exact bad (by rw [decide_eq_true_iff]; omega)
      by_cases h5 : s.f0 < 0
      · simp only [if_pos h5]; exact j2 true ⟨fun _ => .inl h5, fun _ => rfl⟩
      · simp only [if_neg h5]; exact j2 (decide (s.f0 > 3)) (by rw [decide_eq_true_iff]; exact ⟨.inr, fun z => z.elim (fun y => absurd y h5) id⟩)
    refine feN_ev l.length (eS l) (fun x => x) 0 rfl (fun k i => same_Saying.l0 k l (l.length : Int) i) ?_ ?_ ?_
    · intro i hi h; exact st i hi _ (fun _ => rfl) (fun e => absurd e h)
    · intro i hi h r hr; exact st i hi r (fun e => absurd h e) (fun _ => hr)
    · refine Ev.step (fun k => by rw [same_Saying.l0]) ?_
      simp only [if_neg (show ¬ (l.length : Int) < (l.length : Int) by omega)]
      exact Ev.now _
  have j0 : ∀ b : Bool, (b = true ↔ (l.length < 1 ∨ l.length > 3000)) → Ev (fun k => same_Saying.j0 k l b) (vS l) := by
    intro b hb
    refine Ev.step (fun k => by rw [same_Saying.j0]) ?_
    unfold vS
    by_cases h : l.length < 1 ∨ l.length > 3000
    · simp only [if_pos h, if_pos (hb.2 h)]; exact Ev.now _
    · simp only [if_neg h, if_neg (fun x => h (hb.1 x))]; exact l0 (by omega)
  unfold same_Saying.f
  by_cases h1 : l.length < 1
  · simp only [if_pos (show (l.length : Int) < 1 by omega)]; exact j0 true ⟨fun _ => .inl h1, fun _ => rfl⟩
  simp only [if_neg (show ¬ (l.length : Int) < 1 by omega)]
  exact j0 _ (by rw [decide_eq_true_iff]; omega)
theorem rsay_ev (l : List S138) : Ev (fun k => evermoreref20_Saying.f k l) (vS l) := by
  have l0 : l.length ≤ 3000 → Ev (fun k => evermoreref20_Saying.l0 k l 0) (fe (eS l) (List.range l.length)) := by
    intro hl
    have st : ∀ i : Nat, i < l.length → ∀ r : Int, (eS l i ≠ 0 → r = eS l i) → (eS l i = 0 → Ev (fun k => evermoreref20_Saying.l0 k l ((i + 1 : Nat) : Int)) r) → Ev (fun k => evermoreref20_Saying.l0 k l (i : Int)) r := by
      intro i hi r h1 h2
      refine Ev.step (fun k => by rw [evermoreref20_Saying.l0]) ?_
      simp only [rdT8, if_pos (show (i : Int) < (l.length : Int) by omega), if_pos (show (0 : Int) ≤ (i : Int) by omega)]
      unfold eS at h1 h2
      generalize l.getD i z138 = s at h1 h2 ⊢
      have j6 : ∀ b : Bool, (b = true → r = 2) → (b = false → Ev (fun k => evermoreref20_Saying.l0 k l ((i + 1 : Nat) : Int)) r) → Ev (fun k => evermoreref20_Saying.j6 k l (i : Int) b) r := by
        intro b b1 b2
        refine Ev.step (fun k => by rw [evermoreref20_Saying.j6]) ?_
        cases b with
        | true => simp only [if_true]; rw [b1 rfl]; exact Ev.now _
        | false => simp only [if_neg (show ¬ (false = true) by decide), w1 i (by omega)]; exact b2 rfl
      have j5 : ∀ x5 x6 x7 : Int, (r = if (0 ≤ s.f2 ∧ s.f2 < x5) ∧ (0 ≤ s.f3 ∧ s.f3 < x6) ∧ (0 ≤ s.f1 ∧ s.f1 < x7) then r else 2) → ((0 ≤ s.f2 ∧ s.f2 < x5) ∧ (0 ≤ s.f3 ∧ s.f3 < x6) ∧ (0 ≤ s.f1 ∧ s.f1 < x7) → Ev (fun k => evermoreref20_Saying.l0 k l ((i + 1 : Nat) : Int)) r) → Ev (fun k => evermoreref20_Saying.j5 k l (i : Int) x5 x6 x7 s.f0 s.f1 s.f2 s.f3) r := by
        intro x5 x6 x7 b1 b2
        refine Ev.step (fun k => by rw [evermoreref20_Saying.j5]) ?_
        have bad : ¬ ((0 ≤ s.f2 ∧ s.f2 < x5) ∧ (0 ≤ s.f3 ∧ s.f3 < x6) ∧ (0 ≤ s.f1 ∧ s.f1 < x7)) → Ev (fun k => evermoreref20_Saying.j6 k l (i : Int) true) r := by
          intro hn
          rw [if_neg hn] at b1
          exact j6 true (fun _ => b1) (fun e => by cases e)
        by_cases q1 : s.f2 < 0
        · simp only [if_pos q1]; exact bad (by omega)
        simp only [if_neg q1]
        by_cases q2 : s.f2 ≥ x5
        · simp only [if_pos q2]; exact bad (by omega)
        simp only [if_neg q2]
        by_cases q3 : s.f3 < 0
        · simp only [if_pos q3]; exact bad (by omega)
        simp only [if_neg q3]
        by_cases q4 : s.f3 ≥ x6
        · simp only [if_pos q4]; exact bad (by omega)
        simp only [if_neg q4]
        by_cases q5 : s.f1 < 0
        · simp only [if_pos q5]; exact bad (by omega)
        simp only [if_neg q5]
        by_cases q6 : s.f1 ≥ x7
        · rw [decide_eq_true q6]; exact bad (by omega)
        · rw [decide_eq_false q6]; exact j6 false (fun e => by cases e) (fun _ => b2 (by omega))
      have j2 : ∀ b : Bool, (b = true ↔ (s.f0 < 0 ∨ s.f0 > 3)) → Ev (fun k => evermoreref20_Saying.j2 k l (i : Int) b s.f0 s.f1 s.f2 s.f3) r := by
        intro b hb
        refine Ev.step (fun k => by rw [evermoreref20_Saying.j2]) ?_
        by_cases h : s.f0 < 0 ∨ s.f0 > 3
        · simp only [if_pos (hb.2 h)]
          rw [if_pos h] at h1
          rw [h1 (by decide)]; exact Ev.now _
        rw [if_neg h] at h1 h2
        simp only [if_neg (fun x => h (hb.1 x))]
        unfold okP at h1 h2
        simp only [Bool.and_eq_true, decide_eq_true_iff] at h1 h2
        have e1 : r = if (0 ≤ s.f2 ∧ s.f2 < (if s.f0 > 0 then (i : Int) else 1)) ∧ (0 ≤ s.f3 ∧ s.f3 < (if s.f0 = 3 then (i : Int) else 1)) ∧ (0 ≤ s.f1 ∧ s.f1 < (if s.f0 = 2 then 4 else 1)) then r else 2 := by
          by_cases hh : (0 ≤ s.f2 ∧ s.f2 < (if s.f0 > 0 then (i : Int) else 1)) ∧ (0 ≤ s.f3 ∧ s.f3 < (if s.f0 = 3 then (i : Int) else 1)) ∧ (0 ≤ s.f1 ∧ s.f1 < (if s.f0 = 2 then 4 else 1))
          · rw [if_pos hh]
          · rw [if_neg hh]; rw [if_neg hh] at h1; exact h1 (by decide)
        have e2 : (0 ≤ s.f2 ∧ s.f2 < (if s.f0 > 0 then (i : Int) else 1)) ∧ (0 ≤ s.f3 ∧ s.f3 < (if s.f0 = 3 then (i : Int) else 1)) ∧ (0 ≤ s.f1 ∧ s.f1 < (if s.f0 = 2 then 4 else 1)) → Ev (fun k => evermoreref20_Saying.l0 k l ((i + 1 : Nat) : Int)) r := by
          intro hh; exact h2 (by rw [if_pos hh])
        clear h1 h2
        by_cases g1 : s.f0 > 0
        all_goals
          (try simp only [g1, if_true, if_false] at e1); (try simp only [g1, if_true, if_false] at e2); (try simp only [g1, if_true, if_false])
          refine Ev.step (fun k => by rw [evermoreref20_Saying.j3]) ?_
          by_cases g2 : s.f0 = 3
          all_goals
            (try simp only [g2, if_true, if_false] at e1); (try simp only [g2, if_true, if_false] at e2); (try simp only [g2, if_true, if_false])
            refine Ev.step (fun k => by rw [evermoreref20_Saying.j4]) ?_
            by_cases g3 : s.f0 = 2
            all_goals
              first
              | (exfalso; omega)
              | ((try simp only [g2, g3, if_true, if_false, show ((3 : Int) = 2) = False by simp] at e1); (try simp only [g2, g3, if_true, if_false, show ((3 : Int) = 2) = False by simp] at e2); (try simp only [g2, g3, if_true, if_false, show ((3 : Int) = 2) = False by simp])
                 have := j5 _ _ _ e1 e2
                 (try simp only [g2, g3] at this)
                 exact this)
      by_cases h5 : s.f0 < 0
      · simp only [if_pos h5]; exact j2 true ⟨fun _ => .inl h5, fun _ => rfl⟩
      · simp only [if_neg h5]; exact j2 (decide (s.f0 > 3)) (by rw [decide_eq_true_iff]; exact ⟨.inr, fun z => z.elim (fun y => absurd y h5) id⟩)
    refine feN_ev l.length (eS l) (fun x => x) 0 rfl (fun k i => evermoreref20_Saying.l0 k l i) ?_ ?_ ?_
    · intro i hi h; exact st i hi _ (fun _ => rfl) (fun e => absurd e h)
    · intro i hi h r hr; exact st i hi r (fun e => absurd h e) (fun _ => hr)
    · refine Ev.step (fun k => by rw [evermoreref20_Saying.l0]) ?_
      simp only [if_neg (show ¬ (l.length : Int) < (l.length : Int) by omega)]
      exact Ev.now _
  have j0 : ∀ b : Bool, (b = true ↔ (l.length < 1 ∨ l.length > 3000)) → Ev (fun k => evermoreref20_Saying.j0 k l b) (vS l) := by
    intro b hb
    refine Ev.step (fun k => by rw [evermoreref20_Saying.j0]) ?_
    unfold vS
    by_cases h : l.length < 1 ∨ l.length > 3000
    · simp only [if_pos h, if_pos (hb.2 h)]; exact Ev.now _
    · simp only [if_neg h, if_neg (fun x => h (hb.1 x))]; exact l0 (by omega)
  unfold evermoreref20_Saying.f
  by_cases h1 : l.length < 1
  · simp only [if_pos (show (l.length : Int) < 1 by omega)]; exact j0 true ⟨fun _ => .inl h1, fun _ => rfl⟩
  simp only [if_neg (show ¬ (l.length : Int) < 1 by omega)]
  exact j0 _ (by rw [decide_eq_true_iff]; omega)
theorem vS_ok {l : List S138} (h : vS l = 0) : 1 ≤ l.length ∧ l.length ≤ 3000 ∧ ∀ i, i < l.length → okP i (l.getD i z138) = true ∧ 0 ≤ (l.getD i z138).f0 ∧ (l.getD i z138).f0 ≤ 3 := by
  unfold vS at h
  by_cases h1 : l.length < 1 ∨ l.length > 3000
  · rw [if_pos h1] at h; omega
  rw [if_neg h1] at h
  refine ⟨by omega, by omega, fun i hi => ?_⟩
  have e := fe_ok h i hi
  unfold eS at e
  by_cases h2 : (l.getD i z138).f0 < 0 ∨ (l.getD i z138).f0 > 3
  · rw [if_pos h2] at e; omega
  rw [if_neg h2] at e
  by_cases h3 : okP i (l.getD i z138) = true
  · exact ⟨h3, by omega, by omega⟩
  · rw [if_neg h3] at e; omega
theorem okP_t {i : Nat} {s : S138} (h : okP i s = true) : (0 ≤ s.f2 ∧ s.f2 < (if s.f0 > 0 then (i : Int) else 1)) ∧ (0 ≤ s.f3 ∧ s.f3 < (if s.f0 = 3 then (i : Int) else 1)) ∧ (0 ≤ s.f1 ∧ s.f1 < (if s.f0 = 2 then 4 else 1)) := by
  unfold okP at h
  simpa only [Bool.and_eq_true, decide_eq_true_iff] using h
theorem vC_ok {a0 a1 : Int} {l : List S133} (h : vC a0 a1 l = 0) : 1 ≤ a1 ∧ a1 ≤ 12 ∧ l.length ≤ 60 ∧ ∀ x ∈ l, 0 ≤ x.f0 ∧ x.f0 < a1 ∧ 0 ≤ x.f2 ∧ x.f2 < a1 := by
  unfold vC at h
  by_cases h1 : a0 < 1 ∨ a0 > 4
  · rw [if_pos h1] at h; omega
  rw [if_neg h1] at h
  by_cases h2 : a1 < 1 ∨ a1 > 12 ∨ l.length > 60
  · rw [if_pos h2] at h; omega
  rw [if_neg h2] at h
  by_cases h3 : l.any (badA a0 a1) = true
  · rw [if_pos h3] at h; omega
  refine ⟨by omega, by omega, by omega, fun x hx => badA_f (a0 := a0) ?_⟩
  cases e : badA a0 a1 x with
  | false => rfl
  | true => exact absurd (List.any_eq_true.2 ⟨x, hx, e⟩) h3
/-- is an arrow one that shows the saying at p -/
def arr (all : List (List Bool)) (s : S138) (p : Int) (x : S133) : Bool := decide (x.f0 = p) && (decide (x.f1 = s.f1) && (all.getD s.f2.toNat []).getD x.f2.toNat false)
def valS (l : List S133) (all : List (List Bool)) (s : S138) (p : Nat) : Bool :=
  if s.f0 = 0 then true else if s.f0 = 1 then !((all.getD s.f2.toNat []).getD p false) else if s.f0 = 2 then l.any (arr all s p) else (all.getD s.f2.toNat []).getD p false && (all.getD s.f3.toNat []).getD p false
def rowS (n : Nat) (l : List S133) (all : List (List Bool)) (s : S138) : List Bool := (List.range n).map (valS l all s)
def allS (n : Nat) (l : List S133) : List S138 → List (List Bool) → List (List Bool)
  | [], all => all
  | s :: ss, all => allS n l ss (all ++ [rowS n l all s])
structure AOk (n : Nat) (all : List (List Bool)) (i : Nat) : Prop where
  len : all.length = i
  row : ∀ j, j < i → (all.getD j []).length = n
theorem AOk.step {n : Nat} {all : List (List Bool)} {i : Nat} (A : AOk n all i) (l : List S133) (s : S138) : AOk n (all ++ [rowS n l all s]) (i + 1) := by
  refine ⟨by rw [List.length_append, A.len]; rfl, fun j hj => ?_⟩
  rcases Nat.lt_or_ge j i with h | h
  · rw [List.getD_eq_getElem?_getD, List.getElem?_append_left (by rw [A.len]; exact h), ← List.getD_eq_getElem?_getD]
    exact A.row j h
  · obtain rfl : j = i := by omega
    rw [List.getD_eq_getElem?_getD, List.getElem?_append_right (by rw [A.len]; exact Nat.le_refl _), A.len, Nat.sub_self]
    show (rowS n l all s).length = n
    unfold rowS; rw [List.length_map, List.length_range]
theorem h1_ev {n : Nat} {all : List (List Bool)} {i : Nat} (A : AOk n all i) (s : S138) (hs : okP i s = true) (h2 : s.f0 = 2) (p : Nat) (x : S133) (hx : 0 ≤ x.f2 ∧ x.f2 < (n : Int)) : same_Holds_1.f x.f0 x.f1 x.f2 (p : Int) s.f0 s.f1 s.f2 s.f3 all = some (arr all s p x) := by
  have hp := (okP_t hs).1
  rw [if_pos (by omega)] at hp
  obtain ⟨q, hq⟩ := Int.eq_ofNat_of_zero_le hp.1
  obtain ⟨y, hy⟩ := Int.eq_ofNat_of_zero_le hx.1
  have hl := A.len
  have hr := A.row q (by omega)
  unfold same_Holds_1.f arr
  by_cases e0 : x.f0 = (p : Int)
  · simp only [if_pos e0, decide_eq_true e0, Bool.true_and]
    by_cases e1 : x.f1 = s.f1
    · simp only [if_pos e1, decide_eq_true e1, Bool.true_and, hq, hy, rdB, rdb, if_pos (show (0 : Int) ≤ (q : Int) by omega), if_pos (show (q : Int) < (all.length : Int) by omega), if_pos (show (0 : Int) ≤ (y : Int) by omega), if_pos (show (y : Int) < ((all.getD q []).length : Int) by omega), Int.toNat_natCast]
    · simp only [if_neg e1, decide_eq_false e1, Bool.false_and]
  · simp only [if_neg e0, decide_eq_false e0, Bool.false_and]
theorem slices_IndexFunc__same_Holds_1_l0_ev (xs : List (S133)) (a2_0 : Int) (a3_0 : Int) (a3_1 : Int) (a3_2 : Int) (a3_3 : Int) (l4_0 : List (List Bool)) (p : S133 → Bool) (hb : xs.length ≤ 4611686018427387904) (hp : ∀ x ∈ xs, Ev (fun k => same_Holds_1.f (x.f0) (x.f1) (x.f2) a2_0 a3_0 a3_1 a3_2 a3_3 l4_0) (p x)) : ∀ d i : Nat, i + d = xs.length → Ev (fun k => slices_IndexFunc__same_Holds_1.l0 k xs (xs.length : Int) (i : Int) a2_0 a3_0 a3_1 a3_2 a3_3 l4_0) (ixf p (xs.drop i) i) := by
  intro d
  induction d with
  | zero =>
    intro i hi
    refine Ev.step (fun k => by rw [slices_IndexFunc__same_Holds_1.l0]) ?_
    simp only [if_neg (show ¬ ((i : Int) < (xs.length : Int)) by omega)]
    rw [List.drop_of_length_le (by omega)]
    exact Ev.now _
  | succ d ih =>
    intro i hi
    refine Ev.step (fun k => by rw [slices_IndexFunc__same_Holds_1.l0]) ?_
    have er : rd_T133 xs (i : Int) = xs.getD i z133 := by unfold rd_T133; rw [Int.toNat_natCast]
    simp only [if_pos (show ((i : Int) < (xs.length : Int)) by omega), if_pos (show (0 ≤ (i : Int)) by omega), er]
    refine Ev.bind (hp _ (getD_mem xs i _ (by omega))) ?_
    rw [drop_getD xs i z133 (by omega), ixf]
    by_cases h : p (xs.getD i z133) = true
    · simp only [if_pos h]
      exact Ev.now _
    · simp only [if_neg h]
      rw [w1 i (by omega)]
      exact ih (i + 1) (by omega)
theorem slices_IndexFunc__same_Holds_1_ev (xs : List (S133)) (a2_0 : Int) (a3_0 : Int) (a3_1 : Int) (a3_2 : Int) (a3_3 : Int) (l4_0 : List (List Bool)) (p : S133 → Bool) (hb : xs.length ≤ 4611686018427387904) (hp : ∀ x ∈ xs, Ev (fun k => same_Holds_1.f (x.f0) (x.f1) (x.f2) a2_0 a3_0 a3_1 a3_2 a3_3 l4_0) (p x)) : Ev (fun k => slices_IndexFunc__same_Holds_1.f k xs a2_0 a3_0 a3_1 a3_2 a3_3 l4_0) (ixf p xs 0) := by
  unfold slices_IndexFunc__same_Holds_1.f
  exact slices_IndexFunc__same_Holds_1_l0_ev xs a2_0 a3_0 a3_1 a3_2 a3_3 l4_0 p hb hp xs.length 0 (by omega)
theorem slices_ContainsFunc__same_Holds_1_ev (xs : List (S133)) (a2_0 : Int) (a3_0 : Int) (a3_1 : Int) (a3_2 : Int) (a3_3 : Int) (l4_0 : List (List Bool)) (p : S133 → Bool) (hb : xs.length ≤ 4611686018427387904) (hp : ∀ x ∈ xs, Ev (fun k => same_Holds_1.f (x.f0) (x.f1) (x.f2) a2_0 a3_0 a3_1 a3_2 a3_3 l4_0) (p x)) : Ev (fun k => slices_ContainsFunc__same_Holds_1.f k xs a2_0 a3_0 a3_1 a3_2 a3_3 l4_0) (xs.any p) := by
  unfold slices_ContainsFunc__same_Holds_1.f
  refine Ev.bind (slices_IndexFunc__same_Holds_1_ev xs a2_0 a3_0 a3_1 a3_2 a3_3 l4_0 p hb hp) ?_
  rw [ixf_any]
  exact Ev.now _
theorem phol_l1 {a0 : Int} {n : Nat} {l : List S133} (hn : n ≤ 12) (hl : l.length ≤ 60) (hx : ∀ x ∈ l, 0 ≤ x.f0 ∧ x.f0 < (n : Int) ∧ 0 ≤ x.f2 ∧ x.f2 < (n : Int)) {all : List (List Bool)} {i : Nat} (A : AOk n all i) (s : S138) (hs : okP i s = true) (h3 : 0 ≤ s.f0 ∧ s.f0 ≤ 3) (ss : List S138) (hi : i ≤ 3000) (R : List Bool × Int)
    (cont : Ev (fun k => same_Holds.l0 k ss (ss.length : Int) ((i + 1 : Nat) : Int) a0 (n : Int) l (all ++ [rowS n l all s])) R) :
    ∀ d p : Nat, p + d = n → Ev (fun k => same_Holds.l1 k (fillR (valS l all s) false n p) ss (ss.length : Int) (i : Int) (n : Int) (p : Int) a0 (n : Int) l all s.f0 s.f1 s.f2 s.f3) R := by
  have hA := A.len
  obtain ⟨ok2, ok3, _⟩ := okP_t hs
  intro d
  induction d with
  | zero =>
    intro p hp
    refine Ev.step (fun k => by rw [same_Holds.l1]) ?_
    obtain rfl : p = n := by omega
    simp only [if_neg (show ¬ (p : Int) < (p : Int) by omega), if_pos (show all.length < 5864062014805 by omega), w1 i (by omega), fillR_full]
    exact cont
  | succ d ih =>
    intro p hp
    have hfl := fillR_len (valS l all s) false (n := n) (i := p) (by omega)
    refine Ev.step (fun k => by rw [same_Holds.l1]) ?_
    have nx : ∀ v, v = valS l all s p → Ev (fun k => same_Holds.l1 k ((fillR (valS l all s) false n p).set p v) ss (ss.length : Int) (i : Int) (n : Int) ((p + 1 : Nat) : Int) a0 (n : Int) l all s.f0 s.f1 s.f2 s.f3) R := by
      intro v hv
      rw [fillR_set _ _ (by omega) v hv]
      exact ih (p + 1) (by omega)
    generalize fillR (valS l all s) false n p = is at hfl nx ⊢
    have g1 : (p : Int) < (is.length : Int) := by omega
    simp only [if_pos (show (p : Int) < (n : Int) by omega), if_pos (show (0 : Int) ≤ (p : Int) by omega), if_pos g1, w1 p (by omega), Int.toNat_natCast, rdB, rdb]
    by_cases k0 : s.f0 = 0
    · simp only [if_pos k0]
      exact nx true (by unfold valS; rw [if_pos k0])
    simp only [if_neg k0]
    rw [if_pos (by omega)] at ok2
    obtain ⟨q, hq⟩ := Int.eq_ofNat_of_zero_le ok2.1
    have hrow := A.row q (by omega)
    have eq2 : s.f2.toNat = q := by rw [hq, Int.toNat_natCast]
    by_cases k1 : s.f0 = 1
    · simp only [if_pos k1, hq, rdB, rdb, if_pos (show (0 : Int) ≤ (q : Int) by omega), if_pos (show (q : Int) < (all.length : Int) by omega), if_pos (show (p : Int) < ((all.getD q []).length : Int) by omega)]
      rw [hq] at nx
      exact nx _ (by unfold valS; rw [if_neg k0, if_pos k1, eq2])
    simp only [if_neg k1]
    by_cases k2 : s.f0 = 2
    · simp only [if_pos k2]
      refine Ev.bind (slices_ContainsFunc__same_Holds_1_ev l (p : Int) s.f0 s.f1 s.f2 s.f3 all (arr all s p) (by omega) (fun x hx' => evs (h1_ev A s hs k2 p x (hx x hx').2.2))) ?_
      exact nx _ (by unfold valS; rw [if_neg k0, if_neg k1, if_pos k2])
    have k3 : s.f0 = 3 := by omega
    simp only [if_neg k2]
    rw [if_pos k3] at ok3
    obtain ⟨q3, hq3⟩ := Int.eq_ofNat_of_zero_le ok3.1
    have hrow3 := A.row q3 (by omega)
    have eq3 : s.f3.toNat = q3 := by rw [hq3, Int.toNat_natCast]
    rw [hq, hq3] at nx
    simp only [hq, hq3, rdB, rdb, if_pos (show (0 : Int) ≤ (q : Int) by omega), if_pos (show (q : Int) < (all.length : Int) by omega), if_pos (show (p : Int) < ((all.getD q []).length : Int) by omega), if_pos (show (0 : Int) ≤ (q3 : Int) by omega), if_pos (show (q3 : Int) < (all.length : Int) by omega), if_pos (show (p : Int) < ((all.getD q3 []).length : Int) by omega)]
    cases e : (all.getD q []).getD p false with
    | true =>
      simp only [if_true]
      exact nx _ (by unfold valS; rw [if_neg k0, if_neg k1, if_neg k2, eq2, eq3, e, Bool.true_and])
    | false =>
      simp only [if_neg (show ¬ (false = true) by decide)]
      exact nx _ (by unfold valS; rw [if_neg k0, if_neg k1, if_neg k2, eq2, eq3, e, Bool.false_and])
theorem last_ev {n : Nat} {all : List (List Bool)} {i : Nat} (A : AOk n all i) (hi : i ≤ 3000) (h1 : 1 ≤ i) : (wrap64 ((all.length : Int) - 1)) = ((i - 1 : Nat) : Int) := by rw [A.len]; exact wm1 i (by omega) (by omega)
theorem phol_l0 {a0 : Int} {n : Nat} {l : List S133} (hn : n ≤ 12) (hl : l.length ≤ 60) (hx : ∀ x ∈ l, 0 ≤ x.f0 ∧ x.f0 < (n : Int) ∧ 0 ≤ x.f2 ∧ x.f2 < (n : Int)) (ss : List S138) (hss : 1 ≤ ss.length ∧ ss.length ≤ 3000) (hok : ∀ i, i < ss.length → okP i (ss.getD i z138) = true ∧ 0 ≤ (ss.getD i z138).f0 ∧ (ss.getD i z138).f0 ≤ 3) :
    ∀ (d i : Nat) (all : List (List Bool)), i + d = ss.length → AOk n all i → Ev (fun k => same_Holds.l0 k ss (ss.length : Int) (i : Int) a0 (n : Int) l all) ((allS n l (ss.drop i) all).getD (ss.length - 1) [], 0) := by
  intro d
  induction d with
  | zero =>
    intro i all hi A
    obtain rfl : i = ss.length := by omega
    refine Ev.step (fun k => by rw [same_Holds.l0]) ?_
    have hA := A.len
    simp only [last_ev A (by omega) (by omega), if_neg (show ¬ (ss.length : Int) < (ss.length : Int) by omega), if_pos (show (0 : Int) ≤ ((ss.length - 1 : Nat) : Int) by omega), if_pos (show ((ss.length - 1 : Nat) : Int) < (all.length : Int) by omega), rdB]
    rw [List.drop_of_length_le (Nat.le_refl _), allS]
    exact Ev.now _
  | succ d ih =>
    intro i all hi A
    obtain ⟨o1, o2, o3⟩ := hok i (by omega)
    refine Ev.step (fun k => by rw [same_Holds.l0]) ?_
    simp only [rdT8, if_pos (show (i : Int) < (ss.length : Int) by omega), if_pos (show (0 : Int) ≤ (i : Int) by omega), if_pos (show (0 : Int) ≤ (n : Int) by omega), Int.toNat_natCast, if_pos (show n ≤ 281474976710656 by omega), Option.bind_some, List.length_replicate]
    rw [drop_getD ss i z138 (by omega), allS]
    have := phol_l1 (a0 := a0) hn hl hx A (ss.getD i z138) o1 ⟨o2, o3⟩ ss (by omega) _ (ih (i + 1) _ (by omega) (A.step l _)) n 0 (by omega)
    rw [fillR_zero] at this
    exact this
/-- the reference's row: of arrows alone, after some of them -/
def tk (l : List S133) (all : List (List Bool)) (s : S138) (k : Nat) (p : Nat) : Bool := (l.take k).any (arr all s p)
theorem tk_set {n : Nat} (l : List S133) (all : List (List Bool)) (s : S138) (k : Nat) (hk : k < l.length) (f0 : Nat) (hf : (l.getD k z133).f0 = (f0 : Int)) (hf2 : f0 < n) :
    ((List.range n).map (tk l all s k)).set f0 true = (List.range n).map (fun p => if p = f0 then true else tk l all s k p) := by
  apply List.ext_getElem?
  intro j
  rw [List.getElem?_set, List.getElem?_map, List.getElem?_map, List.length_map, List.length_range]
  by_cases h : f0 = j
  · subst h; rw [if_pos rfl, if_pos hf2, List.getElem?_range hf2]; simp
  · rw [if_neg h]
    by_cases hj : j < n
    · rw [List.getElem?_range hj]
      have h' : ¬ j = f0 := fun x => h (Eq.symm x)
      simp [h']
    · rw [List.getElem?_eq_none (by rw [List.length_range]; omega)]; rfl
theorem take_any {α : Type} (p : α → Bool) (l : List α) (k : Nat) (z : α) (hk : k < l.length) : (l.take (k + 1)).any p = ((l.take k).any p || p (l.getD k z)) := by
  rw [List.take_succ_eq_append_getElem hk, List.any_append, List.getD_eq_getElem?_getD, List.getElem?_eq_getElem hk]
  simp
theorem rhol_l2 {a0 : Int} {n : Nat} {l : List S133} (hn : n ≤ 12) (hl : l.length ≤ 60) (hx : ∀ x ∈ l, 0 ≤ x.f0 ∧ x.f0 < (n : Int) ∧ 0 ≤ x.f2 ∧ x.f2 < (n : Int)) {all : List (List Bool)} {i : Nat} (A : AOk n all i) (s : S138) (hs : okP i s = true) (ss : List S138) (hi : i ≤ 3000) (R : List Bool)
    (cont : Ev (fun k => evermoreref20_Holds.l0 k ss (all ++ [rowS n l all s]) ((i + 1 : Nat) : Int) a0 (n : Int) l) R) :
    ∀ d j : Nat, j + d = l.length → Ev (fun k => evermoreref20_Holds.l2 k ss all (i : Int) (if s.f0 = 2 then (List.range n).map (tk l all s j) else rowS n l all s) (j : Int) a0 (n : Int) l s.f0 s.f1 s.f2 s.f3) R := by
  have hA := A.len
  obtain ⟨ok2, _, _⟩ := okP_t hs
  intro d
  induction d with
  | zero =>
    intro j hj
    refine Ev.step (fun k => by rw [evermoreref20_Holds.l2]) ?_
    simp only [if_neg (show ¬ (j : Int) < (l.length : Int) by omega), if_pos (show all.length < 5864062014805 by omega), w1 i (by omega)]
    have e : (if s.f0 = 2 then (List.range n).map (tk l all s j) else rowS n l all s) = rowS n l all s := by
      by_cases k2 : s.f0 = 2
      · rw [if_pos k2]
        unfold rowS
        congr 1
        funext p
        unfold tk valS
        rw [List.take_of_length_le (by omega), if_neg (by omega), if_neg (by omega), if_pos k2]
      · rw [if_neg k2]
    rw [e]
    exact cont
  | succ d ih =>
    intro j hj
    refine Ev.step (fun k => by rw [evermoreref20_Holds.l2]) ?_
    have ih' := ih (j + 1) (by omega)
    have hxj := hx _ (getD_mem l j z133 (by omega))
    simp only [rdT3, if_pos (show (j : Int) < (l.length : Int) by omega), if_pos (show (0 : Int) ≤ (j : Int) by omega), w1 j (by omega)]
    by_cases k2 : ¬ s.f0 = 2
    · simp only [if_neg k2] at ih' ⊢
      exact ih'
    replace k2 := Classical.not_not.1 k2
    simp only [if_pos k2] at ih' ⊢
    rw [if_pos (by omega)] at ok2
    obtain ⟨q, hq⟩ := Int.eq_ofNat_of_zero_le ok2.1
    have hrow := A.row q (by omega)
    have stay : arr all s (l.getD j z133).f0 (l.getD j z133) = false → Ev (fun k => evermoreref20_Holds.l2 k ss all (i : Int) ((List.range n).map (tk l all s j)) ((j + 1 : Nat) : Int) a0 (n : Int) l s.f0 s.f1 s.f2 s.f3) R := by
      intro ha
      have e : (List.range n).map (tk l all s j) = (List.range n).map (tk l all s (j + 1)) := by
        congr 1
        funext p
        unfold tk
        rw [take_any _ l j z133 (by omega)]
        have : arr all s p (l.getD j z133) = false := by
          unfold arr at ha ⊢
          by_cases e0 : (l.getD j z133).f0 = (p : Int)
          · rw [decide_eq_true e0]; rw [decide_eq_true rfl] at ha; exact ha
          · rw [decide_eq_false e0, Bool.false_and]
        rw [this, Bool.or_false]
      rw [e]; exact ih'
    by_cases e1 : ¬ (l.getD j z133).f1 = s.f1
    · simp only [if_neg e1]
      exact stay (by unfold arr; rw [decide_eq_false e1, Bool.false_and, Bool.and_false])
    replace e1 := Classical.not_not.1 e1
    obtain ⟨y, hy⟩ := Int.eq_ofNat_of_zero_le hxj.2.2.1
    obtain ⟨f, hf⟩ := Int.eq_ofNat_of_zero_le hxj.1
    simp only [if_pos e1]
    have qc : (0 : Int) ≤ s.f2 ∧ s.f2 < (all.length : Int) ∧ (0 : Int) ≤ (l.getD j z133).f2 := by omega
    have er : rd_L4 all s.f2 = all.getD q [] := by rw [hq, rdB]
    have eb : rdOf false (all.getD q []) (l.getD j z133).f2 = (all.getD q []).getD y false := by rw [hy, rdb]
    simp only [if_pos qc.1, if_pos qc.2.1, if_pos qc.2.2, er, eb, if_pos (show (l.getD j z133).f2 < ((all.getD q []).length : Int) by omega)]
    cases ev : (all.getD q []).getD y false with
    | false =>
      simp only [if_neg (show ¬ (false = true) by decide)]
      exact stay (by unfold arr; rw [hq, hy, Int.toNat_natCast, Int.toNat_natCast, ev, Bool.and_false, Bool.and_false])
    | true =>
      simp only [if_true, if_pos (show (0 : Int) ≤ (l.getD j z133).f0 by omega), List.length_map, List.length_range, if_pos (show (l.getD j z133).f0 < (n : Int) by omega)]
      have e : ((List.range n).map (tk l all s j)).set ((l.getD j z133).f0).toNat true = (List.range n).map (tk l all s (j + 1)) := by
        rw [hf, Int.toNat_natCast, tk_set l all s j (by omega) f hf (by omega)]
        congr 1
        funext p
        unfold tk
        rw [take_any _ l j z133 (by omega)]
        unfold arr
        rw [hf, hq, hy, Int.toNat_natCast, Int.toNat_natCast, ev, decide_eq_true e1]
        by_cases hp : p = f
        · rw [if_pos hp, hp]; simp
        · rw [if_neg hp, decide_eq_false (show ¬ (f : Int) = (p : Int) by omega)]; simp
      rw [e]; exact ih'
theorem rhol_l1 {a0 : Int} {n : Nat} {l : List S133} (hn : n ≤ 12) (hl : l.length ≤ 60) (hx : ∀ x ∈ l, 0 ≤ x.f0 ∧ x.f0 < (n : Int) ∧ 0 ≤ x.f2 ∧ x.f2 < (n : Int)) {all : List (List Bool)} {i : Nat} (A : AOk n all i) (s : S138) (hs : okP i s = true) (h3 : 0 ≤ s.f0 ∧ s.f0 ≤ 3) (ss : List S138) (hi : i ≤ 3000) (R : List Bool)
    (cont : Ev (fun k => evermoreref20_Holds.l0 k ss (all ++ [rowS n l all s]) ((i + 1 : Nat) : Int) a0 (n : Int) l) R) :
    ∀ d p : Nat, p + d = n → Ev (fun k => evermoreref20_Holds.l1 k ss all (i : Int) (if s.f0 = 2 then List.replicate n false else fillR (valS l all s) false n p) (p : Int) a0 (n : Int) l s.f0 s.f1 s.f2 s.f3) R := by
  have hA := A.len
  obtain ⟨ok2, ok3, _⟩ := okP_t hs
  intro d
  induction d with
  | zero =>
    intro p hp
    refine Ev.step (fun k => by rw [evermoreref20_Holds.l1]) ?_
    obtain rfl : p = n := by omega
    simp only [if_neg (show ¬ (p : Int) < (p : Int) by omega), fillR_full]
    have := rhol_l2 (a0 := a0) hn hl hx A s hs ss hi R cont l.length 0 (by omega)
    have e : (if s.f0 = 2 then List.replicate p false else (List.range p).map (valS l all s)) = (if s.f0 = 2 then (List.range p).map (tk l all s 0) else rowS p l all s) := by
      by_cases k2 : s.f0 = 2
      · rw [if_pos k2, if_pos k2]
        apply List.ext_getElem?
        intro j
        rw [List.getElem?_map]
        by_cases hj : j < p
        · rw [List.getElem?_range hj, List.getElem?_replicate, if_pos hj]; rfl
        · rw [List.getElem?_eq_none (by rw [List.length_replicate]; omega), List.getElem?_eq_none (by rw [List.length_range]; omega)]; rfl
      · rw [if_neg k2, if_neg k2]; rfl
    rw [e]; exact this
  | succ d ih =>
    intro p hp
    have hfl := fillR_len (valS l all s) false (n := n) (i := p) (by omega)
    refine Ev.step (fun k => by rw [evermoreref20_Holds.l1]) ?_
    have ih' := ih (p + 1) (by omega)
    simp only [if_pos (show (p : Int) < (n : Int) by omega), w1 p (by omega)]
    by_cases k2 : s.f0 = 2
    · simp only [if_pos k2, if_neg (show ¬ s.f0 = 0 by omega), if_neg (show ¬ s.f0 = 1 by omega), if_neg (show ¬ s.f0 = 3 by omega)] at ih' ⊢
      exact ih'
    simp only [if_neg k2] at ih' ⊢
    have nx : ∀ v, v = valS l all s p → Ev (fun k => evermoreref20_Holds.l1 k ss all (i : Int) ((fillR (valS l all s) false n p).set p v) ((p + 1 : Nat) : Int) a0 (n : Int) l s.f0 s.f1 s.f2 s.f3) R := by
      intro v hv
      rw [fillR_set _ _ (by omega) v hv]
      exact ih'
    generalize fillR (valS l all s) false n p = is at hfl nx ⊢
    have g1 : (p : Int) < (is.length : Int) := by omega
    simp only [if_pos (show (0 : Int) ≤ (p : Int) by omega), if_pos g1, Int.toNat_natCast, rdB, rdb]
    by_cases k0 : s.f0 = 0
    · simp only [if_pos k0]
      exact nx true (by unfold valS; rw [if_pos k0])
    simp only [if_neg k0]
    rw [if_pos (by omega)] at ok2
    obtain ⟨q, hq⟩ := Int.eq_ofNat_of_zero_le ok2.1
    have hrow := A.row q (by omega)
    have eq2 : s.f2.toNat = q := by rw [hq, Int.toNat_natCast]
    by_cases k1 : s.f0 = 1
    · simp only [if_pos k1, hq, rdB, rdb, if_pos (show (0 : Int) ≤ (q : Int) by omega), if_pos (show (q : Int) < (all.length : Int) by omega), if_pos (show (p : Int) < ((all.getD q []).length : Int) by omega)]
      rw [hq] at nx
      exact nx _ (by unfold valS; rw [if_neg k0, if_pos k1, eq2])
    have k3 : s.f0 = 3 := by omega
    simp only [if_neg k1, if_pos k3]
    rw [if_pos k3] at ok3
    obtain ⟨q3, hq3⟩ := Int.eq_ofNat_of_zero_le ok3.1
    have hrow3 := A.row q3 (by omega)
    have eq3 : s.f3.toNat = q3 := by rw [hq3, Int.toNat_natCast]
    rw [hq, hq3] at nx
    simp only [hq, hq3, rdB, rdb, if_pos (show (0 : Int) ≤ (q : Int) by omega), if_pos (show (q : Int) < (all.length : Int) by omega), if_pos (show (p : Int) < ((all.getD q []).length : Int) by omega), if_pos (show (0 : Int) ≤ (q3 : Int) by omega), if_pos (show (q3 : Int) < (all.length : Int) by omega), if_pos (show (p : Int) < ((all.getD q3 []).length : Int) by omega)]
    cases e : (all.getD q []).getD p false with
    | true =>
      simp only [if_true]
      exact nx _ (by unfold valS; rw [if_neg k0, if_neg k1, if_neg k2, eq2, eq3, e, Bool.true_and])
    | false =>
      simp only [if_neg (show ¬ (false = true) by decide)]
      exact nx _ (by unfold valS; rw [if_neg k0, if_neg k1, if_neg k2, eq2, eq3, e, Bool.false_and])
theorem rhol_l0 {a0 : Int} {n : Nat} {l : List S133} (hn : n ≤ 12) (hl : l.length ≤ 60) (hx : ∀ x ∈ l, 0 ≤ x.f0 ∧ x.f0 < (n : Int) ∧ 0 ≤ x.f2 ∧ x.f2 < (n : Int)) (ss : List S138) (hss : 1 ≤ ss.length ∧ ss.length ≤ 3000) (hok : ∀ i, i < ss.length → okP i (ss.getD i z138) = true ∧ 0 ≤ (ss.getD i z138).f0 ∧ (ss.getD i z138).f0 ≤ 3) :
    ∀ (d i : Nat) (all : List (List Bool)), i + d = ss.length → AOk n all i → Ev (fun k => evermoreref20_Holds.l0 k ss all (i : Int) a0 (n : Int) l) ((allS n l (ss.drop i) all).getD (ss.length - 1) []) := by
  intro d
  induction d with
  | zero =>
    intro i all hi A
    obtain rfl : i = ss.length := by omega
    refine Ev.step (fun k => by rw [evermoreref20_Holds.l0]) ?_
    have hA := A.len
    simp only [last_ev A (by omega) (by omega), if_neg (show ¬ (ss.length : Int) < (ss.length : Int) by omega), if_pos (show (0 : Int) ≤ ((ss.length - 1 : Nat) : Int) by omega), if_pos (show ((ss.length - 1 : Nat) : Int) < (all.length : Int) by omega), rdB]
    rw [List.drop_of_length_le (Nat.le_refl _), allS]
    exact Ev.now _
  | succ d ih =>
    intro i all hi A
    obtain ⟨o1, o2, o3⟩ := hok i (by omega)
    refine Ev.step (fun k => by rw [evermoreref20_Holds.l0]) ?_
    simp only [rdT8, if_pos (show (i : Int) < (ss.length : Int) by omega), if_pos (show (0 : Int) ≤ (i : Int) by omega), if_pos (show (0 : Int) ≤ (n : Int) by omega), Int.toNat_natCast, if_pos (show n ≤ 281474976710656 by omega)]
    rw [drop_getD ss i z138 (by omega), allS]
    have := rhol_l1 (a0 := a0) hn hl hx A (ss.getD i z138) o1 ⟨o2, o3⟩ ss (by omega) _ (ih (i + 1) _ (by omega) (A.step l _)) n 0 (by omega)
    rw [fillR_zero] at this
    have e : (if (ss.getD i z138).f0 = 2 then List.replicate n false else List.replicate n false) = List.replicate n false := by split <;> rfl
    rw [e] at this
    exact this
theorem bools_ev (x : List Bool) (hx : x.length ≤ 4611686018427387904) : Ev (fun k => evermoreref20_Bools.f k x x) true := by
  unfold evermoreref20_Bools.f
  simp only [if_true]
  have key : ∀ d i : Nat, i + d = x.length → Ev (fun k => evermoreref20_Bools.l0 k x x (i : Int)) true := by
    intro d
    induction d with
    | zero =>
      intro i hi
      refine Ev.step (fun k => by rw [evermoreref20_Bools.l0]) ?_
      simp only [if_neg (show ¬ (i : Int) < (x.length : Int) by omega)]
      exact Ev.now _
    | succ d ih =>
      intro i hi
      refine Ev.step (fun k => by rw [evermoreref20_Bools.l0]) ?_
      simp only [if_pos (show (i : Int) < (x.length : Int) by omega), if_pos (show (0 : Int) ≤ (i : Int) by omega), bne_self_eq_false, if_neg (show ¬ (false = true) by decide), w1 i (by omega)]
      exact ih (i + 1) (by omega)
  exact key x.length 0 (by omega)
theorem allS_len (n : Nat) (l : List S133) : ∀ (ss : List S138) (all : List (List Bool)) (i : Nat), AOk n all i → AOk n (allS n l ss all) (i + ss.length)
  | [], all, i, A => A
  | s :: ss, all, i, A => by
    rw [allS, List.length_cons, show i + (ss.length + 1) = (i + 1) + ss.length by omega]
    exact allS_len n l ss _ _ (A.step l s)
theorem SameHolds : evermorelaw_SameHolds.PureH := by
  intro a0 a1 l ss hp hq
  obtain ⟨_, _, _, hb, _⟩ := hp
  have hbig : l.length ≤ 4611686018427387904 := by omega
  have j1 : ∀ (x9 : List Bool) (x10 x11 : Int), (x11 ≠ 0 → x9 = [] ∧ x10 = x11) → (x11 = 0 → x10 = 0 ∧ vC a0 a1 l = 0 ∧ vS ss = 0 ∧ x9 = (allS a1.toNat l ss []).getD (ss.length - 1) []) → Ev (fun k => evermorelaw_SameHolds.j1 k ss x9 x10 x11 a0 a1 l) true := by
    intro x9 x10 x11 h1 h2
    refine Ev.step (fun k => by rw [evermorelaw_SameHolds.j1]) ?_
    by_cases h0 : x11 = 0
    · obtain ⟨g1, g2, g3, g4⟩ := h2 h0
      obtain ⟨c1, c2, c3, c4⟩ := vC_ok g2
      obtain ⟨s1, s2, s3⟩ := vS_ok g3
      obtain ⟨n, hn⟩ := Int.eq_ofNat_of_zero_le (show 0 ≤ a1 by omega)
      rw [hn, Int.toNat_natCast] at g4
      rw [hn] at c1 c2 c4
      simp only [if_pos h0, hn, g1, if_true, g4]
      have e := rhol_l0 (a0 := a0) (n := n) (by omega) c3 c4 ss ⟨s1, s2⟩ s3 ss.length 0 [] (by omega) ⟨rfl, fun j hj => by omega⟩
      rw [List.drop_zero] at e
      unfold evermoreref20_Holds.f
      refine Ev.bind e ?_
      have hlen := (allS_len n l ss [] 0 ⟨rfl, fun j hj => by omega⟩).row (ss.length - 1) (by omega)
      refine Ev.bind (bools_ev _ (by omega)) ?_
      exact Ev.now _
    · obtain ⟨g1, g2⟩ := h1 h0
      simp only [if_neg h0, if_pos g2, g1]
      exact Ev.now _
  refine Ev.rounds ?_
  unfold evermorelaw_SameHolds.f
  refine Ev.bind (pchk_ev a0 a1 l hbig) ?_
  refine Ev.bind (rchk_ev a0 a1 l) ?_
  refine Ev.bind (psay_ev ss) ?_
  refine Ev.bind (rsay_ev ss) ?_
  have fin : ∀ (x9 : List Bool) (x10 : Int), (vC a0 a1 l ≠ 0 → x9 = [] ∧ x10 = vC a0 a1 l) → (vC a0 a1 l = 0 → vS ss ≠ 0 → x9 = [] ∧ x10 = vS ss) → (vC a0 a1 l = 0 → vS ss = 0 → x10 = 0 ∧ x9 = (allS a1.toNat l ss []).getD (ss.length - 1) []) →
      Ev (fun k => if vC a0 a1 l = vC a0 a1 l then evermorelaw_SameHolds.j0 k ss (vC a0 a1 l) (vS ss) x9 x10 (vS ss != vS ss) a0 a1 l else evermorelaw_SameHolds.j0 k ss (vC a0 a1 l) (vS ss) x9 x10 true a0 a1 l) true := by
    intro x9 x10 f1 f2 f3
    simp only [if_true]
    refine Ev.step (fun k => by rw [evermorelaw_SameHolds.j0]) ?_
    simp only [bne_self_eq_false, if_neg (show ¬ (false = true) by decide)]
    by_cases h0 : vC a0 a1 l = 0
    · simp only [if_pos h0]
      exact j1 x9 x10 (vS ss) (f2 h0) (fun h => ⟨(f3 h0 h).1, h0, h, (f3 h0 h).2⟩)
    · simp only [if_neg h0]
      exact j1 x9 x10 (vC a0 a1 l) (fun _ => f1 h0) (fun h => absurd h h0)
  have hold : ∀ (x9 : List Bool) (x10 : Int), (vC a0 a1 l ≠ 0 → x9 = [] ∧ x10 = vC a0 a1 l) → (vC a0 a1 l = 0 → vS ss ≠ 0 → x9 = [] ∧ x10 = vS ss) → (vC a0 a1 l = 0 → vS ss = 0 → x10 = 0 ∧ x9 = (allS a1.toNat l ss []).getD (ss.length - 1) []) → Ev (fun k => same_Holds.f k a0 a1 l ss) (x9, x10) := by
    intro x9 x10 f1 f2 f3
    unfold same_Holds.f
    refine Ev.bind (pchk_ev a0 a1 l hbig) ?_
    by_cases h0 : vC a0 a1 l = 0
    · simp only [if_pos h0]
      refine Ev.bind (psay_ev ss) ?_
      by_cases h1 : vS ss = 0
      · simp only [if_pos h1]
        obtain ⟨c1, c2, c3, c4⟩ := vC_ok h0
        obtain ⟨s1, s2, s3⟩ := vS_ok h1
        obtain ⟨n, hn⟩ := Int.eq_ofNat_of_zero_le (show 0 ≤ a1 by omega)
        have g := f3 h0 h1
        rw [hn, Int.toNat_natCast] at g
        rw [hn] at c1 c2 c4
        rw [g.1, g.2, hn]
        have e := phol_l0 (a0 := a0) (n := n) (by omega) c3 c4 ss ⟨s1, s2⟩ s3 ss.length 0 [] (by omega) ⟨rfl, fun j hj => by omega⟩
        rw [List.drop_zero] at e
        exact e
      · simp only [if_neg h1]
        obtain ⟨g1, g2⟩ := f2 h0 h1
        rw [g1, g2]; exact Ev.now _
    · simp only [if_neg h0]
      obtain ⟨g1, g2⟩ := f1 h0
      rw [g1, g2]; exact Ev.now _
  by_cases h0 : vC a0 a1 l = 0
  · by_cases h1 : vS ss = 0
    · exact Ev.bind (hold _ 0 (fun h => absurd h0 h) (fun _ h => absurd h1 h) (fun _ _ => ⟨rfl, rfl⟩)) (fin _ _ (fun h => absurd h0 h) (fun _ h => absurd h1 h) (fun _ _ => ⟨rfl, rfl⟩))
    · exact Ev.bind (hold [] (vS ss) (fun h => absurd h0 h) (fun _ _ => ⟨rfl, rfl⟩) (fun _ h => absurd h h1)) (fin _ _ (fun h => absurd h0 h) (fun _ _ => ⟨rfl, rfl⟩) (fun _ h => absurd h h1))
  · exact Ev.bind (hold [] (vC a0 a1 l) (fun _ => ⟨rfl, rfl⟩) (fun h => absurd h h0) (fun h => absurd h h0)) (fin _ _ (fun _ => ⟨rfl, rfl⟩) (fun h => absurd h h0) (fun h => absurd h h0))

end Go.Proofs.Ytklkcdphcmimoaa.Pure
