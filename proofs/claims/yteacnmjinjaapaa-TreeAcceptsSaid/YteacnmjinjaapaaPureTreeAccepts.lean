/- For every tree automaton and every tree the program's checks and answer are the reference's. No conditions beyond the statement's. -/
import Derived.Test.YteacnmjinjaapaaPTreeAcceptsx11
import Derived.Test.YteacnmjinjaapaaQTreeAccepts
namespace Go.Proofs.Yteacnmjinjaapaa.Pure
open Go.RowKit Go.Proofs.Yteacnmjinjaapaa.PTreeAccepts Go.Proofs.YteacnmjinjaapaaW.PrintWords Go.Proofs.YteacnmjinjaapaaW.PrintLast Go.Proofs.YteacnmjinjaapaaW.PrintMore
set_option linter.unusedVariables false
set_option linter.unusedSimpArgs false
theorem w64 {n : Int} (h : -9223372036854775808 ≤ n) (h' : n ≤ 9223372036854775807) : wrap64 n = n := by unfold wrap64; omega
theorem rdn (l : List Int) (i : Nat) (h : i < l.length) : rd l (i : Int) = l[i] := by
  unfold rd; rw [Int.toNat_natCast, List.getD_eq_getElem?_getD, List.getElem?_eq_getElem h]; rfl
theorem rdOfn {α : Type} (d : α) (l : List α) (i : Nat) (h : i < l.length) : rdOf d l (i : Int) = l[i] := by
  unfold rdOf; rw [Int.toNat_natCast, List.getD_eq_getElem?_getD, List.getElem?_eq_getElem h]; rfl
theorem evc {α : Type} {g : Nat → Option α} {a b : α} (h : Ev g a) (e : a = b) : Ev g b := e ▸ h
theorem rdN (l : List Int) (n : Nat) : rd l (n : Int) = l.getD n 0 := by unfold rd; rw [Int.toNat_natCast]
theorem w1 (i : Nat) (h : i ≤ 9223372036854775000) : wrap64 ((i : Int) + 1) = ((i + 1 : Nat) : Int) := by rw [w64 (by omega) (by omega)]; omega
theorem getD_mem {α : Type} (l : List α) (n : Nat) (d : α) (h : n < l.length) : l.getD n d ∈ l := by
  rw [List.getD_eq_getElem?_getD, List.getElem?_eq_getElem h]; exact List.getElem_mem h
theorem drop_getD {α : Type} (l : List α) (n : Nat) (d : α) (h : n < l.length) : l.drop n = l.getD n d :: l.drop (n + 1) := by
  rw [List.drop_eq_getElem_cons h, List.getD_eq_getElem?_getD, List.getElem?_eq_getElem h]; rfl
/-- the first place at which p holds, from i on; -1: none -/
def ixf {α : Type} (p : α → Bool) : List α → Nat → Int
  | [], _ => -1
  | x :: xs, i => if p x = true then (i : Int) else ixf p xs (i + 1)
theorem ixf_any {α : Type} (p : α → Bool) : ∀ (xs : List α) (i : Nat), decide (ixf p xs i ≥ 0) = xs.any p
  | [], _ => by simp [ixf]
  | x :: xs, i => by
    have ih := ixf_any p xs (i + 1)
    by_cases h : p x = true
    · rw [ixf, if_pos h, List.any_cons, h]
      simp
    · rw [ixf, if_neg h, List.any_cons, ih]
      simp [h]
/-- a loop over a list that ends at the first element of which p holds -/
theorem anyL_ev {α R : Type} (d0 : α) (xs : List α) (p : α → Bool) (a b : R) (L : Nat → Int → Option R)
    (hstop : ∀ i : Nat, i < xs.length → p (xs.getD i d0) = true → Ev (fun k => L k (i : Int)) a)
    (hgo : ∀ i : Nat, i < xs.length → p (xs.getD i d0) = false → ∀ r, Ev (fun k => L k ((i + 1 : Nat) : Int)) r → Ev (fun k => L k (i : Int)) r)
    (hend : xs.any p = false → Ev (fun k => L k (xs.length : Int)) b) : ∀ d i : Nat, i + d = xs.length → ((xs.drop i).any p = false → xs.any p = false) → Ev (fun k => L k (i : Int)) (if (xs.drop i).any p = true then a else b) := by
  intro d
  induction d with
  | zero =>
    intro i hi hp
    rw [List.drop_of_length_le (by omega)] at hp ⊢
    rw [show i = xs.length by omega]
    exact hend (hp rfl)
  | succ d ih =>
    intro i hi hp
    rw [drop_getD xs i d0 (by omega), List.any_cons] at hp ⊢
    cases h : p (xs.getD i d0) with
    | true => exact hstop i (by omega) h
    | false => exact hgo i (by omega) h _ (ih (i + 1) (by omega) (fun e => hp (by rw [h, e]; rfl)))
theorem anyL_ev0 {α R : Type} (d0 : α) (xs : List α) (p : α → Bool) (a b : R) (L : Nat → Int → Option R)
    (hstop : ∀ i : Nat, i < xs.length → p (xs.getD i d0) = true → Ev (fun k => L k (i : Int)) a)
    (hgo : ∀ i : Nat, i < xs.length → p (xs.getD i d0) = false → ∀ r, Ev (fun k => L k ((i + 1 : Nat) : Int)) r → Ev (fun k => L k (i : Int)) r)
    (hend : xs.any p = false → Ev (fun k => L k (xs.length : Int)) b) : Ev (fun k => L k 0) (if xs.any p = true then a else b) := by
  have := anyL_ev d0 xs p a b L hstop hgo hend xs.length 0 (by omega) (fun h => by rwa [List.drop_zero] at h)
  rwa [List.drop_zero] at this
/-- a loop over numbers that ends at the first one of which p holds -/
theorem anyN_ev {R : Type} (n : Nat) (p : Nat → Bool) (a b : R) (L : Nat → Int → Option R)
    (hstop : ∀ i : Nat, i < n → p i = true → Ev (fun k => L k (i : Int)) a)
    (hgo : ∀ i : Nat, i < n → p i = false → ∀ r, Ev (fun k => L k ((i + 1 : Nat) : Int)) r → Ev (fun k => L k (i : Int)) r)
    (hend : (List.range n).any p = false → Ev (fun k => L k (n : Int)) b) : Ev (fun k => L k 0) (if (List.range n).any p = true then a else b) := by
  have e : (List.range n).length = n := List.length_range
  have g : ∀ i, i < n → (List.range n).getD i 0 = i := fun i hi => by rw [List.getD_eq_getElem?_getD, List.getElem?_range hi]; rfl
  exact anyL_ev0 0 (List.range n) p a b L (fun i hi h => by rw [e] at hi; rw [g i hi] at h; exact hstop i hi h) (fun i hi h r hr => by rw [e] at hi; rw [g i hi] at h; exact hgo i hi h r hr) (fun h => by rw [e]; exact hend h)
theorem evs {α : Type} {x : Option α} {r : α} (h : x = some r) : Ev (fun _ => x) r := ⟨0, fun _ _ => h⟩
/-- the first fault -/
def fe (f : Nat → Int) : List Nat → Int
  | [] => 0
  | i :: is => if f i = 0 then fe f is else f i
theorem fe_range (f : Nat → Int) (n : Nat) : ∀ d i, i + d = n → fe f ((List.range n).drop i) = 0 → ∀ j, i ≤ j → j < n → f j = 0 := by
  intro d
  induction d with
  | zero => intro i hi _ j h1 h2; omega
  | succ d ih =>
    intro i hi h j h1 h2
    rw [List.drop_eq_getElem_cons (by rw [List.length_range]; omega), List.getElem_range, fe] at h
    by_cases e : f i = 0
    · rw [if_pos e] at h
      rcases Nat.lt_or_ge i j with hj | hj
      · exact ih (i + 1) (by omega) h j (by omega) h2
      · rw [show j = i by omega]; exact e
    · rw [if_neg e] at h; exact absurd h e
theorem fe_ok {f : Nat → Int} {n : Nat} (h : fe f (List.range n) = 0) : ∀ j, j < n → f j = 0 := fun j hj => fe_range f n n 0 (by omega) (by rwa [List.drop_zero]) j (Nat.zero_le _) hj
/-- a loop over numbers that ends at the first fault -/
theorem feN_ev {R : Type} (n : Nat) (f : Nat → Int) (G : Int → R) (b : R) (hb : G 0 = b) (L : Nat → Int → Option R)
    (hstop : ∀ i : Nat, i < n → f i ≠ 0 → Ev (fun k => L k (i : Int)) (G (f i)))
    (hgo : ∀ i : Nat, i < n → f i = 0 → ∀ r, Ev (fun k => L k ((i + 1 : Nat) : Int)) r → Ev (fun k => L k (i : Int)) r)
    (hend : Ev (fun k => L k (n : Int)) b) : Ev (fun k => L k 0) (G (fe f (List.range n))) := by
  have key : ∀ d i : Nat, i + d = n → Ev (fun k => L k (i : Int)) (G (fe f ((List.range n).drop i))) := by
    intro d
    induction d with
    | zero =>
      intro i hi
      rw [List.drop_of_length_le (by rw [List.length_range]; omega), show i = n by omega, fe, hb]
      exact hend
    | succ d ih =>
      intro i hi
      rw [List.drop_eq_getElem_cons (by rw [List.length_range]; omega), List.getElem_range, fe]
      by_cases e : f i = 0
      · rw [if_pos e]; exact hgo i (by omega) e _ (ih (i + 1) (by omega))
      · rw [if_neg e]; exact hstop i (by omega) e
  have := key n 0 (by omega)
  rwa [List.drop_zero] at this
/-- a row that is filled from the left -/
def fillR {α : Type} (v : Nat → α) (z : α) (n i : Nat) : List α := (List.range i).map v ++ List.replicate (n - i) z
theorem fillR_len {α : Type} (v : Nat → α) (z : α) {n i : Nat} (h : i ≤ n) : (fillR v z n i).length = n := by
  unfold fillR; rw [List.length_append, List.length_map, List.length_range, List.length_replicate]; omega
theorem fillR_set {α : Type} (v : Nat → α) (z : α) {n i : Nat} (h : i < n) (x : α) (hx : x = v i) : (fillR v z n i).set i x = fillR v z n (i + 1) := by
  subst hx
  unfold fillR
  have e : List.replicate (n - i) z = z :: List.replicate (n - (i + 1)) z := by
    rw [show n - i = (n - (i + 1)) + 1 by omega]; rfl
  rw [e, List.range_succ, List.map_append, List.append_assoc, List.set_append_right _ _ (by rw [List.length_map, List.length_range]; omega), List.length_map, List.length_range, Nat.sub_self]
  rfl
theorem fillR_zero {α : Type} (v : Nat → α) (z : α) (n : Nat) : fillR v z n 0 = List.replicate n z := by unfold fillR; rfl
theorem fillR_full {α : Type} (v : Nat → α) (z : α) (n : Nat) : fillR v z n n = (List.range n).map v := by unfold fillR; rw [Nat.sub_self]; simp
theorem getD_mapRange {α : Type} (v : Nat → α) (d : α) {n i : Nat} (h : i < n) : ((List.range n).map v).getD i d = v i := by
  rw [List.getD_eq_getElem?_getD, List.getElem?_map, List.getElem?_range h]; rfl
/-- a loop over numbers that ends at the first one of which p holds, and tells it -/
theorem findN_ev {R : Type} (n : Nat) (p : Nat → Bool) (g : Nat → R) (b : R) (L : Nat → Int → Option R)
    (hstop : ∀ i : Nat, i < n → p i = true → Ev (fun k => L k (i : Int)) (g i))
    (hgo : ∀ i : Nat, i < n → p i = false → ∀ r, Ev (fun k => L k ((i + 1 : Nat) : Int)) r → Ev (fun k => L k (i : Int)) r)
    (hend : Ev (fun k => L k (n : Int)) b) : Ev (fun k => L k 0) (match (List.range n).find? p with | some i => g i | none => b) := by
  have key : ∀ d i : Nat, i + d = n → Ev (fun k => L k (i : Int)) (match ((List.range n).drop i).find? p with | some i => g i | none => b) := by
    intro d
    induction d with
    | zero =>
      intro i hi
      rw [List.drop_of_length_le (by rw [List.length_range]; omega), show i = n by omega]
      exact hend
    | succ d ih =>
      intro i hi
      rw [List.drop_eq_getElem_cons (by rw [List.length_range]; omega), List.getElem_range, List.find?_cons]
      cases e : p i with
      | true => exact hstop i (by omega) e
      | false => exact hgo i (by omega) e _ (ih (i + 1) (by omega))
  have := key n 0 (by omega)
  rwa [List.drop_zero] at this
/-- a loop over a list that carries a state -/
theorem foldL_ev {α σ R : Type} (d0 : α) (xs : List α) (step : σ → α → σ) (I : Nat → σ → Prop) (L : Nat → Int → σ → Option R) (r : R)
    (hgo : ∀ (i : Nat) (s : σ), i < xs.length → I i s → I (i + 1) (step s (xs.getD i d0)) ∧ (Ev (fun k => L k ((i + 1 : Nat) : Int) (step s (xs.getD i d0))) r → Ev (fun k => L k (i : Int) s) r))
    (s0 : σ) (h0 : I 0 s0) (hend : I xs.length (xs.foldl step s0) → Ev (fun k => L k (xs.length : Int) (xs.foldl step s0)) r) : Ev (fun k => L k 0 s0) r := by
  have key : ∀ d i s, i + d = xs.length → I i s → (xs.drop i).foldl step s = xs.foldl step s0 → Ev (fun k => L k (i : Int) s) r := by
    intro d
    induction d with
    | zero =>
      intro i s hi hI hs
      obtain rfl : i = xs.length := by omega
      rw [List.drop_of_length_le (Nat.le_refl _), List.foldl_nil] at hs
      subst hs
      exact hend hI
    | succ d ih =>
      intro i s hi hI hs
      rw [drop_getD xs i d0 (by omega), List.foldl_cons] at hs
      exact (hgo i s (by omega) hI).2 (ih (i + 1) _ (by omega) (hgo i s (by omega) hI).1 hs)
  have := key xs.length 0 s0 (by omega) h0 (by rw [List.drop_zero])
  exact this
theorem wf64 {n : Int} (h : (Lit.int .i64 n).wf = true) : -9223372036854775808 ≤ n ∧ n ≤ 9223372036854775807 := by
  simp [Lit.wf, IntKind.min, IntKind.max, IntKind.signed, IntKind.bits] at h
  omega
theorem rdR (l : List S157) (n : Nat) : rd_T157 l (n : Int) = l.getD n z157 := by unfold rd_T157; rw [Int.toNat_natCast]
theorem rdX (l : List S162) (n : Nat) : rd_T162 l (n : Int) = l.getD n z162 := by unfold rd_T162; rw [Int.toNat_natCast]
theorem rdB (l : List (List Bool)) (z : Int) : rd_L4 l z = l.getD z.toNat [] := by unfold rd_L4; rfl
theorem rdb (l : List Bool) (z : Int) : rdOf false l z = l.getD z.toNat false := by unfold rdOf; rfl
theorem wm1 (i : Nat) (h : 0 < i) (h2 : i ≤ 9223372036854775000) : wrap64 ((i : Int) - 1) = ((i - 1 : Nat) : Int) := by rw [w64 (by omega) (by omega)]; omega
theorem tt_ {P : Prop} (h : P) : (true = true) ↔ P := ⟨fun _ => h, fun _ => rfl⟩
theorem ff_ {P : Prop} (h : ¬ P) : (false = true) ↔ P := ⟨fun z => (by cases z), fun z => absurd z h⟩
theorem nft : ¬ (false = true) := by decide
def badR (a0 a1 : Int) (r : S157) : Bool := decide (r.f0 < 0 ∨ r.f0 ≥ a0 ∨ r.f3 < 0 ∨ r.f3 ≥ a1 ∨ (¬ (r.f1 = -1 ∧ r.f2 = -1) ∧ (r.f1 < 0 ∨ r.f1 ≥ a1 ∨ r.f2 < 0 ∨ r.f2 ≥ a1)))
def badM (m : Int) : Bool := if m = 0 then false else (m != 1)
def ahead (x y : S157) : Bool := if x.f0 = y.f0 then (if x.f1 = y.f1 then (if x.f2 = y.f2 then decide (x.f3 < y.f3) else decide (x.f2 < y.f2)) else decide (x.f1 < y.f1)) else decide (x.f0 < y.f0)
def shp (l : List S157) (i : Nat) : Bool := decide (0 < i) && !(ahead (l.getD (i - 1) z157) (l.getD i z157))
def vE (l : List S157) (st : Int) : Int := if (List.range l.length).any (shp l) = true then 3 else if st = 0 then 0 else 3
def vM (l : List S157) (st : Int) (mk : List Int) : Int := if mk.any badM = true then 2 else vE l st
def vC (a0 a1 : Int) (l : List S157) (st : Int) (mk : List Int) : Int := if a0 < 1 ∨ a0 > 4 then 2 else if a1 < 1 ∨ a1 > 300 ∨ l.length > 40000 ∨ (mk.length : Int) ≠ a1 then 1 else if l.any (badR a0 a1) = true then 2 else vM l st mk
theorem cmp_ev (a b : Int) : cmp_Compare_int.f a b = some (if a < b then -1 else if a > b then 1 else 0) := by
  unfold cmp_Compare_int.f cmp_isNaN_int.f
  have e : ∀ x : Int, (x != x) = false := fun x => by simp
  simp only [e, Option.bind_some, if_neg nft]
  split
  · rfl
  · split <;> rfl
theorem or4_ev (x y z u : Int) : Ev (fun k => cmp_Or_int.f k [x, y, z, u]) (if x = 0 then (if y = 0 then (if z = 0 then u else z) else y) else x) := by
  unfold cmp_Or_int.f
  have s3 : ((([x, y, z, u] : List Int).length : Nat) : Int) = 4 := rfl
  have r0 : rd [x, y, z, u] 0 = x := rfl
  have r1 : rd [x, y, z, u] 1 = y := rfl
  have r2 : rd [x, y, z, u] 2 = z := rfl
  have r3 : rd [x, y, z, u] 3 = u := rfl
  refine Ev.step (fun k => by rw [cmp_Or_int.l0]) ?_
  simp only [s3, r0, if_pos (show (0 : Int) < 4 by decide), if_pos (show (0 : Int) ≤ 0 by decide)]
  by_cases hx : ¬ x = 0
  · simp only [if_neg hx]; exact Ev.now _
  replace hx := Classical.not_not.1 hx
  simp only [if_pos hx, show wrap64 (0 + 1) = 1 from w64 (n := 0 + 1) (by decide) (by decide)]
  refine Ev.step (fun k => by rw [cmp_Or_int.l0]) ?_
  simp only [s3, r1, if_pos (show (1 : Int) < 4 by decide), if_pos (show (0 : Int) ≤ 1 by decide)]
  by_cases hy : ¬ y = 0
  · simp only [if_neg hy]; exact Ev.now _
  replace hy := Classical.not_not.1 hy
  simp only [if_pos hy, show wrap64 (1 + 1) = 2 from w64 (n := 1 + 1) (by decide) (by decide)]
  refine Ev.step (fun k => by rw [cmp_Or_int.l0]) ?_
  simp only [s3, r2, if_pos (show (2 : Int) < 4 by decide), if_pos (show (0 : Int) ≤ 2 by decide)]
  by_cases hz : ¬ z = 0
  · simp only [if_neg hz]; exact Ev.now _
  replace hz := Classical.not_not.1 hz
  simp only [if_pos hz, show wrap64 (2 + 1) = 3 from w64 (n := 2 + 1) (by decide) (by decide)]
  refine Ev.step (fun k => by rw [cmp_Or_int.l0]) ?_
  simp only [s3, r3, if_pos (show (3 : Int) < 4 by decide), if_pos (show (0 : Int) ≤ 3 by decide)]
  by_cases hu : u = 0
  · simp only [if_pos hu, show wrap64 (3 + 1) = 4 from w64 (n := 3 + 1) (by decide) (by decide)]
    refine Ev.step (fun k => by rw [cmp_Or_int.l0]) ?_
    simp only [s3, if_neg (show ¬ (4 : Int) < 4 by decide)]
    rw [hu]
    exact Ev.now _
  · simp only [if_neg hu]; exact Ev.now _
def cmpI (a b : Int) : Int := if a < b then -1 else if a > b then 1 else 0
def ordI (x y : S157) : Int := if cmpI x.f0 y.f0 = 0 then (if cmpI x.f1 y.f1 = 0 then (if cmpI x.f2 y.f2 = 0 then cmpI x.f3 y.f3 else cmpI x.f2 y.f2) else cmpI x.f1 y.f1) else cmpI x.f0 y.f0
theorem order_ev (x y : S157) : Ev (fun k => tree_Order.f k x.f0 x.f1 x.f2 x.f3 y.f0 y.f1 y.f2 y.f3) (ordI x y) := by
  unfold tree_Order.f
  simp only [cmp_ev, Option.bind_some]
  exact Ev.bind (or4_ev _ _ _ _) (Ev.now _)
theorem order_ahead (x y : S157) : decide (ordI x y ≥ 0) = !(ahead x y) := by
  have e : ∀ a b : Int, (cmpI a b = 0 ↔ a = b) ∧ (cmpI a b ≥ 0 ↔ ¬ a < b) := by
    intro a b
    unfold cmpI
    by_cases h : a < b
    · rw [if_pos h]; exact ⟨⟨fun z => absurd z (by decide), fun z => absurd h (by omega)⟩, ⟨fun z => absurd z (by decide), fun z => absurd h z⟩⟩
    · rw [if_neg h]
      by_cases h2 : a > b
      · rw [if_pos h2]; exact ⟨⟨fun z => absurd z (by decide), fun z => absurd h2 (by omega)⟩, ⟨fun _ => h, fun _ => by decide⟩⟩
      · rw [if_neg h2]; exact ⟨⟨fun _ => by omega, fun _ => rfl⟩, ⟨fun _ => h, fun _ => by decide⟩⟩
  unfold ahead ordI
  by_cases h0 : x.f0 = y.f0
  · simp only [if_pos h0, if_pos ((e x.f0 y.f0).1.2 h0)]
    by_cases h1 : x.f1 = y.f1
    · simp only [if_pos h1, if_pos ((e x.f1 y.f1).1.2 h1)]
      by_cases h2 : x.f2 = y.f2
      · simp only [if_pos h2, if_pos ((e x.f2 y.f2).1.2 h2), (e x.f3 y.f3).2, decide_not]
      · simp only [if_neg h2, if_neg (fun z => h2 ((e x.f2 y.f2).1.1 z)), (e x.f2 y.f2).2, decide_not]
    · simp only [if_neg h1, if_neg (fun z => h1 ((e x.f1 y.f1).1.1 z)), (e x.f1 y.f1).2, decide_not]
  · simp only [if_neg h0, if_neg (fun z => h0 ((e x.f0 y.f0).1.1 z)), (e x.f0 y.f0).2, decide_not]
theorem c1_ev (q a0 a1 : Int) (l : List S157) (st : Int) (mk : List Int) : tree_Check_1.f q a0 a1 l st mk = some (decide (q < 0 ∨ q ≥ a1)) := by
  unfold tree_Check_1.f
  by_cases h : q < 0
  · rw [if_pos h, decide_eq_true (.inl h)]
  · rw [if_neg h]
    congr 1
    rw [decide_eq_decide]; omega
theorem c2_ev (m : Int) : tree_Check_2.f m = some (badM m) := by
  unfold tree_Check_2.f badM
  split <;> rfl
theorem slices_IndexFunc__tree_Check_2_l0_ev (xs : List (Int))  (p : Int → Bool) (hb : xs.length ≤ 4611686018427387904) (hp : ∀ x ∈ xs, Ev (fun k => tree_Check_2.f x) (p x)) : ∀ d i : Nat, i + d = xs.length → Ev (fun k => slices_IndexFunc__tree_Check_2.l0 k xs (xs.length : Int) (i : Int) ) (ixf p (xs.drop i) i) := by
  intro d
  induction d with
  | zero =>
    intro i hi
    refine Ev.step (fun k => by rw [slices_IndexFunc__tree_Check_2.l0]) ?_
    simp only [if_neg (show ¬ ((i : Int) < (xs.length : Int)) by omega)]
    rw [List.drop_of_length_le (by omega)]
    exact Ev.now _
  | succ d ih =>
    intro i hi
    refine Ev.step (fun k => by rw [slices_IndexFunc__tree_Check_2.l0]) ?_
    have er : rd xs (i : Int) = xs.getD i 0 := by unfold rd; rw [Int.toNat_natCast]
    simp only [if_pos (show ((i : Int) < (xs.length : Int)) by omega), if_pos (show (0 ≤ (i : Int)) by omega), er]
    refine Ev.bind (hp _ (getD_mem xs i _ (by omega))) ?_
    rw [drop_getD xs i 0 (by omega), ixf]
    by_cases h : p (xs.getD i 0) = true
    · simp only [if_pos h]
      exact Ev.now _
    · simp only [if_neg h]
      rw [w1 i (by omega)]
      exact ih (i + 1) (by omega)
theorem slices_IndexFunc__tree_Check_2_ev (xs : List (Int))  (p : Int → Bool) (hb : xs.length ≤ 4611686018427387904) (hp : ∀ x ∈ xs, Ev (fun k => tree_Check_2.f x) (p x)) : Ev (fun k => slices_IndexFunc__tree_Check_2.f k xs ) (ixf p xs 0) := by
  unfold slices_IndexFunc__tree_Check_2.f
  exact slices_IndexFunc__tree_Check_2_l0_ev xs  p hb hp xs.length 0 (by omega)
theorem slices_ContainsFunc__tree_Check_2_ev (xs : List (Int))  (p : Int → Bool) (hb : xs.length ≤ 4611686018427387904) (hp : ∀ x ∈ xs, Ev (fun k => tree_Check_2.f x) (p x)) : Ev (fun k => slices_ContainsFunc__tree_Check_2.f k xs ) (xs.any p) := by
  unfold slices_ContainsFunc__tree_Check_2.f
  refine Ev.bind (slices_IndexFunc__tree_Check_2_ev xs  p hb hp) ?_
  rw [ixf_any]
  exact Ev.now _
theorem pshp (a0 a1 : Int) (l : List S157) (st : Int) (mk : List Int) (hl : l.length ≤ 40000) : Ev (fun k => tree_Check.l1 k (l.length : Int) 0 a0 a1 l st mk) (vE l st) := by
  have st_ : ∀ i : Nat, i < l.length → 0 < i → ∀ r : Int, (shp l i = true → r = 3) → (shp l i = false → Ev (fun k => tree_Check.l1 k (l.length : Int) ((i + 1 : Nat) : Int) a0 a1 l st mk) r) → Ev (fun k => tree_Check.l1 k (l.length : Int) (i : Int) a0 a1 l st mk) r := by
    intro i hi h0 r h1 h2
    refine Ev.step (fun k => by rw [tree_Check.l1]) ?_
    simp only [wm1 i h0 (by omega), rdR, if_pos (show (i : Int) < (l.length : Int) by omega), if_pos (show (i : Int) > 0 by omega), if_pos (show (0 : Int) ≤ ((i - 1 : Nat) : Int) by omega), if_pos (show ((i - 1 : Nat) : Int) < (l.length : Int) by omega), if_pos (show (0 : Int) ≤ (i : Int) by omega)]
    have ho := order_ev (l.getD (i - 1) z157) (l.getD i z157)
    have hd := order_ahead (l.getD (i - 1) z157) (l.getD i z157)
    refine Ev.bind ho ?_
    have hs : shp l i = !(ahead (l.getD (i - 1) z157) (l.getD i z157)) := by unfold shp; rw [decide_eq_true h0]; rfl
    rw [← hd] at hs
    by_cases h : ordI (l.getD (i - 1) z157) (l.getD i z157) ≥ 0
    · simp only [if_pos h]
      rw [h1 (by rw [hs, decide_eq_true h])]
      exact Ev.now _
    · simp only [if_neg h, w1 i (by omega)]
      exact h2 (by rw [hs, decide_eq_false h])
  unfold vE
  refine anyN_ev l.length (shp l) 3 (if st = 0 then 0 else 3) (fun k i => tree_Check.l1 k (l.length : Int) i a0 a1 l st mk) ?_ ?_ ?_
  · intro i hi h
    have h0 : 0 < i := by
      unfold shp at h; rw [Bool.and_eq_true] at h; exact of_decide_eq_true h.1
    exact st_ i hi h0 3 (fun _ => rfl) (fun e => by rw [e] at h; cases h)
  · intro i hi h r hr
    by_cases h0 : 0 < i
    · exact st_ i hi h0 r (fun e => by rw [e] at h; cases h) (fun _ => hr)
    · obtain rfl : i = 0 := by omega
      refine Ev.step (fun k => by rw [tree_Check.l1]) ?_
      simp only [if_pos (show ((0 : Nat) : Int) < (l.length : Int) by omega), if_neg (show ¬ ((0 : Nat) : Int) > 0 by omega), w1 0 (by omega)]
      exact hr
  · intro _
    refine Ev.step (fun k => by rw [tree_Check.l1]) ?_
    simp only [if_neg (show ¬ (l.length : Int) < (l.length : Int) by omega)]
    split <;> exact Ev.now _
theorem pchk_ev (a0 a1 : Int) (l : List S157) (st : Int) (mk : List Int) (hbig : mk.length ≤ 4611686018427387904) : Ev (fun k => tree_Check.f k a0 a1 l st mk) (vC a0 a1 l st mk) := by
  have l0 : l.length ≤ 40000 → Ev (fun k => tree_Check.l0 k l (l.length : Int) 0 a0 a1 l st mk) (if l.any (badR a0 a1) = true then 2 else vM l st mk) := by
    intro hl
    have st_ : ∀ i : Nat, i < l.length → ∀ r : Int, (badR a0 a1 (l.getD i z157) = true → r = 2) → (badR a0 a1 (l.getD i z157) = false → Ev (fun k => tree_Check.l0 k l (l.length : Int) ((i + 1 : Nat) : Int) a0 a1 l st mk) r) → Ev (fun k => tree_Check.l0 k l (l.length : Int) (i : Int) a0 a1 l st mk) r := by
      intro i hi r h1 h2
      refine Ev.step (fun k => by rw [tree_Check.l0]) ?_
      simp only [rdR, if_pos (show (i : Int) < (l.length : Int) by omega), if_pos (show (0 : Int) ≤ (i : Int) by omega)]
      unfold badR at h1 h2
      generalize l.getD i z157 = x at h1 h2 ⊢
      have j3 : ∀ b : Bool, (b = true ↔ (x.f1 = -1 ∧ x.f2 = -1)) → Ev (fun k => tree_Check.j3 k b l (l.length : Int) (i : Int) a0 a1 l st mk x.f0 x.f1 x.f2 x.f3) r := by
        intro b hb
        refine Ev.step (fun k => by rw [tree_Check.j3]) ?_
        simp only [c1_ev, Option.bind_some, decide_eq_true_eq, w1 i (by omega)]
        by_cases q1 : x.f0 < 0
        · simp only [if_pos q1]; rw [h1 (decide_eq_true (.inl q1))]; exact Ev.now _
        simp only [if_neg q1]
        by_cases q2 : x.f0 ≥ a0
        · simp only [if_pos q2]; rw [h1 (decide_eq_true (.inr (.inl q2)))]; exact Ev.now _
        simp only [if_neg q2]
        by_cases q3 : x.f3 < 0 ∨ x.f3 ≥ a1
        · simp only [if_pos q3]; rw [h1 (decide_eq_true (by omega))]; exact Ev.now _
        simp only [if_neg q3]
        by_cases q4 : b = true
        · simp only [if_pos q4]
          have := hb.1 q4
          exact h2 (decide_eq_false (by omega))
        have q4' : ¬ (x.f1 = -1 ∧ x.f2 = -1) := fun z => q4 (hb.2 z)
        simp only [if_neg q4]
        by_cases q5 : x.f1 < 0 ∨ x.f1 ≥ a1
        · simp only [if_pos q5]; rw [h1 (decide_eq_true (by omega))]; exact Ev.now _
        simp only [if_neg q5]
        by_cases q6 : x.f2 < 0 ∨ x.f2 ≥ a1
        · simp only [if_pos q6]; rw [h1 (decide_eq_true (by omega))]; exact Ev.now _
        simp only [if_neg q6]
        exact h2 (decide_eq_false (by omega))
      by_cases q : x.f1 = -1
      · simp only [if_pos q]
        exact j3 _ (by rw [beq_iff_eq]; exact ⟨fun z => ⟨q, z⟩, fun z => z.2⟩)
      · simp only [if_neg q]
        exact j3 false (ff_ (fun z => q z.1))
    refine anyL_ev0 z157 l (badR a0 a1) 2 (vM l st mk) (fun k i => tree_Check.l0 k l (l.length : Int) i a0 a1 l st mk) ?_ ?_ ?_
    · intro i hi h; exact st_ i hi 2 (fun _ => rfl) (fun e => by rw [e] at h; cases h)
    · intro i hi h r hr; exact st_ i hi r (fun e => by rw [e] at h; cases h) (fun _ => hr)
    · intro _
      refine Ev.step (fun k => by rw [tree_Check.l0]) ?_
      simp only [if_neg (show ¬ (l.length : Int) < (l.length : Int) by omega)]
      refine Ev.bind (slices_ContainsFunc__tree_Check_2_ev mk badM hbig (fun x _ => evs (c2_ev x))) ?_
      unfold vM
      cases q : mk.any badM with
      | true => simp only [if_true]; exact Ev.now _
      | false => simp only [if_neg nft]; exact pshp a0 a1 l st mk hl
  have j1 : ∀ b : Bool, (b = true ↔ a1 < 1 ∨ a1 > 300 ∨ l.length > 40000 ∨ (mk.length : Int) ≠ a1) → Ev (fun k => tree_Check.j1 k b a0 a1 l st mk) (if a1 < 1 ∨ a1 > 300 ∨ l.length > 40000 ∨ (mk.length : Int) ≠ a1 then 1 else if l.any (badR a0 a1) = true then 2 else vM l st mk) := by
    intro b hb
    refine Ev.step (fun k => by rw [tree_Check.j1]) ?_
    by_cases h : a1 < 1 ∨ a1 > 300 ∨ l.length > 40000 ∨ (mk.length : Int) ≠ a1
    · simp only [if_pos h, if_pos (hb.2 h)]; exact Ev.now _
    · simp only [if_neg h, if_neg (fun x => h (hb.1 x))]
      exact l0 (by omega)
  have j0 : ∀ b : Bool, (b = true ↔ (a0 < 1 ∨ a0 > 4)) → Ev (fun k => tree_Check.j0 k b a0 a1 l st mk) (vC a0 a1 l st mk) := by
    intro b hb
    refine Ev.step (fun k => by rw [tree_Check.j0]) ?_
    unfold vC
    by_cases h : a0 < 1 ∨ a0 > 4
    · simp only [if_pos h, if_pos (hb.2 h)]; exact Ev.now _
    · simp only [if_neg h, if_neg (fun x => h (hb.1 x))]
      by_cases h1 : a1 < 1
      · simp only [if_pos h1]; exact j1 true (tt_ (by omega))
      simp only [if_neg h1]
      by_cases h2 : a1 > 300
      · simp only [if_pos h2]; exact j1 true (tt_ (by omega))
      simp only [if_neg h2]
      by_cases h3 : (l.length : Int) > 40000
      · simp only [if_pos h3]; exact j1 true (tt_ (by omega))
      simp only [if_neg h3]
      exact j1 _ (by rw [bne_iff_ne]; omega)
  unfold tree_Check.f
  by_cases h1 : a0 < 1
  · simp only [if_pos h1]; exact j0 true (tt_ (by omega))
  simp only [if_neg h1]
  exact j0 _ (by rw [decide_eq_true_iff]; omega)
theorem rshp (a0 a1 : Int) (l : List S157) (st : Int) (mk : List Int) (hl : l.length ≤ 40000) : Ev (fun k => evermoreref12_Check.l2 k 1 a0 a1 l st mk) (vE l st) := by
  have fin : Ev (fun k => evermoreref12_Check.l2 k (l.length : Int) a0 a1 l st mk) (if st = 0 then 0 else 3) := by
    refine Ev.step (fun k => by rw [evermoreref12_Check.l2]) ?_
    simp only [if_neg (show ¬ (l.length : Int) < (l.length : Int) by omega)]
    split <;> exact Ev.now _
  have key : ∀ d i : Nat, i + d = l.length → 0 < i → Ev (fun k => evermoreref12_Check.l2 k (i : Int) a0 a1 l st mk) (if ((List.range l.length).drop i).any (shp l) = true then 3 else if st = 0 then 0 else 3) := by
    intro d
    induction d with
    | zero =>
      intro i hi _
      rw [List.drop_of_length_le (by rw [List.length_range]; omega)]
      obtain rfl : i = l.length := by omega
      exact fin
    | succ d ih =>
      intro i hi h0
      refine Ev.step (fun k => by rw [evermoreref12_Check.l2]) ?_
      simp only [wm1 i h0 (by omega), rdR, if_pos (show (i : Int) < (l.length : Int) by omega), if_pos (show (0 : Int) ≤ ((i - 1 : Nat) : Int) by omega), if_pos (show ((i - 1 : Nat) : Int) < (l.length : Int) by omega), if_pos (show (0 : Int) ≤ (i : Int) by omega)]
      have ea : ∀ x y : S157, evermoreref12_Ahead.f x.f0 x.f1 x.f2 x.f3 y.f0 y.f1 y.f2 y.f3 = some (ahead x y) := by
        intro x y
        unfold evermoreref12_Ahead.f ahead
        split
        · split
          · split <;> rfl
          · rfl
        · rfl
      refine Ev.bind (evs (ea _ _)) ?_
      rw [List.drop_eq_getElem_cons (by rw [List.length_range]; omega), List.getElem_range, List.any_cons]
      have hs : shp l i = !(ahead (l.getD (i - 1) z157) (l.getD i z157)) := by unfold shp; rw [decide_eq_true h0]; rfl
      rw [hs]
      cases ahead (l.getD (i - 1) z157) (l.getD i z157) with
      | true =>
        simp only [if_true, Bool.not_true, Bool.false_or, w1 i (by omega)]
        exact ih (i + 1) (by omega) (by omega)
      | false =>
        simp only [if_neg nft, Bool.not_false, Bool.true_or, if_true]
        exact Ev.now _
  unfold vE
  by_cases h : l.length = 0
  · refine Ev.step (fun k => by rw [evermoreref12_Check.l2]) ?_
    simp only [if_neg (show ¬ (1 : Int) < (l.length : Int) by omega)]
    rw [h]
    simp only [List.range_zero, List.any_nil, if_neg nft]
    split <;> exact Ev.now _
  · have := key (l.length - 1) 1 (by omega) (by omega)
    refine evc this ?_
    have e : (List.range l.length).any (shp l) = ((List.range l.length).drop 1).any (shp l) := by
      conv => lhs; rw [show List.range l.length = (List.range l.length).drop 0 from rfl, List.drop_eq_getElem_cons (by rw [List.length_range]; omega), List.getElem_range, List.any_cons]
      rfl
    rw [e]
theorem rchk_ev (a0 a1 : Int) (l : List S157) (st : Int) (mk : List Int) : Ev (fun k => evermoreref12_Check.f k a0 a1 l st mk) (vC a0 a1 l st mk) := by
  have l1 : l.length ≤ 40000 → mk.length ≤ 300 → Ev (fun k => evermoreref12_Check.l1 k 0 a0 a1 l st mk) (vM l st mk) := by
    intro hl hm
    unfold vM
    refine anyL_ev0 0 mk badM 2 (vE l st) (fun k i => evermoreref12_Check.l1 k i a0 a1 l st mk) ?_ ?_ ?_
    · intro i hi h
      refine Ev.step (fun k => by rw [evermoreref12_Check.l1]) ?_
      simp only [rdN, if_pos (show (i : Int) < (mk.length : Int) by omega), if_pos (show (0 : Int) ≤ (i : Int) by omega)]
      unfold badM at h
      by_cases q : mk.getD i 0 = 0
      · rw [if_pos q] at h; cases h
      · rw [if_neg q, bne_iff_ne] at h
        simp only [if_neg q, if_neg h]
        exact Ev.now _
    · intro i hi h r hr
      refine Ev.step (fun k => by rw [evermoreref12_Check.l1]) ?_
      simp only [rdN, if_pos (show (i : Int) < (mk.length : Int) by omega), if_pos (show (0 : Int) ≤ (i : Int) by omega), w1 i (by omega)]
      unfold badM at h
      by_cases q : mk.getD i 0 = 0
      · simp only [if_pos q]; exact hr
      · rw [if_neg q, bne_eq_false_iff_eq] at h
        simp only [if_neg q, if_pos h]; exact hr
    · intro _
      refine Ev.step (fun k => by rw [evermoreref12_Check.l1]) ?_
      simp only [if_neg (show ¬ (mk.length : Int) < (mk.length : Int) by omega)]
      exact rshp a0 a1 l st mk hl
  have l0 : l.length ≤ 40000 → mk.length ≤ 300 → Ev (fun k => evermoreref12_Check.l0 k 0 a0 a1 l st mk) (if l.any (badR a0 a1) = true then 2 else vM l st mk) := by
    intro hl hm
    have st_ : ∀ i : Nat, i < l.length → ∀ r : Int, (badR a0 a1 (l.getD i z157) = true → r = 2) → (badR a0 a1 (l.getD i z157) = false → Ev (fun k => evermoreref12_Check.l0 k ((i + 1 : Nat) : Int) a0 a1 l st mk) r) → Ev (fun k => evermoreref12_Check.l0 k (i : Int) a0 a1 l st mk) r := by
      intro i hi r h1 h2
      refine Ev.step (fun k => by rw [evermoreref12_Check.l0]) ?_
      simp only [rdR, if_pos (show (i : Int) < (l.length : Int) by omega), if_pos (show (0 : Int) ≤ (i : Int) by omega)]
      unfold badR at h1 h2
      generalize l.getD i z157 = x at h1 h2 ⊢
      have j4 : ∀ b : Bool, (b = true → r = 2) → (b = false → Ev (fun k => evermoreref12_Check.l0 k ((i + 1 : Nat) : Int) a0 a1 l st mk) r) → Ev (fun k => evermoreref12_Check.j4 k (i : Int) b a0 a1 l st mk) r := by
        intro b b1 b2
        refine Ev.step (fun k => by rw [evermoreref12_Check.j4]) ?_
        cases b with
        | true => simp only [if_true]; rw [b1 rfl]; exact Ev.now _
        | false => simp only [if_neg nft, w1 i (by omega)]; exact b2 rfl
      have j6 : ∀ b : Bool, (b = true → r = 2) → (b = false → Ev (fun k => evermoreref12_Check.l0 k ((i + 1 : Nat) : Int) a0 a1 l st mk) r) → Ev (fun k => evermoreref12_Check.j6 k (i : Int) b a0 a1 l st mk) r := by
        intro b b1 b2
        refine Ev.step (fun k => by rw [evermoreref12_Check.j6]) ?_
        cases b with
        | true => simp only [if_true]; rw [b1 rfl]; exact Ev.now _
        | false => simp only [if_neg nft, w1 i (by omega)]; exact b2 rfl
      have gen : ∀ (G : Bool → Nat → Option Int), (∀ b : Bool, (b = true → r = 2) → (b = false → Ev (fun k => evermoreref12_Check.l0 k ((i + 1 : Nat) : Int) a0 a1 l st mk) r) → Ev (G b) r) → ∀ b5 b6 : Bool, (b5 = true ↔ (x.f1 = -1 ∧ x.f2 = -1)) → (b6 = true ↔ (x.f1 ≥ 0 ∧ x.f1 < a1 ∧ x.f2 ≥ 0 ∧ x.f2 < a1)) → Ev (fun k => if x.f0 < 0 then G true k else if x.f0 ≥ a0 then G true k else if x.f3 < 0 then G true k else if x.f3 ≥ a1 then G true k else if b5 = true then G false k else G (!b6) k) r := by
        intro G hG b5 b6 h5 h6
        by_cases q1 : x.f0 < 0
        · simp only [if_pos q1]; exact hG true (fun _ => h1 (decide_eq_true (.inl q1))) (fun z => by cases z)
        simp only [if_neg q1]
        by_cases q2 : x.f0 ≥ a0
        · simp only [if_pos q2]; exact hG true (fun _ => h1 (decide_eq_true (.inr (.inl q2)))) (fun z => by cases z)
        simp only [if_neg q2]
        by_cases q3 : x.f3 < 0
        · simp only [if_pos q3]; exact hG true (fun _ => h1 (decide_eq_true (by omega))) (fun z => by cases z)
        simp only [if_neg q3]
        by_cases q4 : x.f3 ≥ a1
        · simp only [if_pos q4]; exact hG true (fun _ => h1 (decide_eq_true (by omega))) (fun z => by cases z)
        simp only [if_neg q4]
        by_cases q5 : b5 = true
        · simp only [if_pos q5]
          have := h5.1 q5
          exact hG false (fun z => by cases z) (fun _ => h2 (decide_eq_false (by omega)))
        simp only [if_neg q5]
        have q5' : ¬ (x.f1 = -1 ∧ x.f2 = -1) := fun z => q5 (h5.2 z)
        cases b6 with
        | true => have := h6.1 rfl; exact hG false (fun z => by cases z) (fun _ => h2 (decide_eq_false (by omega)))
        | false =>
          have : ¬ (x.f1 ≥ 0 ∧ x.f1 < a1 ∧ x.f2 ≥ 0 ∧ x.f2 < a1) := fun z => nft (h6.2 z)
          exact hG true (fun _ => h1 (decide_eq_true (by omega))) (fun z => by cases z)
      have j3 : ∀ b5 b6 : Bool, (b5 = true ↔ (x.f1 = -1 ∧ x.f2 = -1)) → (b6 = true ↔ (x.f1 ≥ 0 ∧ x.f1 < a1 ∧ x.f2 ≥ 0 ∧ x.f2 < a1)) → Ev (fun k => evermoreref12_Check.j3 k (i : Int) b5 b6 a0 a1 l st mk x.f0 x.f1 x.f2 x.f3) r := by
        intro b5 b6 h5 h6
        refine Ev.step (fun k => by rw [evermoreref12_Check.j3]) ?_
        exact gen (fun b k => evermoreref12_Check.j4 k (i : Int) b a0 a1 l st mk) j4 b5 b6 h5 h6
      have j5 : ∀ b5 b6 : Bool, (b5 = true ↔ (x.f1 = -1 ∧ x.f2 = -1)) → (b6 = true ↔ (x.f1 ≥ 0 ∧ x.f1 < a1 ∧ x.f2 ≥ 0 ∧ x.f2 < a1)) → Ev (fun k => evermoreref12_Check.j5 k (i : Int) b5 b6 a0 a1 l st mk x.f0 x.f1 x.f2 x.f3) r := by
        intro b5 b6 h5 h6
        refine Ev.step (fun k => by rw [evermoreref12_Check.j5]) ?_
        exact gen (fun b k => evermoreref12_Check.j6 k (i : Int) b a0 a1 l st mk) j6 b5 b6 h5 h6
      by_cases q : x.f1 = -1
      · have hb : (x.f2 == -1) = true ↔ (x.f1 = -1 ∧ x.f2 = -1) := by rw [beq_iff_eq]; exact ⟨fun z => ⟨q, z⟩, fun z => z.2⟩
        simp only [if_pos q, if_neg (show ¬ x.f1 ≥ 0 by omega)]
        exact j3 _ false hb (ff_ (by omega))
      · have hb : ¬ (x.f1 = -1 ∧ x.f2 = -1) := fun z => q z.1
        simp only [if_neg q]
        by_cases q1 : x.f1 ≥ 0
        · simp only [if_pos q1]
          by_cases q2 : x.f1 < a1
          · simp only [if_pos q2]
            by_cases q3 : x.f2 ≥ 0
            · simp only [if_pos q3]; exact j5 false _ (ff_ hb) (by rw [decide_eq_true_iff]; omega)
            · simp only [if_neg q3]; exact j5 false false (ff_ hb) (ff_ (by omega))
          · simp only [if_neg q2]; exact j5 false false (ff_ hb) (ff_ (by omega))
        · simp only [if_neg q1]; exact j5 false false (ff_ hb) (ff_ (by omega))
    refine anyL_ev0 z157 l (badR a0 a1) 2 (vM l st mk) (fun k i => evermoreref12_Check.l0 k i a0 a1 l st mk) ?_ ?_ ?_
    · intro i hi h; exact st_ i hi 2 (fun _ => rfl) (fun e => by rw [e] at h; cases h)
    · intro i hi h r hr; exact st_ i hi r (fun e => by rw [e] at h; cases h) (fun _ => hr)
    · intro _
      refine Ev.step (fun k => by rw [evermoreref12_Check.l0]) ?_
      simp only [if_neg (show ¬ (l.length : Int) < (l.length : Int) by omega)]
      exact l1 hl hm
  have j1 : ∀ b : Bool, (b = true ↔ a1 < 1 ∨ a1 > 300 ∨ l.length > 40000 ∨ (mk.length : Int) ≠ a1) → Ev (fun k => evermoreref12_Check.j1 k b a0 a1 l st mk) (if a1 < 1 ∨ a1 > 300 ∨ l.length > 40000 ∨ (mk.length : Int) ≠ a1 then 1 else if l.any (badR a0 a1) = true then 2 else vM l st mk) := by
    intro b hb
    refine Ev.step (fun k => by rw [evermoreref12_Check.j1]) ?_
    by_cases h : a1 < 1 ∨ a1 > 300 ∨ l.length > 40000 ∨ (mk.length : Int) ≠ a1
    · simp only [if_pos h, if_pos (hb.2 h)]; exact Ev.now _
    · simp only [if_neg h, if_neg (fun x => h (hb.1 x))]
      exact l0 (by omega) (by omega)
  have j0 : ∀ b : Bool, (b = true ↔ (a0 < 1 ∨ a0 > 4)) → Ev (fun k => evermoreref12_Check.j0 k b a0 a1 l st mk) (vC a0 a1 l st mk) := by
    intro b hb
    refine Ev.step (fun k => by rw [evermoreref12_Check.j0]) ?_
    unfold vC
    by_cases h : a0 < 1 ∨ a0 > 4
    · simp only [if_pos h, if_pos (hb.2 h)]; exact Ev.now _
    · simp only [if_neg h, if_neg (fun x => h (hb.1 x))]
      by_cases h1 : a1 < 1
      · simp only [if_pos h1]; exact j1 true (tt_ (by omega))
      simp only [if_neg h1]
      by_cases h2 : a1 > 300
      · simp only [if_pos h2]; exact j1 true (tt_ (by omega))
      simp only [if_neg h2]
      by_cases h3 : (l.length : Int) > 40000
      · simp only [if_pos h3]; exact j1 true (tt_ (by omega))
      simp only [if_neg h3]
      exact j1 _ (by rw [bne_iff_ne]; omega)
  unfold evermoreref12_Check.f
  by_cases h1 : a0 < 1
  · simp only [if_pos h1]; exact j0 true (tt_ (by omega))
  simp only [if_neg h1]
  exact j0 _ (by rw [decide_eq_true_iff]; omega)
/-- the nodes from one on, the children so far -/
def tr (lt : Int) (l : List S162) : Nat → Nat → List Bool → Int
  | 0, _, c => if (c.take (l.length - 1)).any (fun b => !b) = true then 3 else 0
  | d + 1, i, c =>
    if (l.getD i z162).f0 < 0 ∨ (l.getD i z162).f0 ≥ lt then 2
    else if (l.getD i z162).f1 = -1 ∧ (l.getD i z162).f2 = -1 then tr lt l d (i + 1) c
    else if (l.getD i z162).f1 < 0 ∨ (l.getD i z162).f1 ≥ (i : Int) ∨ c.getD (l.getD i z162).f1.toNat false = true then 3
    else if (l.getD i z162).f2 < 0 ∨ (l.getD i z162).f2 ≥ (i : Int) ∨ (c.set (l.getD i z162).f1.toNat true).getD (l.getD i z162).f2.toNat false = true then 3
    else tr lt l d (i + 1) ((c.set (l.getD i z162).f1.toNat true).set (l.getD i z162).f2.toNat true)
def vT (lt : Int) (l : List S162) : Int := if lt < 1 ∨ lt > 4 then 2 else if l.length < 1 ∨ l.length > 60 then 1 else tr lt l l.length 0 (List.replicate l.length false)
theorem tr_ok (lt : Int) (l : List S162) : ∀ d i c, tr lt l d i c = 0 → ∀ j, i ≤ j → j < i + d → (l.getD j z162).f1 = -1 ∧ (l.getD j z162).f2 = -1 ∨ (0 ≤ (l.getD j z162).f1 ∧ (l.getD j z162).f1 < (j : Int)) ∧ (0 ≤ (l.getD j z162).f2 ∧ (l.getD j z162).f2 < (j : Int)) := by
  intro d
  induction d with
  | zero => intro i c _ j h1 h2; omega
  | succ d ih =>
    intro i c h j h1 h2
    rw [tr] at h
    by_cases q1 : (l.getD i z162).f0 < 0 ∨ (l.getD i z162).f0 ≥ lt
    · rw [if_pos q1] at h; exact absurd h (by decide)
    rw [if_neg q1] at h
    by_cases q2 : (l.getD i z162).f1 = -1 ∧ (l.getD i z162).f2 = -1
    · rw [if_pos q2] at h
      rcases Nat.lt_or_ge i j with hj | hj
      · exact ih (i + 1) _ h j (by omega) (by omega)
      · rw [show j = i by omega]; exact .inl q2
    rw [if_neg q2] at h
    by_cases q3 : (l.getD i z162).f1 < 0 ∨ (l.getD i z162).f1 ≥ (i : Int) ∨ c.getD (l.getD i z162).f1.toNat false = true
    · rw [if_pos q3] at h; exact absurd h (by decide)
    rw [if_neg q3] at h
    by_cases q4 : (l.getD i z162).f2 < 0 ∨ (l.getD i z162).f2 ≥ (i : Int) ∨ (c.set (l.getD i z162).f1.toNat true).getD (l.getD i z162).f2.toNat false = true
    · rw [if_pos q4] at h; exact absurd h (by decide)
    rw [if_neg q4] at h
    rcases Nat.lt_or_ge i j with hj | hj
    · exact ih (i + 1) _ h j (by omega) (by omega)
    · rw [show j = i by omega]
      refine .inr ⟨⟨?_, ?_⟩, ?_, ?_⟩
      · exact Int.not_lt.1 (fun z => q3 (.inl z))
      · exact Int.not_le.1 (fun z => q3 (.inr (.inl z)))
      · exact Int.not_lt.1 (fun z => q4 (.inl z))
      · exact Int.not_le.1 (fun z => q4 (.inr (.inl z)))
theorem idx_ev (xs : List Bool) (hl : xs.length ≤ 9223372036854775000) : Ev (fun k => slices_Contains_bool_bool.f k xs false) (xs.any (fun b => !b)) := by
  have key : ∀ d i : Nat, i + d = xs.length → Ev (fun k => slices_Index_bool_bool.l0 k xs false (xs.length : Int) (i : Int)) (ixf (fun b => !b) (xs.drop i) i) := by
    intro d
    induction d with
    | zero =>
      intro i hi
      obtain rfl : i = xs.length := by omega
      refine Ev.step (fun k => by rw [slices_Index_bool_bool.l0]) ?_
      simp only [if_neg (show ¬ (xs.length : Int) < (xs.length : Int) by omega)]
      rw [List.drop_of_length_le (Nat.le_refl _)]
      exact Ev.now _
    | succ d ih =>
      intro i hi
      refine Ev.step (fun k => by rw [slices_Index_bool_bool.l0]) ?_
      simp only [rdb, Int.toNat_natCast, if_pos (show (i : Int) < (xs.length : Int) by omega), if_pos (show (0 : Int) ≤ (i : Int) by omega), w1 i (by omega)]
      rw [drop_getD xs i false (by omega), ixf]
      cases xs.getD i false with
      | false => exact Ev.now _
      | true => exact ih (i + 1) (by omega)
  unfold slices_Contains_bool_bool.f slices_Index_bool_bool.f
  refine Ev.bind (key xs.length 0 (by omega)) ?_
  rw [List.drop_zero, ixf_any]
  exact Ev.now _
theorem ptree_l0 (lt : Int) (l : List S162) (h1 : 1 ≤ l.length) (h60 : l.length ≤ 60) : ∀ d i c, i + d = l.length → c.length = l.length → Ev (fun k => tree_Tree.l0 k lt (l.length : Int) c l (l.length : Int) (i : Int)) (tr lt l d i c) := by
  intro d
  induction d with
  | zero =>
    intro i c hi hc
    obtain rfl : i = l.length := by omega
    refine Ev.step (fun k => by rw [tree_Tree.l0]) ?_
    simp only [if_neg (show ¬ (l.length : Int) < (l.length : Int) by omega), wm1 l.length (by omega) (by omega), if_pos (show (0 : Int) ≤ ((l.length - 1 : Nat) : Int) by omega), if_pos (show ((l.length - 1 : Nat) : Int) ≤ (c.length : Int) by omega), Int.toNat_natCast]
    refine Ev.bind (idx_ev _ (by rw [List.length_take]; omega)) ?_
    rw [tr]
    split <;> exact Ev.now _
  | succ d ih =>
    intro i c hi hc
    rw [tr]
    refine Ev.step (fun k => by rw [tree_Tree.l0]) ?_
    simp only [rdX, if_pos (show (i : Int) < (l.length : Int) by omega), if_pos (show (0 : Int) ≤ (i : Int) by omega)]
    have next : ∀ c', c'.length = l.length → Ev (fun k => tree_Tree.l0 k lt (l.length : Int) c' l (l.length : Int) (wrap64 ((i : Int) + 1))) (tr lt l d (i + 1) c') := by
      intro c' hc'
      rw [w1 i (by omega)]
      exact ih (i + 1) c' (by omega) hc'
    generalize l.getD i z162 = x
    have lit : ((([x.f1, x.f2] : List Int).length : Nat) : Int) = 2 := rfl
    have r0 : rd [x.f1, x.f2] 0 = x.f1 := rfl
    have r1 : rd [x.f1, x.f2] 1 = x.f2 := rfl
    have j4 : ∀ b : Bool, (b = true ↔ (x.f1 = -1 ∧ x.f2 = -1)) → Ev (fun k => tree_Tree.j4 k lt (l.length : Int) c (i : Int) l (l.length : Int) (i : Int) b x.f0 x.f1 x.f2) (if x.f1 = -1 ∧ x.f2 = -1 then tr lt l d (i + 1) c
    else if x.f1 < 0 ∨ x.f1 ≥ (i : Int) ∨ c.getD x.f1.toNat false = true then 3
    else if x.f2 < 0 ∨ x.f2 ≥ (i : Int) ∨ (c.set x.f1.toNat true).getD x.f2.toNat false = true then 3
    else tr lt l d (i + 1) ((c.set x.f1.toNat true).set x.f2.toNat true)) := by
      intro b hb
      refine Ev.step (fun k => by rw [tree_Tree.j4]) ?_
      by_cases q : x.f1 = -1 ∧ x.f2 = -1
      · simp only [if_pos (hb.2 q), if_pos q]; exact next c hc
      simp only [if_neg (fun z => q (hb.1 z)), if_neg q, Option.bind_some]
      refine Ev.step (fun k => by rw [tree_Tree.l1]) ?_
      simp only [lit, r0, rdb, if_pos (show (0 : Int) < 2 by decide), if_pos (show (0 : Int) ≤ 0 by decide)]
      by_cases q1 : x.f1 < 0
      · rw [if_pos (Or.inl q1 : x.f1 < 0 ∨ x.f1 ≥ (i : Int) ∨ c.getD x.f1.toNat false = true)]; simp only [if_pos q1]; exact Ev.now _
      by_cases q2 : x.f1 ≥ (i : Int)
      · rw [if_pos (Or.inr (Or.inl q2) : x.f1 < 0 ∨ x.f1 ≥ (i : Int) ∨ c.getD x.f1.toNat false = true)]; simp only [if_neg q1, if_pos q2]; exact Ev.now _
      by_cases q3 : c.getD x.f1.toNat false = true
      · rw [if_pos (Or.inr (Or.inr q3) : x.f1 < 0 ∨ x.f1 ≥ (i : Int) ∨ c.getD x.f1.toNat false = true)]; simp only [if_neg q1, if_neg q2, if_pos q3, if_pos (show 0 ≤ x.f1 by omega), if_pos (show x.f1 < (c.length : Int) by omega)]; exact Ev.now _
      simp only [if_neg q1, if_neg q2, if_neg q3, if_pos (show 0 ≤ x.f1 by omega), if_pos (show x.f1 < (c.length : Int) by omega), if_neg (show ¬ (x.f1 < 0 ∨ x.f1 ≥ (i : Int) ∨ c.getD x.f1.toNat false = true) from fun z => z.elim q1 (fun z => z.elim q2 q3)), show wrap64 (0 + 1) = 1 from w64 (n := 0 + 1) (by decide) (by decide)]
      refine Ev.step (fun k => by rw [tree_Tree.l1]) ?_
      simp only [lit, r1, rdb, if_pos (show (1 : Int) < 2 by decide), if_pos (show (0 : Int) ≤ 1 by decide), List.length_set]
      by_cases p1 : x.f2 < 0
      · rw [if_pos (Or.inl p1 : x.f2 < 0 ∨ x.f2 ≥ (i : Int) ∨ (c.set x.f1.toNat true).getD x.f2.toNat false = true)]; simp only [if_pos p1]; exact Ev.now _
      by_cases p2 : x.f2 ≥ (i : Int)
      · rw [if_pos (Or.inr (Or.inl p2) : x.f2 < 0 ∨ x.f2 ≥ (i : Int) ∨ (c.set x.f1.toNat true).getD x.f2.toNat false = true)]; simp only [if_neg p1, if_pos p2]; exact Ev.now _
      by_cases p3 : (c.set x.f1.toNat true).getD x.f2.toNat false = true
      · rw [if_pos (Or.inr (Or.inr p3) : x.f2 < 0 ∨ x.f2 ≥ (i : Int) ∨ (c.set x.f1.toNat true).getD x.f2.toNat false = true)]; simp only [if_neg p1, if_neg p2, if_pos p3, if_pos (show 0 ≤ x.f2 by omega), if_pos (show x.f2 < (c.length : Int) by omega)]; exact Ev.now _
      simp only [if_neg p1, if_neg p2, if_neg p3, if_pos (show 0 ≤ x.f2 by omega), if_pos (show x.f2 < (c.length : Int) by omega), if_neg (show ¬ (x.f2 < 0 ∨ x.f2 ≥ (i : Int) ∨ (c.set x.f1.toNat true).getD x.f2.toNat false = true) from fun z => z.elim p1 (fun z => z.elim p2 p3)), show wrap64 (1 + 1) = 2 from w64 (n := 1 + 1) (by decide) (by decide)]
      refine Ev.step (fun k => by rw [tree_Tree.l1]) ?_
      simp only [lit, if_neg (show ¬ (2 : Int) < 2 by decide)]
      exact next _ (by rw [List.length_set, List.length_set]; exact hc)
    have j3 : ∀ b : Bool, (b = true ↔ (x.f0 < 0 ∨ x.f0 ≥ lt)) → Ev (fun k => tree_Tree.j3 k lt (l.length : Int) c (i : Int) l (l.length : Int) (i : Int) b x.f0 x.f1 x.f2) (if x.f0 < 0 ∨ x.f0 ≥ lt then 2 else if x.f1 = -1 ∧ x.f2 = -1 then tr lt l d (i + 1) c
    else if x.f1 < 0 ∨ x.f1 ≥ (i : Int) ∨ c.getD x.f1.toNat false = true then 3
    else if x.f2 < 0 ∨ x.f2 ≥ (i : Int) ∨ (c.set x.f1.toNat true).getD x.f2.toNat false = true then 3
    else tr lt l d (i + 1) ((c.set x.f1.toNat true).set x.f2.toNat true)) := by
      intro b hb
      refine Ev.step (fun k => by rw [tree_Tree.j3]) ?_
      by_cases q : x.f0 < 0 ∨ x.f0 ≥ lt
      · simp only [if_pos (hb.2 q), if_pos q]; exact Ev.now _
      simp only [if_neg (fun z => q (hb.1 z)), if_neg q]
      by_cases q1 : x.f1 = -1
      · simp only [if_pos q1]
        exact j4 _ (by rw [beq_iff_eq]; exact ⟨fun z => ⟨q1, z⟩, fun z => z.2⟩)
      · simp only [if_neg q1]; exact j4 false (ff_ (fun z => q1 z.1))
    by_cases q : x.f0 < 0
    · simp only [if_pos q]; exact j3 true (tt_ (.inl q))
    · simp only [if_neg q]; exact j3 _ (by rw [decide_eq_true_iff]; exact ⟨.inr, fun z => z.elim (fun y => absurd y q) id⟩)
theorem ptree_ev (lt : Int) (l : List S162) : Ev (fun k => tree_Tree.f k lt l) (vT lt l) := by
  have j1 : ∀ b : Bool, (b = true ↔ (l.length < 1 ∨ l.length > 60)) → Ev (fun k => tree_Tree.j1 k lt (l.length : Int) b l) (if l.length < 1 ∨ l.length > 60 then 1 else tr lt l l.length 0 (List.replicate l.length false)) := by
    intro b hb
    refine Ev.step (fun k => by rw [tree_Tree.j1]) ?_
    by_cases h : l.length < 1 ∨ l.length > 60
    · simp only [if_pos h, if_pos (hb.2 h)]; exact Ev.now _
    · simp only [if_neg h, if_neg (fun x => h (hb.1 x)), if_pos (show (0 : Int) ≤ (l.length : Int) by omega), Int.toNat_natCast, if_pos (show l.length ≤ 281474976710656 by omega)]
      exact ptree_l0 lt l (by omega) (by omega) l.length 0 _ (by omega) (by rw [List.length_replicate])
  have j0 : ∀ b : Bool, (b = true ↔ (lt < 1 ∨ lt > 4)) → Ev (fun k => tree_Tree.j0 k lt b l) (vT lt l) := by
    intro b hb
    refine Ev.step (fun k => by rw [tree_Tree.j0]) ?_
    unfold vT
    by_cases h : lt < 1 ∨ lt > 4
    · simp only [if_pos h, if_pos (hb.2 h)]; exact Ev.now _
    · simp only [if_neg h, if_neg (fun x => h (hb.1 x))]
      by_cases h1 : (l.length : Int) < 1
      · simp only [if_pos h1]; exact j1 true (tt_ (by omega))
      · simp only [if_neg h1]; exact j1 _ (by rw [decide_eq_true_iff]; omega)
  unfold tree_Tree.f
  by_cases h1 : lt < 1
  · simp only [if_pos h1]; exact j0 true (tt_ (by omega))
  simp only [if_neg h1]
  exact j0 _ (by rw [decide_eq_true_iff]; omega)
theorem rtree_l0 (lt : Int) (l : List S162) (h1 : 1 ≤ l.length) (h60 : l.length ≤ 60) : ∀ d i c, i + d = l.length → c.length = l.length → Ev (fun k => evermoreref12_Tree.l0 k lt (l.length : Int) c (i : Int) l) (tr lt l d i c) := by
  intro d
  induction d with
  | zero =>
    intro i c hi hc
    obtain rfl : i = l.length := by omega
    refine Ev.step (fun k => by rw [evermoreref12_Tree.l0]) ?_
    simp only [if_neg (show ¬ (l.length : Int) < (l.length : Int) by omega)]
    rw [tr]
    have ht : (c.take (l.length - 1)).length = l.length - 1 := by rw [List.length_take]; omega
    have hg : ∀ j, j < l.length - 1 → (c.take (l.length - 1)).getD j false = c.getD j false := by
      intro j hj
      rw [List.getD_eq_getElem?_getD, List.getD_eq_getElem?_getD, List.getElem?_take_of_lt hj]
    refine anyL_ev0 false (c.take (l.length - 1)) (fun b => !b) 3 0 (fun k j => evermoreref12_Tree.l1 k (l.length : Int) c j) ?_ ?_ ?_
    · intro j hj h
      rw [ht] at hj
      rw [hg j hj] at h
      refine Ev.step (fun k => by rw [evermoreref12_Tree.l1]) ?_
      simp only [wm1 l.length (by omega) (by omega), rdb, Int.toNat_natCast, if_pos (show (j : Int) < ((l.length - 1 : Nat) : Int) by omega), if_pos (show (0 : Int) ≤ (j : Int) by omega), if_pos (show (j : Int) < (c.length : Int) by omega)]
      have : c.getD j false = false := by rwa [Bool.not_eq_true'] at h
      simp only [this, if_neg nft]
      exact Ev.now _
    · intro j hj h r hr
      rw [ht] at hj
      rw [hg j hj] at h
      refine Ev.step (fun k => by rw [evermoreref12_Tree.l1]) ?_
      simp only [wm1 l.length (by omega) (by omega), rdb, Int.toNat_natCast, if_pos (show (j : Int) < ((l.length - 1 : Nat) : Int) by omega), if_pos (show (0 : Int) ≤ (j : Int) by omega), if_pos (show (j : Int) < (c.length : Int) by omega), w1 j (by omega)]
      have : c.getD j false = true := by rwa [Bool.not_eq_false'] at h
      simp only [this, if_true]
      exact hr
    · intro _
      rw [ht]
      refine Ev.step (fun k => by rw [evermoreref12_Tree.l1]) ?_
      simp only [wm1 l.length (by omega) (by omega), if_neg (show ¬ ((l.length - 1 : Nat) : Int) < ((l.length - 1 : Nat) : Int) by omega)]
      exact Ev.now _
  | succ d ih =>
    intro i c hi hc
    rw [tr]
    refine Ev.step (fun k => by rw [evermoreref12_Tree.l0]) ?_
    simp only [rdX, if_pos (show (i : Int) < (l.length : Int) by omega), if_pos (show (0 : Int) ≤ (i : Int) by omega)]
    have next : ∀ c', c'.length = l.length → Ev (fun k => evermoreref12_Tree.l0 k lt (l.length : Int) c' (wrap64 ((i : Int) + 1)) l) (tr lt l d (i + 1) c') := by
      intro c' hc'
      rw [w1 i (by omega)]
      exact ih (i + 1) c' (by omega) hc'
    generalize l.getD i z162 = x
    have j5 : ∀ b : Bool, ¬ (x.f1 = -1 ∧ x.f2 = -1) → (b = true ↔ (x.f1 < 0 ∨ x.f1 ≥ (i : Int) ∨ c.getD x.f1.toNat false = true)) → Ev (fun k => evermoreref12_Tree.j5 k lt (l.length : Int) c (i : Int) b l x.f0 x.f1 x.f2) (if x.f1 < 0 ∨ x.f1 ≥ (i : Int) ∨ c.getD x.f1.toNat false = true then 3
    else if x.f2 < 0 ∨ x.f2 ≥ (i : Int) ∨ (c.set x.f1.toNat true).getD x.f2.toNat false = true then 3
    else tr lt l d (i + 1) ((c.set x.f1.toNat true).set x.f2.toNat true)) := by
      intro b _ hb
      refine Ev.step (fun k => by rw [evermoreref12_Tree.j5]) ?_
      by_cases q : x.f1 < 0 ∨ x.f1 ≥ (i : Int) ∨ c.getD x.f1.toNat false = true
      · simp only [if_pos (hb.2 q), if_pos q]; exact Ev.now _
      have q1 : ¬ x.f1 < 0 := fun z => q (.inl z)
      have q2 : ¬ x.f1 ≥ (i : Int) := fun z => q (.inr (.inl z))
      simp only [if_neg (fun z => q (hb.1 z)), if_neg q, if_pos (show 0 ≤ x.f1 by omega), if_pos (show x.f1 < (c.length : Int) by omega), Option.bind_some, rdb]
      by_cases p1 : x.f2 < 0
      · rw [if_pos (Or.inl p1 : x.f2 < 0 ∨ x.f2 ≥ (i : Int) ∨ (c.set x.f1.toNat true).getD x.f2.toNat false = true)]; simp only [if_pos p1]; exact Ev.now _
      by_cases p2 : x.f2 ≥ (i : Int)
      · rw [if_pos (Or.inr (Or.inl p2) : x.f2 < 0 ∨ x.f2 ≥ (i : Int) ∨ (c.set x.f1.toNat true).getD x.f2.toNat false = true)]; simp only [if_neg p1, if_pos p2]; exact Ev.now _
      by_cases p3 : (c.set x.f1.toNat true).getD x.f2.toNat false = true
      · rw [if_pos (Or.inr (Or.inr p3) : x.f2 < 0 ∨ x.f2 ≥ (i : Int) ∨ (c.set x.f1.toNat true).getD x.f2.toNat false = true)]; simp only [if_neg p1, if_neg p2, if_pos p3, if_pos (show 0 ≤ x.f2 by omega), if_pos (show x.f2 < (c.length : Int) by omega)]; exact Ev.now _
      simp only [if_neg p1, if_neg p2, if_neg p3, if_pos (show 0 ≤ x.f2 by omega), if_pos (show x.f2 < (c.length : Int) by omega), if_neg (show ¬ (x.f2 < 0 ∨ x.f2 ≥ (i : Int) ∨ (c.set x.f1.toNat true).getD x.f2.toNat false = true) from fun z => z.elim p1 (fun z => z.elim p2 p3))]
      exact next _ (by rw [List.length_set, List.length_set]; exact hc)
    have j4 : ∀ b : Bool, (b = true ↔ (x.f1 = -1 ∧ x.f2 = -1)) → Ev (fun k => evermoreref12_Tree.j4 k lt (l.length : Int) c (i : Int) b l x.f0 x.f1 x.f2) (if x.f1 = -1 ∧ x.f2 = -1 then tr lt l d (i + 1) c
    else if x.f1 < 0 ∨ x.f1 ≥ (i : Int) ∨ c.getD x.f1.toNat false = true then 3
    else if x.f2 < 0 ∨ x.f2 ≥ (i : Int) ∨ (c.set x.f1.toNat true).getD x.f2.toNat false = true then 3
    else tr lt l d (i + 1) ((c.set x.f1.toNat true).set x.f2.toNat true)) := by
      intro b hb
      refine Ev.step (fun k => by rw [evermoreref12_Tree.j4]) ?_
      by_cases q : x.f1 = -1 ∧ x.f2 = -1
      · simp only [if_pos (hb.2 q), if_pos q]; exact next c hc
      simp only [if_neg (fun z => q (hb.1 z)), if_neg q, rdb]
      by_cases q1 : x.f1 < 0
      · simp only [if_pos q1]; exact j5 true q (tt_ (.inl q1))
      by_cases q2 : x.f1 ≥ (i : Int)
      · simp only [if_neg q1, if_pos q2]; exact j5 true q (tt_ (.inr (.inl q2)))
      simp only [if_neg q1, if_neg q2, if_pos (show 0 ≤ x.f1 by omega), if_pos (show x.f1 < (c.length : Int) by omega)]
      exact j5 _ q ⟨fun z => .inr (.inr z), fun z => z.elim (fun y => absurd y q1) (fun z => z.elim (fun y => absurd y q2) id)⟩
    have j3 : ∀ b : Bool, (b = true ↔ (x.f0 < 0 ∨ x.f0 ≥ lt)) → Ev (fun k => evermoreref12_Tree.j3 k lt (l.length : Int) c (i : Int) b l x.f0 x.f1 x.f2) (if x.f0 < 0 ∨ x.f0 ≥ lt then 2 else if x.f1 = -1 ∧ x.f2 = -1 then tr lt l d (i + 1) c
    else if x.f1 < 0 ∨ x.f1 ≥ (i : Int) ∨ c.getD x.f1.toNat false = true then 3
    else if x.f2 < 0 ∨ x.f2 ≥ (i : Int) ∨ (c.set x.f1.toNat true).getD x.f2.toNat false = true then 3
    else tr lt l d (i + 1) ((c.set x.f1.toNat true).set x.f2.toNat true)) := by
      intro b hb
      refine Ev.step (fun k => by rw [evermoreref12_Tree.j3]) ?_
      by_cases q : x.f0 < 0 ∨ x.f0 ≥ lt
      · simp only [if_pos (hb.2 q), if_pos q]; exact Ev.now _
      simp only [if_neg (fun z => q (hb.1 z)), if_neg q]
      by_cases q1 : x.f1 = -1
      · simp only [if_pos q1]
        exact j4 _ (by rw [beq_iff_eq]; exact ⟨fun z => ⟨q1, z⟩, fun z => z.2⟩)
      · simp only [if_neg q1]; exact j4 false (ff_ (fun z => q1 z.1))
    by_cases q : x.f0 < 0
    · simp only [if_pos q]; exact j3 true (tt_ (.inl q))
    · simp only [if_neg q]; exact j3 _ (by rw [decide_eq_true_iff]; exact ⟨.inr, fun z => z.elim (fun y => absurd y q) id⟩)
theorem rtree_ev (lt : Int) (l : List S162) : Ev (fun k => evermoreref12_Tree.f k lt l) (vT lt l) := by
  have j1 : ∀ b : Bool, (b = true ↔ (l.length < 1 ∨ l.length > 60)) → Ev (fun k => evermoreref12_Tree.j1 k lt (l.length : Int) b l) (if l.length < 1 ∨ l.length > 60 then 1 else tr lt l l.length 0 (List.replicate l.length false)) := by
    intro b hb
    refine Ev.step (fun k => by rw [evermoreref12_Tree.j1]) ?_
    by_cases h : l.length < 1 ∨ l.length > 60
    · simp only [if_pos h, if_pos (hb.2 h)]; exact Ev.now _
    · simp only [if_neg h, if_neg (fun x => h (hb.1 x)), if_pos (show (0 : Int) ≤ (l.length : Int) by omega), Int.toNat_natCast, if_pos (show l.length ≤ 281474976710656 by omega)]
      exact rtree_l0 lt l (by omega) (by omega) l.length 0 _ (by omega) (by rw [List.length_replicate])
  have j0 : ∀ b : Bool, (b = true ↔ (lt < 1 ∨ lt > 4)) → Ev (fun k => evermoreref12_Tree.j0 k lt b l) (vT lt l) := by
    intro b hb
    refine Ev.step (fun k => by rw [evermoreref12_Tree.j0]) ?_
    unfold vT
    by_cases h : lt < 1 ∨ lt > 4
    · simp only [if_pos h, if_pos (hb.2 h)]; exact Ev.now _
    · simp only [if_neg h, if_neg (fun x => h (hb.1 x))]
      by_cases h1 : (l.length : Int) < 1
      · simp only [if_pos h1]; exact j1 true (tt_ (by omega))
      · simp only [if_neg h1]; exact j1 _ (by rw [decide_eq_true_iff]; omega)
  unfold evermoreref12_Tree.f
  by_cases h1 : lt < 1
  · simp only [if_pos h1]; exact j0 true (tt_ (by omega))
  simp only [if_neg h1]
  exact j0 _ (by rw [decide_eq_true_iff]; omega)
def hit (s : List (List Bool)) (x : S162) (r : S157) : Bool := decide (r.f0 = x.f0) && (((r.f1 == -1) == (x.f1 == -1)) && ((r.f1 == -1) || ((s.getD x.f1.toNat []).getD r.f1.toNat false && (s.getD x.f2.toNat []).getD r.f2.toNat false)))
def ownS (s : List (List Bool)) (x : S162) (row : List Bool) (r : S157) : List Bool := if hit s x r = true then row.set r.f3.toNat true else row
def own (A : Nat) (l : List S157) (s : List (List Bool)) (x : S162) : List Bool := l.foldl (ownS s x) (List.replicate A false)
def canS (A : Nat) (l : List S157) (s : List (List Bool)) (x : S162) : List (List Bool) := s ++ [own A l s x]
def cans (A : Nat) (l : List S157) (ns : List S162) : List (List Bool) := ns.foldl (canS A l) []
theorem ownS_len (s : List (List Bool)) (x : S162) (row : List Bool) (r : S157) : (ownS s x row r).length = row.length := by
  unfold ownS; split
  · rw [List.length_set]
  · rfl
theorem fold_len (s : List (List Bool)) (x : S162) : ∀ (l : List S157) (row : List Bool), (l.foldl (ownS s x) row).length = row.length
  | [], _ => rfl
  | r :: l, row => by rw [List.foldl_cons, fold_len s x l, ownS_len]
theorem own_len (A : Nat) (l : List S157) (s : List (List Bool)) (x : S162) : (own A l s x).length = A := by
  unfold own; rw [fold_len, List.length_replicate]
structure OkS (A i : Nat) (s : List (List Bool)) : Prop where
  len : s.length = i
  row : ∀ j, j < i → (s.getD j []).length = A
theorem OkS.step {A i : Nat} {s : List (List Bool)} (h : OkS A i s) (l : List S157) (x : S162) : OkS A (i + 1) (canS A l s x) := by
  refine ⟨by unfold canS; rw [List.length_append, h.len]; rfl, fun j hj => ?_⟩
  unfold canS
  rw [List.getD_eq_getElem?_getD]
  rcases Nat.lt_or_ge j i with h2 | h2
  · rw [List.getElem?_append_left (by rw [h.len]; exact h2), ← List.getD_eq_getElem?_getD]; exact h.row j h2
  · obtain rfl : j = i := by omega
    rw [List.getElem?_append_right (by rw [h.len]; omega), h.len, Nat.sub_self]
    exact own_len A l s x
theorem cans_ok (A : Nat) (l : List S157) : ∀ (ns : List S162) (s : List (List Bool)) (i : Nat), OkS A i s → OkS A (i + ns.length) (ns.foldl (canS A l) s)
  | [], _, _, h => h
  | x :: ns, s, i, h => by
    rw [List.foldl_cons, List.length_cons, show i + (ns.length + 1) = (i + 1) + ns.length by omega]
    exact cans_ok A l ns _ _ (h.step l x)
theorem okR {a0 a1 : Int} {r : S157} (h : badR a0 a1 r = false) : (0 ≤ r.f3 ∧ r.f3 < a1) ∧ (r.f1 = -1 ∨ (0 ≤ r.f1 ∧ r.f1 < a1 ∧ 0 ≤ r.f2 ∧ r.f2 < a1)) := by
  unfold badR at h
  have := of_decide_eq_false h
  omega
def okX (x : S162) (i : Nat) : Prop := x.f1 = -1 ∧ x.f2 = -1 ∨ (0 ≤ x.f1 ∧ x.f1 < (i : Int)) ∧ (0 ≤ x.f2 ∧ x.f2 < (i : Int))
theorem okRl {a0 a1 : Int} {l : List S157} (h : l.any (badR a0 a1) = false) (j : Nat) (hj : j < l.length) : badR a0 a1 (l.getD j z157) = false := by
  rw [List.any_eq_false] at h
  exact Bool.eq_false_iff.2 (h _ (getD_mem l j z157 hj))
theorem e1_x {a b : Int} (h : ((a == -1) == (b == -1)) = true) (h2 : ¬ a = -1) : ¬ b = -1 := by
  intro hb
  have e1 : (b == -1) = true := beq_iff_eq.2 hb
  have e2 : (a == -1) = false := beq_eq_false_iff_ne.2 h2
  rw [e1, e2] at h
  cases h
/-- what a rule does to a node's row, told once for both loops: Y is the loop from the next rule on -/
theorem rinner {A i : Nat} {a0 a1 : Int} (l : List S157) (st : Int) (mk : List Int) (ns : List S162) (hA : a1 = (A : Int)) (hl : l.length ≤ 40000) (hi60 : i ≤ 60) (hr : l.any (badR a0 a1) = false) (s : List (List Bool)) (hs : OkS A i s) (x : S162) (hx : okX x i) (r : Bool)
    (hend : Ev (fun k => evermoreref12_Accepts.l1 k s (i : Int) (own A l s x) (l.length : Int) a0 a1 l st mk ns x.f0 x.f1 x.f2) r) : Ev (fun k => evermoreref12_Accepts.l1 k s (i : Int) (List.replicate A false) 0 a0 a1 l st mk ns x.f0 x.f1 x.f2) r := by
  refine foldL_ev z157 l (ownS s x) (fun _ row => row.length = A) (fun k j row => evermoreref12_Accepts.l1 k s (i : Int) row j a0 a1 l st mk ns x.f0 x.f1 x.f2) r ?_ (List.replicate A false) List.length_replicate (fun _ => hend)
  intro j row hj hrow
  refine ⟨by rw [ownS_len]; exact hrow, fun hn => ?_⟩
  refine Ev.step (fun k => by rw [evermoreref12_Accepts.l1]) ?_
  simp only [rdR, if_pos (show (j : Int) < (l.length : Int) by omega), if_pos (show (0 : Int) ≤ (j : Int) by omega)]
  have B := okR (okRl hr j hj)
  revert hn B
  generalize l.getD j z157 = q
  intro hn B
  obtain ⟨⟨b1, b2⟩, b3⟩ := B
  have put : hit s x q = true → Ev (fun k => evermoreref12_Accepts.l1 k s (i : Int) (row.set q.f3.toNat true) ((j + 1 : Nat) : Int) a0 a1 l st mk ns x.f0 x.f1 x.f2) r := by
    intro h; unfold ownS at hn; rwa [if_pos h] at hn
  have skip : hit s x q = false → Ev (fun k => evermoreref12_Accepts.l1 k s (i : Int) row ((j + 1 : Nat) : Int) a0 a1 l st mk ns x.f0 x.f1 x.f2) r := by
    intro h; unfold ownS at hn; rwa [if_neg (by rw [h]; exact nft)] at hn
  have j2s : hit s x q = false → Ev (fun k => evermoreref12_Accepts.j2 k s (i : Int) row (j : Int) true a0 a1 l st mk ns x.f0 x.f1 x.f2 q.f0 q.f1 q.f2 q.f3) r := by
    intro h
    refine Ev.step (fun k => by rw [evermoreref12_Accepts.j2]) ?_
    simp only [if_true, w1 j (by omega)]
    exact skip h
  by_cases e0 : q.f0 = x.f0
  · simp only [if_pos e0]
    by_cases e1 : ((q.f1 == -1) == (x.f1 == -1)) = true
    · have eb : ((q.f1 == -1) != (x.f1 == -1)) = false := by unfold bne; rw [e1]; rfl
      rw [eb]
      refine Ev.step (fun k => by rw [evermoreref12_Accepts.j2]) ?_
      simp only [if_neg nft, w1 j (by omega), rdB, rdb, hrow]
      by_cases e2 : q.f1 = -1
      · simp only [if_pos e2, if_pos b1, if_pos (show q.f3 < (A : Int) by omega)]
        exact put (by unfold hit; rw [decide_eq_true e0, e1, beq_iff_eq.2 e2]; rfl)
      · have e2b : (q.f1 == -1) = false := beq_eq_false_iff_ne.2 e2
        have hx2 : (0 ≤ x.f1 ∧ x.f1 < (i : Int)) ∧ (0 ≤ x.f2 ∧ x.f2 < (i : Int)) := by
          have := e1_x e1 e2
          unfold okX at hx
          omega
        have hq : 0 ≤ q.f1 ∧ q.f1 < a1 ∧ 0 ≤ q.f2 ∧ q.f2 < a1 := by omega
        have r1 := hs.row x.f1.toNat (by omega)
        have r2 := hs.row x.f2.toNat (by omega)
        simp only [if_neg e2, hs.len, r1, r2, if_pos hx2.1.1, if_pos hx2.1.2, if_pos hx2.2.1, if_pos hx2.2.2, if_pos hq.1, if_pos (show q.f1 < (A : Int) by omega), if_pos hq.2.2.1, if_pos (show q.f2 < (A : Int) by omega), if_pos b1, if_pos (show q.f3 < (A : Int) by omega)]
        have hh : hit s x q = ((s.getD x.f1.toNat []).getD q.f1.toNat false && (s.getD x.f2.toNat []).getD q.f2.toNat false) := by unfold hit; rw [decide_eq_true e0, e1, e2b]; rfl
        cases g1 : (s.getD x.f1.toNat []).getD q.f1.toNat false with
        | false => simp only [if_neg nft]; exact skip (by rw [hh, g1]; rfl)
        | true =>
          simp only [if_true]
          cases g2 : (s.getD x.f2.toNat []).getD q.f2.toNat false with
          | false => simp only [if_neg nft]; exact skip (by rw [hh, g1, g2]; rfl)
          | true => simp only [if_true]; exact put (by rw [hh, g1, g2]; rfl)
    · have e1' : ((q.f1 == -1) == (x.f1 == -1)) = false := Bool.eq_false_iff.2 e1
      have eb : ((q.f1 == -1) != (x.f1 == -1)) = true := by unfold bne; rw [e1']; rfl
      rw [eb]
      exact j2s (by unfold hit; rw [e1', Bool.false_and, Bool.and_false])
  · simp only [if_neg e0]
    exact j2s (by unfold hit; rw [decide_eq_false e0, Bool.false_and])
def pq (row : List Bool) (mk : List Int) (q : Nat) : Bool := row.getD q false && decide (mk.getD q 0 = 1)
def vA (A : Nat) (l : List S157) (mk : List Int) (ns : List S162) : Bool := if (List.range A).any (pq ((cans A l ns).getD (ns.length - 1) []) mk) = true then true else false
theorem racc_ev {A : Nat} {a0 a1 : Int} (l : List S157) (st : Int) (mk : List Int) (ns : List S162) (hA : a1 = (A : Int)) (hA3 : A ≤ 300) (hl : l.length ≤ 40000) (hn1 : 1 ≤ ns.length) (hn60 : ns.length ≤ 60) (hm : mk.length = A) (hr : l.any (badR a0 a1) = false) (hx : ∀ j, j < ns.length → okX (ns.getD j z162) j) :
    Ev (fun k => evermoreref12_Accepts.f k a0 a1 l st mk ns) (vA A l mk ns) := by
  unfold evermoreref12_Accepts.f
  refine foldL_ev z162 ns (canS A l) (fun i s => OkS A i s) (fun k i s => evermoreref12_Accepts.l0 k s i a0 a1 l st mk ns) (vA A l mk ns) ?_ [] ⟨rfl, fun j hj => by omega⟩ ?_
  · intro i s hi hs
    refine ⟨hs.step l _, fun hn => ?_⟩
    refine Ev.step (fun k => by rw [evermoreref12_Accepts.l0]) ?_
    have hA0 : a1.toNat = A := by omega
    simp only [rdX, if_pos (show (i : Int) < (ns.length : Int) by omega), if_pos (show (0 : Int) ≤ (i : Int) by omega), if_pos (show (0 : Int) ≤ a1 by omega), hA0, if_pos (show A ≤ 281474976710656 by omega)]
    refine rinner l st mk ns hA hl (by omega) hr s hs _ (hx i hi) _ ?_
    refine Ev.step (fun k => by rw [evermoreref12_Accepts.l1]) ?_
    simp only [if_neg (show ¬ (l.length : Int) < (l.length : Int) by omega), if_pos (show s.length < 5864062014805 by rw [hs.len]; omega), w1 i (by omega)]
    exact hn
  · intro hs
    have hs : OkS A ns.length (cans A l ns) := hs
    show Ev (fun k => evermoreref12_Accepts.l0 k (cans A l ns) (ns.length : Int) a0 a1 l st mk ns) (vA A l mk ns)
    refine Ev.step (fun k => by rw [evermoreref12_Accepts.l0]) ?_
    simp only [hs.len, if_neg (show ¬ (ns.length : Int) < (ns.length : Int) by omega), wm1 ns.length (by omega) (by omega), if_pos (show (0 : Int) ≤ ((ns.length - 1 : Nat) : Int) by omega), if_pos (show ((ns.length - 1 : Nat) : Int) < (ns.length : Int) by omega), rdB, Int.toNat_natCast]
    have hrow := hs.row (ns.length - 1) (by omega)
    unfold vA
    revert hrow
    generalize (cans A l ns).getD (ns.length - 1) [] = row
    intro hrow
    subst hA
    refine anyN_ev A (pq row mk) true false (fun k i => evermoreref12_Accepts.l2 k row i a0 (A : Int) l st mk) ?_ ?_ ?_
    · intro q hq h
      unfold pq at h
      rw [Bool.and_eq_true, decide_eq_true_iff] at h
      refine Ev.step (fun k => by rw [evermoreref12_Accepts.l2]) ?_
      simp only [hrow, hm, rdN, rdb, Int.toNat_natCast, if_pos (show (q : Int) < (A : Int) by omega), if_pos (show (0 : Int) ≤ (q : Int) by omega), if_pos h.1, if_pos h.2]
      exact Ev.now _
    · intro q hq h r hr
      unfold pq at h
      refine Ev.step (fun k => by rw [evermoreref12_Accepts.l2]) ?_
      simp only [hrow, hm, rdN, rdb, Int.toNat_natCast, if_pos (show (q : Int) < (A : Int) by omega), if_pos (show (0 : Int) ≤ (q : Int) by omega), w1 q (by omega)]
      cases g : row.getD q false with
      | false => simp only [if_neg nft]; exact hr
      | true =>
        rw [g, Bool.true_and] at h
        simp only [if_true, if_neg (of_decide_eq_false h)]
        exact hr
    · intro _
      refine Ev.step (fun k => by rw [evermoreref12_Accepts.l2]) ?_
      simp only [if_neg (show ¬ (A : Int) < (A : Int) by omega)]
      exact Ev.now _
/-- rows of which the ones behind are not made yet -/
def pad (n : Nat) (s : List (List Bool)) : List (List Bool) := s ++ List.replicate (n - s.length) []
theorem pad_len {n : Nat} {s : List (List Bool)} (h : s.length ≤ n) : (pad n s).length = n := by
  unfold pad; rw [List.length_append, List.length_replicate]; omega
theorem pad_set {n : Nat} {s : List (List Bool)} (h : s.length < n) (row : List Bool) : (pad n s).set s.length row = pad n (s ++ [row]) := by
  unfold pad
  have e : n - s.length = (n - (s ++ [row]).length) + 1 := by rw [List.length_append, List.length_singleton]; omega
  rw [e, List.replicate_succ, List.set_append_right _ _ (Nat.le_refl _), Nat.sub_self, List.append_assoc]
  rfl
theorem pad_below {n i j : Nat} {s : List (List Bool)} (hs : s.length = i) (hj : j < i) (row : List Bool) : ((pad n s).set i row).getD j [] = s.getD j [] := by
  rw [List.getD_eq_getElem?_getD, List.getD_eq_getElem?_getD, List.getElem?_set_ne (by omega)]
  unfold pad
  rw [List.getElem?_append_left (by omega)]
theorem pad_at {n i : Nat} {s : List (List Bool)} (hs : s.length = i) (hi : i < n) (row : List Bool) : ((pad n s).set i row).getD i [] = row := by
  rw [List.getD_eq_getElem?_getD, List.getElem?_set_self (by rw [pad_len (by omega)]; exact hi)]
  rfl
theorem pinner {A i n : Nat} {a0 a1 : Int} (l : List S157) (st : Int) (mk : List Int) (ns : List S162) (hA : a1 = (A : Int)) (hl : l.length ≤ 40000) (hin : i < n) (hn60 : n ≤ 60) (hr : l.any (badR a0 a1) = false) (s : List (List Bool)) (hs : OkS A i s) (x : S162) (hx : okX x i) (r : List (List Bool))
    (hend : Ev (fun k => tree_states.l1 k (pad n (canS A l s x)) (i : Int) ns (n : Int) (i : Int) l (l.length : Int) (l.length : Int) a0 a1 l st mk x.f0 x.f1 x.f2) r) : Ev (fun k => tree_states.l1 k ((pad n s).set i (List.replicate A false)) (i : Int) ns (n : Int) (i : Int) l (l.length : Int) 0 a0 a1 l st mk x.f0 x.f1 x.f2) r := by
  have hlen : ∀ row : List Bool, ((pad n s).set i row).length = n := fun row => by rw [List.length_set, pad_len (by rw [hs.len]; omega)]
  refine foldL_ev z157 l (ownS s x) (fun _ row => row.length = A) (fun k j row => tree_states.l1 k ((pad n s).set i row) (i : Int) ns (n : Int) (i : Int) l (l.length : Int) j a0 a1 l st mk x.f0 x.f1 x.f2) r ?_ (List.replicate A false) List.length_replicate (fun _ => ?_)
  · intro j row hj hrow
    refine ⟨by rw [ownS_len]; exact hrow, fun hn => ?_⟩
    refine Ev.step (fun k => by rw [tree_states.l1]) ?_
    simp only [rdR, if_pos (show (j : Int) < (l.length : Int) by omega), if_pos (show (0 : Int) ≤ (j : Int) by omega)]
    have B := okR (okRl hr j hj)
    revert hn B
    generalize l.getD j z157 = q
    intro hn B
    obtain ⟨⟨b1, b2⟩, b3⟩ := B
    have j2 : ∀ b : Bool, hit s x q = b → Ev (fun k => tree_states.j2 k ((pad n s).set i row) (i : Int) ns (n : Int) (i : Int) l (l.length : Int) (j : Int) b a0 a1 l st mk x.f0 x.f1 x.f2 q.f0 q.f1 q.f2 q.f3) r := by
      intro b hb
      refine Ev.step (fun k => by rw [tree_states.j2]) ?_
      unfold ownS at hn
      rw [hb] at hn
      simp only [rdB, hlen, Int.toNat_natCast, pad_at hs.len hin, hrow, List.set_set, w1 j (by omega), if_pos (show (0 : Int) ≤ (i : Int) by omega), if_pos (show (i : Int) < (n : Int) by omega), if_pos b1, if_pos (show q.f3 < (A : Int) by omega)]
      cases b with
      | true => simp only [if_true]; rwa [if_pos rfl] at hn
      | false => simp only [if_neg nft]; rwa [if_neg nft] at hn
    by_cases e0 : q.f0 = x.f0
    · simp only [if_pos e0]
      by_cases e1 : ((q.f1 == -1) == (x.f1 == -1)) = true
      · simp only [if_pos e1]
        by_cases e2 : q.f1 = -1
        · simp only [if_pos e2]
          exact j2 true (by unfold hit; rw [decide_eq_true e0, e1, beq_iff_eq.2 e2]; rfl)
        · have e2b : (q.f1 == -1) = false := beq_eq_false_iff_ne.2 e2
          have hx2 : (0 ≤ x.f1 ∧ x.f1 < (i : Int)) ∧ (0 ≤ x.f2 ∧ x.f2 < (i : Int)) := by
            have := e1_x e1 e2
            unfold okX at hx
            omega
          have hq : 0 ≤ q.f1 ∧ q.f1 < a1 ∧ 0 ≤ q.f2 ∧ q.f2 < a1 := by omega
          have r1 := hs.row x.f1.toNat (by omega)
          have r2 := hs.row x.f2.toNat (by omega)
          have g1' := pad_below (n := n) hs.len (show x.f1.toNat < i by omega) row
          have g2' := pad_below (n := n) hs.len (show x.f2.toNat < i by omega) row
          simp only [if_neg e2, rdB, rdb, hlen, g1', g2', r1, r2, if_pos hx2.1.1, if_pos (show x.f1 < (n : Int) by omega), if_pos hx2.2.1, if_pos (show x.f2 < (n : Int) by omega), if_pos hq.1, if_pos (show q.f1 < (A : Int) by omega), if_pos hq.2.2.1, if_pos (show q.f2 < (A : Int) by omega)]
          have hh : hit s x q = ((s.getD x.f1.toNat []).getD q.f1.toNat false && (s.getD x.f2.toNat []).getD q.f2.toNat false) := by unfold hit; rw [decide_eq_true e0, e1, e2b]; rfl
          cases g1 : (s.getD x.f1.toNat []).getD q.f1.toNat false with
          | false => simp only [if_neg nft]; exact j2 false (by rw [hh, g1]; rfl)
          | true => simp only [if_true]; exact j2 _ (by rw [hh, g1]; rfl)
      · simp only [if_neg e1]
        exact j2 false (by unfold hit; rw [Bool.eq_false_iff.2 e1, Bool.false_and, Bool.and_false])
    · simp only [if_neg e0]
      exact j2 false (by unfold hit; rw [decide_eq_false e0, Bool.false_and])
  · have e : (pad n s).set i (l.foldl (ownS s x) (List.replicate A false)) = pad n (canS A l s x) := by
      rw [← hs.len]; exact pad_set (by rw [hs.len]; exact hin) _
    show Ev (fun k => tree_states.l1 k ((pad n s).set i (l.foldl (ownS s x) (List.replicate A false))) (i : Int) ns (n : Int) (i : Int) l (l.length : Int) (l.length : Int) a0 a1 l st mk x.f0 x.f1 x.f2) r
    rw [e]
    exact hend
theorem pstates_ev {A : Nat} {a0 a1 : Int} (l : List S157) (st : Int) (mk : List Int) (ns : List S162) (hA : a1 = (A : Int)) (hA3 : A ≤ 300) (hl : l.length ≤ 40000) (hn60 : ns.length ≤ 60) (hr : l.any (badR a0 a1) = false) (hx : ∀ j, j < ns.length → okX (ns.getD j z162) j) :
    Ev (fun k => tree_states.f k a0 a1 l st mk ns) (cans A l ns) := by
  unfold tree_states.f
  simp only [if_pos (show (0 : Int) ≤ (ns.length : Int) by omega), Int.toNat_natCast, if_pos (show ns.length ≤ 11728124029610 by omega)]
  have e0 : List.replicate ns.length ([] : List Bool) = pad ns.length [] := by unfold pad; rfl
  rw [e0]
  refine foldL_ev z162 ns (canS A l) (fun i s => OkS A i s) (fun k i s => tree_states.l0 k (pad ns.length s) ns (ns.length : Int) i a0 a1 l st mk) (cans A l ns) ?_ [] ⟨rfl, fun j hj => by omega⟩ ?_
  · intro i s hi hs
    refine ⟨hs.step l _, fun hn => ?_⟩
    refine Ev.step (fun k => by rw [tree_states.l0]) ?_
    have hA0 : a1.toNat = A := by omega
    have hlen : (pad ns.length s).length = ns.length := pad_len (by rw [hs.len]; omega)
    simp only [rdX, hlen, Int.toNat_natCast, if_pos (show (i : Int) < (ns.length : Int) by omega), if_pos (show (0 : Int) ≤ (i : Int) by omega), if_pos (show (0 : Int) ≤ a1 by omega), hA0, if_pos (show A ≤ 281474976710656 by omega)]
    refine pinner l st mk ns hA hl hi hn60 hr s hs _ (hx i hi) _ ?_
    refine Ev.step (fun k => by rw [tree_states.l1]) ?_
    simp only [if_neg (show ¬ (l.length : Int) < (l.length : Int) by omega), w1 i (by omega)]
    exact hn
  · intro hs
    have hs : OkS A ns.length (cans A l ns) := by have := hs; exact this
    show Ev (fun k => tree_states.l0 k (pad ns.length (cans A l ns)) ns (ns.length : Int) (ns.length : Int) a0 a1 l st mk) (cans A l ns)
    refine Ev.step (fun k => by rw [tree_states.l0]) ?_
    simp only [if_neg (show ¬ (ns.length : Int) < (ns.length : Int) by omega)]
    have e : pad ns.length (cans A l ns) = cans A l ns := by unfold pad; rw [hs.len, Nat.sub_self]; exact List.append_nil _
    rw [e]
    exact Ev.now _
structure Ok (a0 a1 : Int) (l : List S157) (mk : List Int) (A : Nat) : Prop where
  a : a1 = (A : Int)
  le : A ≤ 300
  len : l.length ≤ 40000
  mark : mk.length = A
  rules : l.any (badR a0 a1) = false
theorem vC_ok {a0 a1 : Int} {l : List S157} {st : Int} {mk : List Int} (h : vC a0 a1 l st mk = 0) : Ok a0 a1 l mk a1.toNat := by
  unfold vC at h
  by_cases h1 : a0 < 1 ∨ a0 > 4
  · rw [if_pos h1] at h; exact absurd h (by decide)
  rw [if_neg h1] at h
  by_cases h2 : a1 < 1 ∨ a1 > 300 ∨ l.length > 40000 ∨ (mk.length : Int) ≠ a1
  · rw [if_pos h2] at h; exact absurd h (by decide)
  rw [if_neg h2] at h
  by_cases h3 : l.any (badR a0 a1) = true
  · rw [if_pos h3] at h; exact absurd h (by decide)
  exact ⟨by omega, by omega, by omega, by omega, Bool.eq_false_iff.2 h3⟩
theorem vT_ok {lt : Int} {l : List S162} (h : vT lt l = 0) : 1 ≤ l.length ∧ l.length ≤ 60 ∧ ∀ j, j < l.length → okX (l.getD j z162) j := by
  unfold vT at h
  by_cases h1 : lt < 1 ∨ lt > 4
  · rw [if_pos h1] at h; exact absurd h (by decide)
  rw [if_neg h1] at h
  by_cases h2 : l.length < 1 ∨ l.length > 60
  · rw [if_pos h2] at h; exact absurd h (by decide)
  rw [if_neg h2] at h
  exact ⟨by omega, by omega, fun j hj => tr_ok lt l l.length 0 _ h j (Nat.zero_le _) (by omega)⟩
theorem pacc_ev (a0 a1 : Int) (l : List S157) (st : Int) (mk : List Int) (ns : List S162) (hbig : mk.length ≤ 4611686018427387904) (b : Bool) (e : Int) (h1 : vC a0 a1 l st mk ≠ 0 → b = false ∧ e = vC a0 a1 l st mk) (h2 : vC a0 a1 l st mk = 0 → vT a0 ns ≠ 0 → b = false ∧ e = vT a0 ns) (h3 : vC a0 a1 l st mk = 0 → vT a0 ns = 0 → b = vA a1.toNat l mk ns ∧ e = 0) :
    Ev (fun k => tree_Accepts.f k a0 a1 l st mk ns) (b, e) := by
  unfold tree_Accepts.f
  refine Ev.bind (pchk_ev a0 a1 l st mk hbig) ?_
  by_cases c : vC a0 a1 l st mk = 0
  · simp only [if_pos c]
    refine Ev.bind (ptree_ev a0 ns) ?_
    by_cases t : vT a0 ns = 0
    · simp only [if_pos t]
      obtain ⟨g1, g2⟩ := h3 c t
      subst g1 g2
      have K := vC_ok c
      obtain ⟨t1, t2, t3⟩ := vT_ok t
      have hs : OkS a1.toNat ns.length (cans a1.toNat l ns) := by
        have := cans_ok a1.toNat l ns [] 0 ⟨rfl, fun j hj => by omega⟩
        rwa [Nat.zero_add] at this
      refine Ev.bind (pstates_ev l st mk ns K.a K.le K.len t2 K.rules t3) ?_
      simp only [hs.len, wm1 ns.length (by omega) (by omega), if_pos (show (0 : Int) ≤ ((ns.length - 1 : Nat) : Int) by omega), if_pos (show ((ns.length - 1 : Nat) : Int) < (ns.length : Int) by omega), rdB, Int.toNat_natCast]
      have hrow := hs.row (ns.length - 1) (by omega)
      have hm := K.mark
      have hA := K.le
      unfold vA
      revert hrow hm hA
      generalize (cans a1.toNat l ns).getD (ns.length - 1) [] = row
      generalize a1.toNat = A
      intro hrow hm hA
      rw [hrow]
      refine evc (anyN_ev A (pq row mk) (true, 0) (false, 0) (fun k i => tree_Accepts.l0 k row (A : Int) i a0 a1 l st mk) ?_ ?_ ?_) (by split <;> rfl)
      · intro q hq h
        unfold pq at h
        rw [Bool.and_eq_true, decide_eq_true_iff] at h
        refine Ev.step (fun k => by rw [tree_Accepts.l0]) ?_
        simp only [hrow, hm, rdN, rdb, Int.toNat_natCast, if_pos (show (q : Int) < (A : Int) by omega), if_pos (show (0 : Int) ≤ (q : Int) by omega), if_pos h.1, if_pos h.2]
        exact Ev.now _
      · intro q hq h r hr
        unfold pq at h
        refine Ev.step (fun k => by rw [tree_Accepts.l0]) ?_
        simp only [hrow, hm, rdN, rdb, Int.toNat_natCast, if_pos (show (q : Int) < (A : Int) by omega), if_pos (show (0 : Int) ≤ (q : Int) by omega), w1 q (by omega)]
        cases g : row.getD q false with
        | false => simp only [if_neg nft]; exact hr
        | true =>
          rw [g, Bool.true_and] at h
          simp only [if_true, if_neg (of_decide_eq_false h)]
          exact hr
      · intro _
        refine Ev.step (fun k => by rw [tree_Accepts.l0]) ?_
        simp only [if_neg (show ¬ (A : Int) < (A : Int) by omega)]
        exact Ev.now _
    · simp only [if_neg t]
      obtain ⟨g1, g2⟩ := h2 c t
      rw [g1, g2]; exact Ev.now _
  · simp only [if_neg c]
    obtain ⟨g1, g2⟩ := h1 c
    rw [g1, g2]; exact Ev.now _
theorem TreeAccepts : evermorelaw_TreeAccepts.PureH := by
  intro a0 a1 l st mk ns lt hp _ _
  obtain ⟨_, _, _, _, hb, hb2, _⟩ := hp
  have hbig : mk.length ≤ 4611686018427387904 := by omega
  have fin : ∀ (b : Bool) (e : Int), (vC a0 a1 l st mk ≠ 0 → b = false ∧ e = vC a0 a1 l st mk) → (vC a0 a1 l st mk = 0 → vT a0 ns ≠ 0 → b = false ∧ e = vT a0 ns) → (vC a0 a1 l st mk = 0 → vT a0 ns = 0 → b = vA a1.toNat l mk ns ∧ e = 0) →
      Ev (fun k => if vC a0 a1 l st mk = vC a0 a1 l st mk then evermorelaw_TreeAccepts.j0 k (vC a0 a1 l st mk) b e (vT lt ns != vT lt ns) a0 a1 l st mk ns else evermorelaw_TreeAccepts.j0 k (vC a0 a1 l st mk) b e true a0 a1 l st mk ns) true := by
    intro b e f1 f2 f3
    simp only [if_true]
    refine Ev.step (fun k => by rw [evermorelaw_TreeAccepts.j0]) ?_
    simp only [bne_self_eq_false, if_neg nft]
    by_cases c : vC a0 a1 l st mk = 0
    · simp only [if_pos c]
      refine Ev.bind (rtree_ev a0 ns) ?_
      by_cases t : vT a0 ns = 0
      · simp only [if_pos t]
        obtain ⟨g1, g2⟩ := f3 c t
        subst g1 g2
        have K := vC_ok c
        obtain ⟨t1, t2, t3⟩ := vT_ok t
        refine Ev.bind (racc_ev l st mk ns K.a K.le K.len t1 t2 K.mark K.rules t3) ?_
        simp only [if_true, beq_self_eq_true]
        exact Ev.now _
      · obtain ⟨g1, g2⟩ := f2 c t
        subst g1 g2
        simp only [if_neg t, if_true]
        exact Ev.now _
    · obtain ⟨g1, g2⟩ := f1 c
      subst g1 g2
      simp only [if_neg c, if_true]
      exact Ev.now _
  refine Ev.rounds ?_
  unfold evermorelaw_TreeAccepts.f
  refine Ev.bind (pchk_ev a0 a1 l st mk hbig) ?_
  refine Ev.bind (rchk_ev a0 a1 l st mk) ?_
  refine Ev.bind (ptree_ev lt ns) ?_
  refine Ev.bind (rtree_ev lt ns) ?_
  by_cases c : vC a0 a1 l st mk = 0
  · by_cases t : vT a0 ns = 0
    · exact Ev.bind (pacc_ev a0 a1 l st mk ns hbig (vA a1.toNat l mk ns) 0 (fun h => absurd c h) (fun _ h => absurd t h) (fun _ _ => ⟨rfl, rfl⟩)) (fin _ _ (fun h => absurd c h) (fun _ h => absurd t h) (fun _ _ => ⟨rfl, rfl⟩))
    · exact Ev.bind (pacc_ev a0 a1 l st mk ns hbig false (vT a0 ns) (fun h => absurd c h) (fun _ _ => ⟨rfl, rfl⟩) (fun _ h => absurd h t)) (fin _ _ (fun h => absurd c h) (fun _ _ => ⟨rfl, rfl⟩) (fun _ h => absurd h t))
  · exact Ev.bind (pacc_ev a0 a1 l st mk ns hbig false (vC a0 a1 l st mk) (fun _ => ⟨rfl, rfl⟩) (fun h => absurd h c) (fun h => absurd h c)) (fin _ _ (fun _ => ⟨rfl, rfl⟩) (fun h => absurd h c) (fun h => absurd h c))

end Go.Proofs.Yteacnmjinjaapaa.Pure
