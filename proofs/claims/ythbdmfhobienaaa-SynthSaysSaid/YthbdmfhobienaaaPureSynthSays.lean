/- For every machine and whatever it hears the program says what the reference says. No conditions beyond the statement's. -/
import Derived.Test.YthbdmfhobienaaaPSynthSaysx4
import Derived.Test.YthbdmfhobienaaaQSynthSays
namespace Go.Proofs.Ythbdmfhobienaaa.Pure
open Go.RowKit Go.Proofs.Ythbdmfhobienaaa.PSynthSays Go.Proofs.YthbdmfhobienaaaW.PrintWords Go.Proofs.YthbdmfhobienaaaW.PrintLast Go.Proofs.YthbdmfhobienaaaW.PrintMore
set_option linter.unusedVariables false
set_option linter.unusedSimpArgs false
theorem w64 {n : Int} (h : -9223372036854775808 ≤ n) (h' : n ≤ 9223372036854775807) : wrap64 n = n := by unfold wrap64; omega
theorem rdn (l : List Int) (i : Nat) (h : i < l.length) : rd l (i : Int) = l[i] := by
  unfold rd; rw [Int.toNat_natCast, List.getD_eq_getElem?_getD, List.getElem?_eq_getElem h]; rfl
theorem rdOfn {α : Type} (d : α) (l : List α) (i : Nat) (h : i < l.length) : rdOf d l (i : Int) = l[i] := by
  unfold rdOf; rw [Int.toNat_natCast, List.getD_eq_getElem?_getD, List.getElem?_eq_getElem h]; rfl
theorem evc {α : Type} {g : Nat → Option α} {a b : α} (h : Ev g a) (e : a = b) : Ev g b := e ▸ h
theorem rdN (l : List Int) (n : Nat) : rd l (n : Int) = l.getD n 0 := by unfold rd; rw [Int.toNat_natCast]
theorem w1 (i : Nat) (h : i ≤ 9223372036854775000) : wrap64 ((i : Int) + 1) = ((i + 1 : Nat) : Int) := by rw [w64 (by omega) (by omega)]; omega
theorem getD_mem {α : Type} (l : List α) (n : Nat) (d : α) (h : n < l.length) : l.getD n d ∈ l := by
  rw [List.getD_eq_getElem?_getD, List.getElem?_eq_getElem h]; exact List.getElem_mem h
theorem drop_getD {α : Type} (l : List α) (n : Nat) (d : α) (h : n < l.length) : l.drop n = l.getD n d :: l.drop (n + 1) := by
  rw [List.drop_eq_getElem_cons h, List.getD_eq_getElem?_getD, List.getElem?_eq_getElem h]; rfl
/-- the first place at which p holds, from i on; -1: none -/
def ixf {α : Type} (p : α → Bool) : List α → Nat → Int
  | [], _ => -1
  | x :: xs, i => if p x = true then (i : Int) else ixf p xs (i + 1)
theorem ixf_any {α : Type} (p : α → Bool) : ∀ (xs : List α) (i : Nat), decide (ixf p xs i ≥ 0) = xs.any p
  | [], _ => by simp [ixf]
  | x :: xs, i => by
    have ih := ixf_any p xs (i + 1)
    by_cases h : p x = true
    · rw [ixf, if_pos h, List.any_cons, h]
      simp
    · rw [ixf, if_neg h, List.any_cons, ih]
      simp [h]
/-- a loop over a list that ends at the first element of which p holds -/
theorem anyL_ev {α R : Type} (d0 : α) (xs : List α) (p : α → Bool) (a b : R) (L : Nat → Int → Option R)
    (hstop : ∀ i : Nat, i < xs.length → p (xs.getD i d0) = true → Ev (fun k => L k (i : Int)) a)
    (hgo : ∀ i : Nat, i < xs.length → p (xs.getD i d0) = false → ∀ r, Ev (fun k => L k ((i + 1 : Nat) : Int)) r → Ev (fun k => L k (i : Int)) r)
    (hend : xs.any p = false → Ev (fun k => L k (xs.length : Int)) b) : ∀ d i : Nat, i + d = xs.length → ((xs.drop i).any p = false → xs.any p = false) → Ev (fun k => L k (i : Int)) (if (xs.drop i).any p = true then a else b) := by
  intro d
  induction d with
  | zero =>
    intro i hi hp
    rw [List.drop_of_length_le (by omega)] at hp ⊢
    rw [show i = xs.length by omega]
    exact hend (hp rfl)
  | succ d ih =>
    intro i hi hp
    rw [drop_getD xs i d0 (by omega), List.any_cons] at hp ⊢
    cases h : p (xs.getD i d0) with
    | true => exact hstop i (by omega) h
    | false => exact hgo i (by omega) h _ (ih (i + 1) (by omega) (fun e => hp (by rw [h, e]; rfl)))
theorem anyL_ev0 {α R : Type} (d0 : α) (xs : List α) (p : α → Bool) (a b : R) (L : Nat → Int → Option R)
    (hstop : ∀ i : Nat, i < xs.length → p (xs.getD i d0) = true → Ev (fun k => L k (i : Int)) a)
    (hgo : ∀ i : Nat, i < xs.length → p (xs.getD i d0) = false → ∀ r, Ev (fun k => L k ((i + 1 : Nat) : Int)) r → Ev (fun k => L k (i : Int)) r)
    (hend : xs.any p = false → Ev (fun k => L k (xs.length : Int)) b) : Ev (fun k => L k 0) (if xs.any p = true then a else b) := by
  have := anyL_ev d0 xs p a b L hstop hgo hend xs.length 0 (by omega) (fun h => by rwa [List.drop_zero] at h)
  rwa [List.drop_zero] at this
/-- a loop over numbers that ends at the first one of which p holds -/
theorem anyN_ev {R : Type} (n : Nat) (p : Nat → Bool) (a b : R) (L : Nat → Int → Option R)
    (hstop : ∀ i : Nat, i < n → p i = true → Ev (fun k => L k (i : Int)) a)
    (hgo : ∀ i : Nat, i < n → p i = false → ∀ r, Ev (fun k => L k ((i + 1 : Nat) : Int)) r → Ev (fun k => L k (i : Int)) r)
    (hend : (List.range n).any p = false → Ev (fun k => L k (n : Int)) b) : Ev (fun k => L k 0) (if (List.range n).any p = true then a else b) := by
  have e : (List.range n).length = n := List.length_range
  have g : ∀ i, i < n → (List.range n).getD i 0 = i := fun i hi => by rw [List.getD_eq_getElem?_getD, List.getElem?_range hi]; rfl
  exact anyL_ev0 0 (List.range n) p a b L (fun i hi h => by rw [e] at hi; rw [g i hi] at h; exact hstop i hi h) (fun i hi h r hr => by rw [e] at hi; rw [g i hi] at h; exact hgo i hi h r hr) (fun h => by rw [e]; exact hend h)
theorem evs {α : Type} {x : Option α} {r : α} (h : x = some r) : Ev (fun _ => x) r := ⟨0, fun _ _ => h⟩
/-- the first fault -/
def fe (f : Nat → Int) : List Nat → Int
  | [] => 0
  | i :: is => if f i = 0 then fe f is else f i
theorem fe_range (f : Nat → Int) (n : Nat) : ∀ d i, i + d = n → fe f ((List.range n).drop i) = 0 → ∀ j, i ≤ j → j < n → f j = 0 := by
  intro d
  induction d with
  | zero => intro i hi _ j h1 h2; omega
  | succ d ih =>
    intro i hi h j h1 h2
    rw [List.drop_eq_getElem_cons (by rw [List.length_range]; omega), List.getElem_range, fe] at h
    by_cases e : f i = 0
    · rw [if_pos e] at h
      rcases Nat.lt_or_ge i j with hj | hj
      · exact ih (i + 1) (by omega) h j (by omega) h2
      · rw [show j = i by omega]; exact e
    · rw [if_neg e] at h; exact absurd h e
theorem fe_ok {f : Nat → Int} {n : Nat} (h : fe f (List.range n) = 0) : ∀ j, j < n → f j = 0 := fun j hj => fe_range f n n 0 (by omega) (by rwa [List.drop_zero]) j (Nat.zero_le _) hj
/-- a loop over numbers that ends at the first fault -/
theorem feN_ev {R : Type} (n : Nat) (f : Nat → Int) (G : Int → R) (b : R) (hb : G 0 = b) (L : Nat → Int → Option R)
    (hstop : ∀ i : Nat, i < n → f i ≠ 0 → Ev (fun k => L k (i : Int)) (G (f i)))
    (hgo : ∀ i : Nat, i < n → f i = 0 → ∀ r, Ev (fun k => L k ((i + 1 : Nat) : Int)) r → Ev (fun k => L k (i : Int)) r)
    (hend : Ev (fun k => L k (n : Int)) b) : Ev (fun k => L k 0) (G (fe f (List.range n))) := by
  have key : ∀ d i : Nat, i + d = n → Ev (fun k => L k (i : Int)) (G (fe f ((List.range n).drop i))) := by
    intro d
    induction d with
    | zero =>
      intro i hi
      rw [List.drop_of_length_le (by rw [List.length_range]; omega), show i = n by omega, fe, hb]
      exact hend
    | succ d ih =>
      intro i hi
      rw [List.drop_eq_getElem_cons (by rw [List.length_range]; omega), List.getElem_range, fe]
      by_cases e : f i = 0
      · rw [if_pos e]; exact hgo i (by omega) e _ (ih (i + 1) (by omega))
      · rw [if_neg e]; exact hstop i (by omega) e
  have := key n 0 (by omega)
  rwa [List.drop_zero] at this
/-- a row that is filled from the left -/
def fillR {α : Type} (v : Nat → α) (z : α) (n i : Nat) : List α := (List.range i).map v ++ List.replicate (n - i) z
theorem fillR_len {α : Type} (v : Nat → α) (z : α) {n i : Nat} (h : i ≤ n) : (fillR v z n i).length = n := by
  unfold fillR; rw [List.length_append, List.length_map, List.length_range, List.length_replicate]; omega
theorem fillR_set {α : Type} (v : Nat → α) (z : α) {n i : Nat} (h : i < n) (x : α) (hx : x = v i) : (fillR v z n i).set i x = fillR v z n (i + 1) := by
  subst hx
  unfold fillR
  have e : List.replicate (n - i) z = z :: List.replicate (n - (i + 1)) z := by
    rw [show n - i = (n - (i + 1)) + 1 by omega]; rfl
  rw [e, List.range_succ, List.map_append, List.append_assoc, List.set_append_right _ _ (by rw [List.length_map, List.length_range]; omega), List.length_map, List.length_range, Nat.sub_self]
  rfl
theorem fillR_zero {α : Type} (v : Nat → α) (z : α) (n : Nat) : fillR v z n 0 = List.replicate n z := by unfold fillR; rfl
theorem fillR_full {α : Type} (v : Nat → α) (z : α) (n : Nat) : fillR v z n n = (List.range n).map v := by unfold fillR; rw [Nat.sub_self]; simp
theorem getD_mapRange {α : Type} (v : Nat → α) (d : α) {n i : Nat} (h : i < n) : ((List.range n).map v).getD i d = v i := by
  rw [List.getD_eq_getElem?_getD, List.getElem?_map, List.getElem?_range h]; rfl
/-- a loop over numbers that ends at the first one of which p holds, and tells it -/
theorem findN_ev {R : Type} (n : Nat) (p : Nat → Bool) (g : Nat → R) (b : R) (L : Nat → Int → Option R)
    (hstop : ∀ i : Nat, i < n → p i = true → Ev (fun k => L k (i : Int)) (g i))
    (hgo : ∀ i : Nat, i < n → p i = false → ∀ r, Ev (fun k => L k ((i + 1 : Nat) : Int)) r → Ev (fun k => L k (i : Int)) r)
    (hend : Ev (fun k => L k (n : Int)) b) : Ev (fun k => L k 0) (match (List.range n).find? p with | some i => g i | none => b) := by
  have key : ∀ d i : Nat, i + d = n → Ev (fun k => L k (i : Int)) (match ((List.range n).drop i).find? p with | some i => g i | none => b) := by
    intro d
    induction d with
    | zero =>
      intro i hi
      rw [List.drop_of_length_le (by rw [List.length_range]; omega), show i = n by omega]
      exact hend
    | succ d ih =>
      intro i hi
      rw [List.drop_eq_getElem_cons (by rw [List.length_range]; omega), List.getElem_range, List.find?_cons]
      cases e : p i with
      | true => exact hstop i (by omega) e
      | false => exact hgo i (by omega) e _ (ih (i + 1) (by omega))
  have := key n 0 (by omega)
  rwa [List.drop_zero] at this
/-- a loop over a list that carries a state -/
theorem foldL_ev {α σ R : Type} (d0 : α) (xs : List α) (step : σ → α → σ) (I : Nat → σ → Prop) (L : Nat → Int → σ → Option R) (r : R)
    (hgo : ∀ (i : Nat) (s : σ), i < xs.length → I i s → I (i + 1) (step s (xs.getD i d0)) ∧ (Ev (fun k => L k ((i + 1 : Nat) : Int) (step s (xs.getD i d0))) r → Ev (fun k => L k (i : Int) s) r))
    (s0 : σ) (h0 : I 0 s0) (hend : I xs.length (xs.foldl step s0) → Ev (fun k => L k (xs.length : Int) (xs.foldl step s0)) r) : Ev (fun k => L k 0 s0) r := by
  have key : ∀ d i s, i + d = xs.length → I i s → (xs.drop i).foldl step s = xs.foldl step s0 → Ev (fun k => L k (i : Int) s) r := by
    intro d
    induction d with
    | zero =>
      intro i s hi hI hs
      obtain rfl : i = xs.length := by omega
      rw [List.drop_of_length_le (Nat.le_refl _), List.foldl_nil] at hs
      subst hs
      exact hend hI
    | succ d ih =>
      intro i s hi hI hs
      rw [drop_getD xs i d0 (by omega), List.foldl_cons] at hs
      exact (hgo i s (by omega) hI).2 (ih (i + 1) _ (by omega) (hgo i s (by omega) hI).1 hs)
  have := key xs.length 0 s0 (by omega) h0 (by rw [List.drop_zero])
  exact this
theorem wf64 {n : Int} (h : (Lit.int .i64 n).wf = true) : -9223372036854775808 ≤ n ∧ n ≤ 9223372036854775807 := by
  simp [Lit.wf, IntKind.min, IntKind.max, IntKind.signed, IntKind.bits] at h
  omega
theorem rdM (l : List S87) (z : Int) : rd_T87 l z = l.getD z.toNat z87 := by unfold rd_T87; rfl
theorem asel_ (T a b : Int) : asel2 T a b = if T = 0 then a else b := by unfold asel2; rfl
theorem nft : ¬ (false = true) := by decide
theorem tt_ {P : Prop} (h : P) : (true = true) ↔ P := ⟨fun _ => h, fun _ => rfl⟩
theorem ff_ {P : Prop} (h : ¬ P) : (false = true) ↔ P := ⟨fun z => (by cases z), fun z => absurd z h⟩
def nq (n : Int) (q : Int) : Bool := if q < 0 then true else decide (q ≥ n)
def badX (x : Int) : Bool := if x = 0 then false else (x != 1)
def eqR (s : S87) : Bool := s.f0 != s.f1
def badRow (n : Int) (says next : List S87) (i : Nat) : Bool := nq n (next.getD i z87).f0 || (nq n (next.getD i z87).f1 || (badX (says.getD i z87).f0 || badX (says.getD i z87).f1))
def rn (says next : List S87) : List Int → Int → List Int
  | [], _ => []
  | x :: xs, q => (if x = 0 then (says.getD q.toNat z87).f0 else (says.getD q.toNat z87).f1) :: rn says next xs (if x = 0 then (next.getD q.toNat z87).f0 else (next.getD q.toNat z87).f1)
def vH (says next : List S87) (st : Int) (h : List Int) : List Int × Int := if h.length > 60 then ([], 1) else if h.any badX = true then ([], 2) else (rn says next h st, 0)
def vC (first : Bool) (st : Int) (says next : List S87) : Int := if says.length < 1 ∨ says.length > 20000 ∨ next.length ≠ says.length then 1 else if (List.range says.length).any (badRow says.length says next) = true then 2 else if nq says.length st = true then 2 else if (first && says.any eqR) = true then 3 else 0
def vS (first : Bool) (st : Int) (says next : List S87) (h : List Int) : List Int × Int := if vC first st says next = 0 then vH says next st h else ([], vC first st says next)
theorem s1_ev (a n : Int) : synth_Says_1.f a n = some (nq n a) := by unfold synth_Says_1.f nq; split <;> rfl
theorem s2_ev (a : Int) : synth_Says_2.f a = some (badX a) := by unfold synth_Says_2.f badX; split <;> rfl
theorem slices_IndexFunc__synth_Says_2_l0_ev (xs : List (Int))  (p : Int → Bool) (hb : xs.length ≤ 4611686018427387904) (hp : ∀ x ∈ xs, Ev (fun k => synth_Says_2.f x) (p x)) : ∀ d i : Nat, i + d = xs.length → Ev (fun k => slices_IndexFunc__synth_Says_2.l0 k xs (xs.length : Int) (i : Int) ) (ixf p (xs.drop i) i) := by
  intro d
  induction d with
  | zero =>
    intro i hi
    refine Ev.step (fun k => by rw [slices_IndexFunc__synth_Says_2.l0]) ?_
    simp only [if_neg (show ¬ ((i : Int) < (xs.length : Int)) by omega)]
    rw [List.drop_of_length_le (by omega)]
    exact Ev.now _
  | succ d ih =>
    intro i hi
    refine Ev.step (fun k => by rw [slices_IndexFunc__synth_Says_2.l0]) ?_
    have er : rd xs (i : Int) = xs.getD i 0 := by unfold rd; rw [Int.toNat_natCast]
    simp only [if_pos (show ((i : Int) < (xs.length : Int)) by omega), if_pos (show (0 ≤ (i : Int)) by omega), er]
    refine Ev.bind (hp _ (getD_mem xs i _ (by omega))) ?_
    rw [drop_getD xs i 0 (by omega), ixf]
    by_cases h : p (xs.getD i 0) = true
    · simp only [if_pos h]
      exact Ev.now _
    · simp only [if_neg h]
      rw [w1 i (by omega)]
      exact ih (i + 1) (by omega)
theorem slices_IndexFunc__synth_Says_2_ev (xs : List (Int))  (p : Int → Bool) (hb : xs.length ≤ 4611686018427387904) (hp : ∀ x ∈ xs, Ev (fun k => synth_Says_2.f x) (p x)) : Ev (fun k => slices_IndexFunc__synth_Says_2.f k xs ) (ixf p xs 0) := by
  unfold slices_IndexFunc__synth_Says_2.f
  exact slices_IndexFunc__synth_Says_2_l0_ev xs  p hb hp xs.length 0 (by omega)
theorem slices_ContainsFunc__synth_Says_2_ev (xs : List (Int))  (p : Int → Bool) (hb : xs.length ≤ 4611686018427387904) (hp : ∀ x ∈ xs, Ev (fun k => synth_Says_2.f x) (p x)) : Ev (fun k => slices_ContainsFunc__synth_Says_2.f k xs ) (xs.any p) := by
  unfold slices_ContainsFunc__synth_Says_2.f
  refine Ev.bind (slices_IndexFunc__synth_Says_2_ev xs  p hb hp) ?_
  rw [ixf_any]
  exact Ev.now _
theorem slices_IndexFunc__synth_Says_3_l0_ev (xs : List (S87))  (p : S87 → Bool) (hb : xs.length ≤ 4611686018427387904) (hp : ∀ x ∈ xs, Ev (fun k => synth_Says_3.f (x.f0) (x.f1)) (p x)) : ∀ d i : Nat, i + d = xs.length → Ev (fun k => slices_IndexFunc__synth_Says_3.l0 k xs (xs.length : Int) (i : Int) ) (ixf p (xs.drop i) i) := by
  intro d
  induction d with
  | zero =>
    intro i hi
    refine Ev.step (fun k => by rw [slices_IndexFunc__synth_Says_3.l0]) ?_
    simp only [if_neg (show ¬ ((i : Int) < (xs.length : Int)) by omega)]
    rw [List.drop_of_length_le (by omega)]
    exact Ev.now _
  | succ d ih =>
    intro i hi
    refine Ev.step (fun k => by rw [slices_IndexFunc__synth_Says_3.l0]) ?_
    have er : rd_T87 xs (i : Int) = xs.getD i z87 := by unfold rd_T87; rw [Int.toNat_natCast]
    simp only [if_pos (show ((i : Int) < (xs.length : Int)) by omega), if_pos (show (0 ≤ (i : Int)) by omega), er]
    refine Ev.bind (hp _ (getD_mem xs i _ (by omega))) ?_
    rw [drop_getD xs i z87 (by omega), ixf]
    by_cases h : p (xs.getD i z87) = true
    · simp only [if_pos h]
      exact Ev.now _
    · simp only [if_neg h]
      rw [w1 i (by omega)]
      exact ih (i + 1) (by omega)
theorem slices_IndexFunc__synth_Says_3_ev (xs : List (S87))  (p : S87 → Bool) (hb : xs.length ≤ 4611686018427387904) (hp : ∀ x ∈ xs, Ev (fun k => synth_Says_3.f (x.f0) (x.f1)) (p x)) : Ev (fun k => slices_IndexFunc__synth_Says_3.f k xs ) (ixf p xs 0) := by
  unfold slices_IndexFunc__synth_Says_3.f
  exact slices_IndexFunc__synth_Says_3_l0_ev xs  p hb hp xs.length 0 (by omega)
theorem slices_ContainsFunc__synth_Says_3_ev (xs : List (S87))  (p : S87 → Bool) (hb : xs.length ≤ 4611686018427387904) (hp : ∀ x ∈ xs, Ev (fun k => synth_Says_3.f (x.f0) (x.f1)) (p x)) : Ev (fun k => slices_ContainsFunc__synth_Says_3.f k xs ) (xs.any p) := by
  unfold slices_ContainsFunc__synth_Says_3.f
  refine Ev.bind (slices_IndexFunc__synth_Says_3_ev xs  p hb hp) ?_
  rw [ixf_any]
  exact Ev.now _
structure Ok (n : Nat) (says next : List S87) : Prop where
  s : says.length = n
  m : next.length = n
  rows : ∀ i, i < n → (0 ≤ (next.getD i z87).f0 ∧ (next.getD i z87).f0 < (n : Int)) ∧ (0 ≤ (next.getD i z87).f1 ∧ (next.getD i z87).f1 < (n : Int))
theorem nq_f {n q : Int} (h : nq n q = false) : 0 ≤ q ∧ q < n := by
  unfold nq at h
  by_cases h1 : q < 0
  · rw [if_pos h1] at h; cases h
  · rw [if_neg h1] at h; have := of_decide_eq_false h; omega
theorem ok_of {n : Nat} {says next : List S87} (h1 : says.length = n) (h2 : next.length = n) (h : (List.range n).any (badRow n says next) = false) : Ok n says next := by
  refine ⟨h1, h2, fun i hi => ?_⟩
  rw [List.any_eq_false] at h
  have := Bool.eq_false_iff.2 (h i (List.mem_range.2 hi))
  unfold badRow at this
  rw [Bool.or_eq_false_iff, Bool.or_eq_false_iff] at this
  exact ⟨nq_f this.1, nq_f this.2.1⟩
theorem badX_f {x : Int} (h : badX x = false) : x = 0 ∨ x = 1 := by
  unfold badX at h
  by_cases h0 : x = 0
  · exact .inl h0
  · rw [if_neg h0, bne_eq_false_iff_eq] at h; exact .inr h
theorem nextq {n : Nat} {says next : List S87} (K : Ok n says next) (x q : Int) (h0 : 0 ≤ q) (h1 : q < (n : Int)) : 0 ≤ (if x = 0 then (next.getD q.toNat z87).f0 else (next.getD q.toNat z87).f1) ∧ (if x = 0 then (next.getD q.toNat z87).f0 else (next.getD q.toNat z87).f1) < (n : Int) := by
  have := K.rows q.toNat (by omega)
  split
  · exact this.1
  · exact this.2
theorem prun {n : Nat} {first : Bool} {st : Int} {says next : List S87} (K : Ok n says next) (h : List Int) (hl : h.length ≤ 60) (hx : h.any badX = false) : ∀ d i (q : Int) (out : List Int), i + d = h.length → 0 ≤ q → q < (n : Int) → out.length = i → Ev (fun k => synth_Says.l1 k out q h (h.length : Int) (i : Int) first st says next) (out ++ rn says next (h.drop i) q, 0) := by
  intro d
  induction d with
  | zero =>
    intro i q out hi _ _ _
    obtain rfl : i = h.length := by omega
    refine Ev.step (fun k => by rw [synth_Says.l1]) ?_
    simp only [if_neg (show ¬ (h.length : Int) < (h.length : Int) by omega)]
    rw [List.drop_of_length_le (Nat.le_refl _), rn, List.append_nil]
    exact Ev.now _
  | succ d ih =>
    intro i q out hi h0 h1 ho
    have hb : badX (h.getD i 0) = false := by
      rw [List.any_eq_false] at hx
      exact Bool.eq_false_iff.2 (hx _ (getD_mem h i 0 (by omega)))
    have h01 := badX_f hb
    refine Ev.step (fun k => by rw [synth_Says.l1]) ?_
    rw [drop_getD h i 0 (by omega), rn]
    simp only [rdN, rdM, asel_, K.s, K.m, w1 i (by omega), if_pos (show (i : Int) < (h.length : Int) by omega), if_pos (show (0 : Int) ≤ (i : Int) by omega), if_pos h0, if_pos h1, if_pos (show 0 ≤ h.getD i 0 by omega), if_pos (show h.getD i 0 < 2 by omega), if_pos (show out.length < 17592186044416 by omega)]
    have g := nextq K (h.getD i 0) q h0 h1
    refine evc (ih (i + 1) _ _ (by omega) g.1 g.2 (by rw [List.length_append, ho]; rfl)) ?_
    rw [List.append_assoc]; rfl
theorem rrun {n : Nat} {first : Bool} {st : Int} {says next : List S87} (K : Ok n says next) (h : List Int) (hl : h.length ≤ 60) (hx : h.any badX = false) : ∀ d i (q : Int) (out : List Int), i + d = h.length → 0 ≤ q → q < (n : Int) → out.length = i → Ev (fun k => evermoreref11_Says.l1 k h out q (i : Int) first st says next) (out ++ rn says next (h.drop i) q, 0) := by
  intro d
  induction d with
  | zero =>
    intro i q out hi _ _ _
    obtain rfl : i = h.length := by omega
    refine Ev.step (fun k => by rw [evermoreref11_Says.l1]) ?_
    simp only [if_neg (show ¬ (h.length : Int) < (h.length : Int) by omega)]
    rw [List.drop_of_length_le (Nat.le_refl _), rn, List.append_nil]
    exact Ev.now _
  | succ d ih =>
    intro i q out hi h0 h1 ho
    have hb : badX (h.getD i 0) = false := by
      rw [List.any_eq_false] at hx
      exact Bool.eq_false_iff.2 (hx _ (getD_mem h i 0 (by omega)))
    have h01 := badX_f hb
    refine Ev.step (fun k => by rw [evermoreref11_Says.l1]) ?_
    rw [drop_getD h i 0 (by omega), rn]
    simp only [rdN, rdM, asel_, K.s, K.m, w1 i (by omega), if_pos (show (i : Int) < (h.length : Int) by omega), if_pos (show (0 : Int) ≤ (i : Int) by omega), if_pos h0, if_pos h1, if_pos (show 0 ≤ h.getD i 0 by omega), if_pos (show h.getD i 0 < 2 by omega), if_pos (show out.length < 17592186044416 by omega)]
    have g := nextq K (h.getD i 0) q h0 h1
    refine evc (ih (i + 1) _ _ (by omega) g.1 g.2 (by rw [List.length_append, ho]; rfl)) ?_
    rw [List.append_assoc]; rfl
theorem ph_ev {n : Nat} {first : Bool} {st : Int} {says next : List S87} (K : Ok n says next) (hst : 0 ≤ st ∧ st < (n : Int)) (h : List Int) (hbig : h.length ≤ 4611686018427387904) (b : Bool) : Ev (fun k => synth_Says.j2 k h b first st says next) (if b = true then ([], 3) else vH says next st h) := by
  refine Ev.step (fun k => by rw [synth_Says.j2]) ?_
  cases b with
  | true => simp only [if_true]; exact Ev.now _
  | false =>
    simp only [if_neg nft]
    unfold vH
    by_cases h1 : h.length > 60
    · simp only [if_pos h1, if_pos (show (h.length : Int) > 60 by omega)]; exact Ev.now _
    simp only [if_neg h1, if_neg (show ¬ (h.length : Int) > 60 by omega)]
    refine Ev.bind (slices_ContainsFunc__synth_Says_2_ev h badX hbig (fun x _ => evs (s2_ev x))) ?_
    cases q : h.any badX with
    | true => simp only [if_true]; exact Ev.now _
    | false =>
      simp only [if_neg nft]
      have := prun (first := first) (st := st) K h (by omega) q h.length 0 st [] (by omega) hst.1 hst.2 rfl
      rwa [List.drop_zero, List.nil_append] at this
theorem psays_ev (first : Bool) (st : Int) (says next : List S87) (h : List Int) (hbig : h.length ≤ 4611686018427387904) (hb2 : says.length ≤ 4611686018427387904) : Ev (fun k => synth_Says.f k first st says next h) (vS first st says next h) := by
  have j0 : ∀ b : Bool, (b = true ↔ (says.length < 1 ∨ says.length > 20000 ∨ next.length ≠ says.length)) → Ev (fun k => synth_Says.j0 k h b first st says next (says.length : Int)) (vS first st says next h) := by
    intro b hb
    refine Ev.step (fun k => by rw [synth_Says.j0]) ?_
    unfold vS vC
    by_cases c : says.length < 1 ∨ says.length > 20000 ∨ next.length ≠ says.length
    · simp only [if_pos c, if_pos (hb.2 c)]; exact Ev.now _
    simp only [if_neg c, if_neg (fun x => c (hb.1 x))]
    have hm : next.length = says.length := by omega
    have e : ∀ v : Int, (if v = 0 then vH says next st h else ([], v)) = (if v = 0 then vH says next st h else ([], v)) := fun _ => rfl
    refine evc (anyN_ev says.length (badRow says.length says next) ([], 2) (if nq says.length st = true then ([], 2) else if (first && says.any eqR) = true then ([], 3) else vH says next st h) (fun k i => synth_Says.l0 k h (says.length : Int) i first st says next (says.length : Int)) ?_ ?_ ?_) ?_
    · intro i hi hbad
      refine Ev.step (fun k => by rw [synth_Says.l0]) ?_
      simp only [rdM, Int.toNat_natCast, hm, s1_ev, s2_ev, Option.bind_some, if_pos (show (i : Int) < (says.length : Int) by omega), if_pos (show (0 : Int) ≤ (i : Int) by omega)]
      unfold badRow at hbad
      cases q1 : nq says.length (next.getD i z87).f0 with
      | true => simp only [if_true]; exact Ev.now _
      | false =>
        simp only [if_neg nft]
        cases q2 : nq says.length (next.getD i z87).f1 with
        | true => simp only [if_true]; exact Ev.now _
        | false =>
          simp only [if_neg nft]
          cases q3 : badX (says.getD i z87).f0 with
          | true => simp only [if_true]; exact Ev.now _
          | false =>
            simp only [if_neg nft]
            cases q4 : badX (says.getD i z87).f1 with
            | true => simp only [if_true]; exact Ev.now _
            | false => rw [q1, q2, q3, q4] at hbad; cases hbad
    · intro i hi hbad r hr
      refine Ev.step (fun k => by rw [synth_Says.l0]) ?_
      unfold badRow at hbad
      rw [Bool.or_eq_false_iff, Bool.or_eq_false_iff, Bool.or_eq_false_iff] at hbad
      simp only [rdM, Int.toNat_natCast, hm, s1_ev, s2_ev, Option.bind_some, if_pos (show (i : Int) < (says.length : Int) by omega), if_pos (show (0 : Int) ≤ (i : Int) by omega), hbad.1, hbad.2.1, hbad.2.2.1, hbad.2.2.2, if_neg nft, w1 i (by omega)]
      exact hr
    · intro hall
      have K := ok_of rfl hm hall
      refine Ev.step (fun k => by rw [synth_Says.l0]) ?_
      simp only [if_neg (show ¬ (says.length : Int) < (says.length : Int) by omega), s1_ev, Option.bind_some]
      cases q : nq says.length st with
      | true => simp only [if_true]; exact Ev.now _
      | false =>
        simp only [if_neg nft]
        have hst := nq_f q
        cases first with
        | true =>
          simp only [if_true, Bool.true_and]
          refine Ev.bind (slices_ContainsFunc__synth_Says_3_ev says eqR hb2 (fun x _ => evs rfl)) ?_
          exact ph_ev K hst h hbig _
        | false =>
          simp only [if_neg nft, Bool.false_and]
          refine evc (ph_ev K hst h hbig false) ?_
          rw [if_neg nft]
    · cases (List.range says.length).any (badRow says.length says next) with
      | true => simp
      | false =>
        simp only [if_neg nft]
        cases nq says.length st with
        | true => simp
        | false =>
          simp only [if_neg nft]
          cases (first && says.any eqR) with
          | true => simp
          | false => simp
  unfold synth_Says.f
  by_cases h1 : (says.length : Int) < 1
  · simp only [if_pos h1]; exact j0 true (tt_ (by omega))
  simp only [if_neg h1]
  by_cases h2 : (says.length : Int) > 20000
  · simp only [if_pos h2]; exact j0 true (tt_ (by omega))
  simp only [if_neg h2]
  exact j0 _ (by rw [bne_iff_ne]; omega)
theorem badX_t (x : Int) : badX x = decide (x < 0 ∨ x > 1) := by
  unfold badX
  by_cases h : x = 0
  · rw [if_pos h, decide_eq_false (by omega)]
  · rw [if_neg h]
    by_cases h1 : x = 1
    · rw [decide_eq_false (by omega), h1]; rfl
    · rw [decide_eq_true (by omega)]; exact bne_iff_ne.2 h1
theorem nq_t (n q : Int) : nq n q = decide (q < 0 ∨ q ≥ n) := by
  unfold nq
  by_cases h : q < 0
  · rw [if_pos h, decide_eq_true (.inl h)]
  · rw [if_neg h, decide_eq_decide]; omega
theorem rchk_ev (first : Bool) (st : Int) (says next : List S87) : Ev (fun k => evermoreref11_Check.f k first st says next) (vC first st says next) := by
  have l2 : says.length ≤ 20000 → Ev (fun k => evermoreref11_Check.l2 k (says.length : Int) 0 first st says next) (if (first && says.any eqR) = true then 3 else 0) := by
    intro hs
    cases first with
    | false =>
      simp only [Bool.false_and, if_neg nft]
      have key : ∀ d i : Nat, i + d = says.length → Ev (fun k => evermoreref11_Check.l2 k (says.length : Int) (i : Int) false st says next) 0 := by
        intro d
        induction d with
        | zero =>
          intro i hi
          refine Ev.step (fun k => by rw [evermoreref11_Check.l2]) ?_
          simp only [if_neg (show ¬ (i : Int) < (says.length : Int) by omega)]
          exact Ev.now _
        | succ d ih =>
          intro i hi
          refine Ev.step (fun k => by rw [evermoreref11_Check.l2]) ?_
          simp only [if_pos (show (i : Int) < (says.length : Int) by omega), if_neg nft, w1 i (by omega)]
          exact ih (i + 1) (by omega)
      exact key says.length 0 (by omega)
    | true =>
      simp only [Bool.true_and]
      refine anyL_ev0 z87 says eqR 3 0 (fun k i => evermoreref11_Check.l2 k (says.length : Int) i true st says next) ?_ ?_ ?_
      · intro i hi h
        refine Ev.step (fun k => by rw [evermoreref11_Check.l2]) ?_
        unfold eqR at h
        rw [bne_iff_ne] at h
        simp only [rdM, Int.toNat_natCast, if_pos (show (i : Int) < (says.length : Int) by omega), if_true, if_pos (show (0 : Int) ≤ (i : Int) by omega), if_neg h]
        exact Ev.now _
      · intro i hi h r hr
        refine Ev.step (fun k => by rw [evermoreref11_Check.l2]) ?_
        unfold eqR at h
        rw [bne_eq_false_iff_eq] at h
        simp only [rdM, Int.toNat_natCast, if_pos (show (i : Int) < (says.length : Int) by omega), if_true, if_pos (show (0 : Int) ≤ (i : Int) by omega), if_pos h, w1 i (by omega)]
        exact hr
      · intro _
        refine Ev.step (fun k => by rw [evermoreref11_Check.l2]) ?_
        simp only [if_neg (show ¬ (says.length : Int) < (says.length : Int) by omega)]
        exact Ev.now _
  have l0 : says.length ≤ 20000 → next.length = says.length → Ev (fun k => evermoreref11_Check.l0 k (says.length : Int) 0 first st says next) (if (List.range says.length).any (badRow says.length says next) = true then 2 else if (first && says.any eqR) = true then 3 else 0) := by
    intro hs hm
    have st_ : ∀ i : Nat, i < says.length → ∀ r : Int, (badRow says.length says next i = true → r = 2) → (badRow says.length says next i = false → Ev (fun k => evermoreref11_Check.l0 k (says.length : Int) ((i + 1 : Nat) : Int) first st says next) r) → Ev (fun k => evermoreref11_Check.l0 k (says.length : Int) (i : Int) first st says next) r := by
      intro i hi r h1 h2
      refine Ev.step (fun k => by rw [evermoreref11_Check.l0]) ?_
      simp only [if_pos (show (i : Int) < (says.length : Int) by omega)]
      unfold badRow at h1 h2
      simp only [badX_t, nq_t] at h1 h2
      refine Ev.step (fun k => by rw [evermoreref11_Check.l1]) ?_
      simp only [rdM, asel_, Int.toNat_natCast, hm, if_pos (show (0 : Int) < 2 by decide), if_pos (show (0 : Int) ≤ (i : Int) by omega), if_pos (show (i : Int) < (says.length : Int) by omega), if_pos (show (0 : Int) ≤ 0 by decide), if_true, show wrap64 (0 + 1) = 1 from w64 (n := 0 + 1) (by decide) (by decide)]
      generalize ha : next.getD i z87 = a at h1 h2 ⊢
      generalize hb : says.getD i z87 = b at h1 h2 ⊢
      have bad : (a.f0 < 0 ∨ a.f0 ≥ (says.length : Int)) ∨ (a.f1 < 0 ∨ a.f1 ≥ (says.length : Int)) ∨ (b.f0 < 0 ∨ b.f0 > 1) ∨ (b.f1 < 0 ∨ b.f1 > 1) → r = 2 := by
        intro h
        refine h1 ?_
        rw [Bool.or_eq_true, Bool.or_eq_true, Bool.or_eq_true, decide_eq_true_iff, decide_eq_true_iff, decide_eq_true_iff, decide_eq_true_iff]
        exact h
      by_cases c1 : a.f0 < 0
      · simp only [if_pos c1]; rw [bad (.inl (.inl c1))]; exact Ev.now _
      by_cases c2 : a.f0 ≥ (says.length : Int)
      · simp only [if_neg c1, if_pos c2]; rw [bad (.inl (.inr c2))]; exact Ev.now _
      by_cases c3 : b.f0 < 0
      · simp only [if_neg c1, if_neg c2, if_pos c3]; rw [bad (.inr (.inr (.inl (.inl c3))))]; exact Ev.now _
      by_cases c4 : b.f0 > 1
      · simp only [if_neg c1, if_neg c2, if_neg c3, if_pos c4]; rw [bad (.inr (.inr (.inl (.inr c4))))]; exact Ev.now _
      simp only [if_neg c1, if_neg c2, if_neg c3, if_neg c4]
      refine Ev.step (fun k => by rw [evermoreref11_Check.l1]) ?_
      simp only [rdM, asel_, Int.toNat_natCast, hm, ha, hb, if_pos (show (1 : Int) < 2 by decide), if_pos (show (0 : Int) ≤ (i : Int) by omega), if_pos (show (i : Int) < (says.length : Int) by omega), if_pos (show (0 : Int) ≤ 1 by decide), if_neg (show ¬ (1 : Int) = 0 by decide), show wrap64 (1 + 1) = 2 from w64 (n := 1 + 1) (by decide) (by decide)]
      by_cases d1 : a.f1 < 0
      · simp only [if_pos d1]; rw [bad (.inr (.inl (.inl d1)))]; exact Ev.now _
      by_cases d2 : a.f1 ≥ (says.length : Int)
      · simp only [if_neg d1, if_pos d2]; rw [bad (.inr (.inl (.inr d2)))]; exact Ev.now _
      by_cases d3 : b.f1 < 0
      · simp only [if_neg d1, if_neg d2, if_pos d3]; rw [bad (.inr (.inr (.inr (.inl d3))))]; exact Ev.now _
      by_cases d4 : b.f1 > 1
      · simp only [if_neg d1, if_neg d2, if_neg d3, if_pos d4]; rw [bad (.inr (.inr (.inr (.inr d4))))]; exact Ev.now _
      simp only [if_neg d1, if_neg d2, if_neg d3, if_neg d4]
      refine Ev.step (fun k => by rw [evermoreref11_Check.l1]) ?_
      simp only [if_neg (show ¬ (2 : Int) < 2 by decide), w1 i (by omega)]
      refine h2 ?_
      rw [Bool.or_eq_false_iff, Bool.or_eq_false_iff, Bool.or_eq_false_iff]
      exact ⟨decide_eq_false (by omega), decide_eq_false (by omega), decide_eq_false (by omega), decide_eq_false (by omega)⟩
    refine anyN_ev says.length (badRow says.length says next) 2 (if (first && says.any eqR) = true then 3 else 0) (fun k i => evermoreref11_Check.l0 k (says.length : Int) i first st says next) ?_ ?_ ?_
    · intro i hi h; exact st_ i hi 2 (fun _ => rfl) (fun e => by rw [e] at h; cases h)
    · intro i hi h r hr; exact st_ i hi r (fun e => by rw [e] at h; cases h) (fun _ => hr)
    · intro _
      refine Ev.step (fun k => by rw [evermoreref11_Check.l0]) ?_
      simp only [if_neg (show ¬ (says.length : Int) < (says.length : Int) by omega)]
      exact l2 hs
  have j1 : says.length ≤ 20000 → next.length = says.length → ∀ b : Bool, (b = true ↔ nq says.length st = true) → Ev (fun k => evermoreref11_Check.j1 k (says.length : Int) b first st says next) (if (List.range says.length).any (badRow says.length says next) = true then 2 else if nq says.length st = true then 2 else if (first && says.any eqR) = true then 3 else 0) := by
    intro hs hm b hb
    refine Ev.step (fun k => by rw [evermoreref11_Check.j1]) ?_
    by_cases h : nq says.length st = true
    · simp only [if_pos (hb.2 h), if_pos h]
      refine evc (Ev.now 2) ?_
      split <;> rfl
    · simp only [if_neg (fun x => h (hb.1 x)), if_neg h]
      exact l0 hs hm
  have j0 : ∀ b : Bool, (b = true ↔ (says.length < 1 ∨ says.length > 20000 ∨ next.length ≠ says.length)) → Ev (fun k => evermoreref11_Check.j0 k (says.length : Int) b first st says next) (vC first st says next) := by
    intro b hb
    refine Ev.step (fun k => by rw [evermoreref11_Check.j0]) ?_
    unfold vC
    by_cases c : says.length < 1 ∨ says.length > 20000 ∨ next.length ≠ says.length
    · simp only [if_pos c, if_pos (hb.2 c)]; exact Ev.now _
    simp only [if_neg c, if_neg (fun x => c (hb.1 x))]
    by_cases h : st < 0
    · simp only [if_pos h]; exact j1 (by omega) (by omega) true (tt_ (by rw [nq_t]; exact decide_eq_true (.inl h)))
    · simp only [if_neg h]; exact j1 (by omega) (by omega) _ (by rw [nq_t, decide_eq_true_iff, decide_eq_true_iff]; omega)
  unfold evermoreref11_Check.f
  by_cases h1 : (says.length : Int) < 1
  · simp only [if_pos h1]; exact j0 true (tt_ (by omega))
  simp only [if_neg h1]
  by_cases h2 : (says.length : Int) > 20000
  · simp only [if_pos h2]; exact j0 true (tt_ (by omega))
  simp only [if_neg h2]
  exact j0 _ (by rw [bne_iff_ne]; omega)
theorem rsays_ev (first : Bool) (st : Int) (says next : List S87) (h : List Int) : Ev (fun k => evermoreref11_Says.f k first st says next h) (vS first st says next h) := by
  unfold evermoreref11_Says.f
  refine Ev.bind (rchk_ev first st says next) ?_
  unfold vS
  by_cases c : vC first st says next = 0
  · simp only [if_pos c]
    have K : Ok says.length says next ∧ (0 ≤ st ∧ st < (says.length : Int)) := by
      unfold vC at c
      by_cases c1 : says.length < 1 ∨ says.length > 20000 ∨ next.length ≠ says.length
      · rw [if_pos c1] at c; exact absurd c (by decide)
      rw [if_neg c1] at c
      by_cases c2 : (List.range says.length).any (badRow says.length says next) = true
      · rw [if_pos c2] at c; exact absurd c (by decide)
      rw [if_neg c2] at c
      by_cases c3 : nq says.length st = true
      · rw [if_pos c3] at c; exact absurd c (by decide)
      exact ⟨ok_of rfl (by omega) (Bool.eq_false_iff.2 c2), nq_f (Bool.eq_false_iff.2 c3)⟩
    unfold vH
    by_cases h1 : h.length > 60
    · simp only [if_pos h1, if_pos (show (h.length : Int) > 60 by omega)]; exact Ev.now _
    simp only [if_neg h1, if_neg (show ¬ (h.length : Int) > 60 by omega)]
    refine anyL_ev0 0 h badX ([], 2) (rn says next h st, 0) (fun k i => evermoreref11_Says.l0 k h i first st says next) ?_ ?_ ?_
    · intro i hi hb
      refine Ev.step (fun k => by rw [evermoreref11_Says.l0]) ?_
      rw [badX_t] at hb
      have := of_decide_eq_true hb
      simp only [rdN, if_pos (show (i : Int) < (h.length : Int) by omega), if_pos (show (0 : Int) ≤ (i : Int) by omega), if_neg (show ¬ h.getD i 0 = 0 by omega), if_neg (show ¬ h.getD i 0 = 1 by omega)]
      exact Ev.now _
    · intro i hi hb r hr
      refine Ev.step (fun k => by rw [evermoreref11_Says.l0]) ?_
      simp only [rdN, if_pos (show (i : Int) < (h.length : Int) by omega), if_pos (show (0 : Int) ≤ (i : Int) by omega), w1 i (by omega)]
      by_cases e : h.getD i 0 = 0
      · simp only [if_pos e]; exact hr
      · have e1 : h.getD i 0 = 1 := (badX_f hb).elim (fun z => absurd z e) id
        simp only [if_neg e, if_pos e1]; exact hr
    · intro hx
      refine Ev.step (fun k => by rw [evermoreref11_Says.l0]) ?_
      simp only [if_neg (show ¬ (h.length : Int) < (h.length : Int) by omega)]
      have := rrun (first := first) (st := st) K.1 h (by omega) hx h.length 0 st [] (by omega) K.2.1 K.2.2 rfl
      rwa [List.drop_zero, List.nil_append] at this
  · simp only [if_neg c]; exact Ev.now _
theorem words_ev (l : List Int) (hl : l.length ≤ 60) : Ev (fun k => evermoreref1_Words.f k l l) true := by
  have key : ∀ d i : Nat, i + d = l.length → Ev (fun k => evermoreref1_Words.l0 k l l (i : Int)) true := by
    intro d
    induction d with
    | zero =>
      intro i hi
      refine Ev.step (fun k => by rw [evermoreref1_Words.l0]) ?_
      simp only [if_neg (show ¬ (i : Int) < (l.length : Int) by omega)]
      exact Ev.now _
    | succ d ih =>
      intro i hi
      refine Ev.step (fun k => by rw [evermoreref1_Words.l0]) ?_
      simp only [if_pos (show (i : Int) < (l.length : Int) by omega), if_pos (show (0 : Int) ≤ (i : Int) by omega), if_true, w1 i (by omega)]
      exact ih (i + 1) (by omega)
  unfold evermoreref1_Words.f
  simp only [if_true]
  exact key l.length 0 (by omega)
theorem rn_len (says next : List S87) : ∀ (h : List Int) (q : Int), (rn says next h q).length = h.length
  | [], _ => rfl
  | x :: h, q => by rw [rn, List.length_cons, List.length_cons, rn_len says next h]
theorem vS_len (first : Bool) (st : Int) (says next : List S87) (h : List Int) : (vS first st says next h).1.length ≤ 60 := by
  unfold vS vH
  split
  · split
    · exact Nat.zero_le _
    · split
      · exact Nat.zero_le _
      · show (rn says next h st).length ≤ 60
        rw [rn_len]; omega
  · exact Nat.zero_le _
theorem SynthSays : evermorelaw_SynthSays.PureH := by
  intro first st says next h hp hq
  obtain ⟨_, _, hb, _⟩ := hp
  refine Ev.rounds ?_
  unfold evermorelaw_SynthSays.f
  refine Ev.bind (psays_ev first st says next h (by omega) (by omega)) ?_
  refine Ev.bind (rsays_ev first st says next h) ?_
  refine Ev.bind (words_ev _ (vS_len first st says next h)) ?_
  simp only [if_true]
  exact Ev.now _

end Go.Proofs.Ythbdmfhobienaaa.Pure
