import Derived.Test.YtaaibckhpbmbeaaGWordTells
set_option linter.unusedVariables false
namespace Go.Proofs.YtaaibckhpbmbeaaSx.Lasso
/-- The letter of a lasso at a place. -/
def letter (h l : List Int) (n : Nat) : Int := if n < h.length then h.getD n 0 else l.getD ((n - h.length) % l.length) 0
def Per (w : Nat → Int) (m q : Nat) : Prop := ∀ i, m ≤ i → w (i + q) = w i

theorem Per.mul {w : Nat → Int} {m q : Nat} (h : Per w m q) (c : Nat) : Per w m (q * c) := by
  induction c with
  | zero => intro i _; rfl
  | succ c ih => intro i hi; rw [Nat.mul_succ, ← Nat.add_assoc, h _ (by omega), ih i hi]

theorem Per.mod {w : Nat → Int} {m p q : Nat} (hp : Per w m p) (hq : Per w m q) : Per w m (q % p) := by
  intro i hi
  have := hp.mul (q / p) (i + q % p) (by omega)
  rw [Nat.add_assoc, Nat.mod_add_div, hq i hi] at this
  exact this.symm

theorem Per.gcd {w : Nat → Int} {m : Nat} : ∀ p q, Per w m p → Per w m q → Per w m (Nat.gcd p q) := by
  intro p q
  induction p, q using Nat.gcd.induction with
  | H0 n => intro _ h; rw [Nat.gcd_zero_left]; exact h
  | H1 p q hp ih => intro h1 h2; rw [Nat.gcd_rec]; exact ih (h1.mod h2) h1

theorem letter_per (h l : List Int) : Per (letter h l) h.length l.length := by
  intro i hi
  simp only [letter, if_neg (show ¬ i < h.length by omega), if_neg (show ¬ i + l.length < h.length by omega)]
  rw [show i + l.length - h.length = (i - h.length) + l.length by omega, Nat.add_mod_right]

/-- A period from anywhere on is one of the loop. -/
theorem per_back {h l : List Int} (hl : 0 < l.length) {M q : Nat} (hq : Per (letter h l) M q) : Per (letter h l) h.length q := by
  intro i hi
  have hM : M ≤ l.length * M := Nat.le_mul_of_pos_left _ hl
  have h1 := (letter_per h l).mul M (i + q) (by omega)
  have h2 := (letter_per h l).mul M i hi
  rw [← h1, ← h2, show i + q + l.length * M = i + l.length * M + q by omega]
  exact hq _ (by omega)

/-- What the search for a period tells. -/
structure IsPer (l : List Int) (p : Nat) : Prop where
  pos : 0 < p
  le : p ≤ l.length
  dvd : p ∣ l.length
  eq : l.drop p = l.take (l.length - p)
  least : ∀ n, 0 < n → n < p → n ∣ l.length → l.drop n ≠ l.take (l.length - n)

theorem getD_drop (l : List Int) (p j : Nat) : (l.drop p).getD j 0 = l.getD (p + j) 0 := by simp [List.getD]
theorem getD_take (l : List Int) (p j : Nat) (h : j < p) : (l.take p).getD j 0 = l.getD j 0 := by
  simp [List.getD, h]

theorem eq_getD {l : List Int} {p : Nat} (h : l.drop p = l.take (l.length - p)) (j : Nat) (hj : j + p < l.length) : l.getD (j + p) 0 = l.getD j 0 := by
  rw [Nat.add_comm, ← getD_drop, h, getD_take _ _ _ (by omega)]

theorem getD_mod {l : List Int} {p : Nat} (hp : 0 < p) (h : l.drop p = l.take (l.length - p)) : ∀ j, j < l.length → l.getD j 0 = l.getD (j % p) 0 := by
  intro j
  induction j using Nat.strongRecOn with
  | _ j ih =>
    intro hj
    by_cases hjp : j < p
    · rw [Nat.mod_eq_of_lt hjp]
    · have := eq_getD h (j - p) (by omega)
      rw [show j - p + p = j by omega] at this
      rw [this, ih (j - p) (by omega) (by omega), Nat.mod_eq_sub_mod (by omega : p ≤ j)]

theorem IsPer.per {h l : List Int} {p : Nat} (H : IsPer l p) : Per (letter h l) h.length p := by
  have hp := H.pos; have hl := H.le
  have key : ∀ t, l.getD (t % l.length) 0 = l.getD (t % p) 0 := by
    intro t
    rw [getD_mod H.pos H.eq _ (Nat.mod_lt _ (by omega)), Nat.mod_mod_of_dvd _ H.dvd]
  intro i hi
  simp only [letter, if_neg (show ¬ i < h.length by omega), if_neg (show ¬ i + p < h.length by omega), key]
  rw [show i + p - h.length = (i - h.length) + p by omega, Nat.add_mod_right]

theorem letter_loop (h l : List Int) (j : Nat) (hj : j < l.length) : letter h l (h.length + j) = l.getD j 0 := by
  simp only [letter, if_neg (show ¬ h.length + j < h.length by omega)]
  rw [show h.length + j - h.length = j by omega, Nat.mod_eq_of_lt hj]

theorem ext_getD {a b : List Int} (h : a.length = b.length) (e : ∀ j, j < a.length → a.getD j 0 = b.getD j 0) : a = b := by
  apply List.ext_getElem h
  intro j h1 h2
  have := e j h1
  simpa [List.getD, h1, h2] using this

theorem IsPer.min {h l : List Int} {p : Nat} (H : IsPer l p) {M q : Nat} (hq0 : 0 < q) (hq : Per (letter h l) M q) : p ≤ q := by
  have hp := H.pos; have hl := H.le
  have h1 := per_back (by omega) hq
  have h2 := Per.gcd q l.length h1 (letter_per h l)
  have hg0 : 0 < Nat.gcd q l.length := Nat.gcd_pos_of_pos_left _ hq0
  have hgq : Nat.gcd q l.length ≤ q := Nat.le_of_dvd hq0 (Nat.gcd_dvd_left _ _)
  by_cases hlt : Nat.gcd q l.length < p
  · refine absurd ?_ (H.least _ hg0 hlt (Nat.gcd_dvd_right _ _))
    generalize hgg : Nat.gcd q l.length = g at h2 hg0 hlt
    apply ext_getD (by simp)
    intro j hj
    simp only [List.length_drop] at hj
    rw [getD_drop, getD_take _ _ _ (by omega), ← letter_loop h l _ (by omega), ← letter_loop h l j (by omega), show h.length + (g + j) = (h.length + j) + g by omega]
    exact h2 _ (by omega)
  · omega

/-- The normal form: head length m, loop length p. -/
structure Norm (h l : List Int) (m p : Nat) : Prop where
  pos : 0 < p
  le : m ≤ h.length
  per : Per (letter h l) m p
  stop : m = 0 ∨ letter h l (m - 1) ≠ letter h l (m - 1 + p)
  least : ∀ M q, 0 < q → Per (letter h l) M q → p ≤ q

def headOf (h : List Int) (m : Nat) : List Int := h.take m
def loopOf (h l : List Int) (m p : Nat) : List Int := (List.range p).map fun j => letter h l (m + j)

theorem loopOf_length (h l : List Int) (m p : Nat) : (loopOf h l m p).length = p := by simp [loopOf]
theorem loopOf_getD (h l : List Int) (m p j : Nat) (hj : j < p) : (loopOf h l m p).getD j 0 = letter h l (m + j) := by simp [loopOf, List.getD, hj]
theorem headOf_getD (h l : List Int) (m j : Nat) (hj : j < m) (hm : m ≤ h.length) : (headOf h m).getD j 0 = letter h l j := by
  rw [headOf, getD_take _ _ _ hj, letter, if_pos (by omega)]

theorem Norm.same {h l h' l' : List Int} {m p m' p' : Nat} (A : Norm h l m p) (B : Norm h' l' m' p') :
    (headOf h m = headOf h' m' ∧ loopOf h l m p = loopOf h' l' m' p') ↔ ∀ i, letter h l i = letter h' l' i := by
  constructor
  · rintro ⟨e1, e2⟩
    have em : m = m' := by
      have := congrArg List.length e1
      simp only [headOf, List.length_take] at this
      have := A.le; have := B.le; omega
    have ep : p = p' := by have := congrArg List.length e2; simpa only [loopOf_length] using this
    subst em ep
    intro i
    induction i using Nat.strongRecOn with
    | _ i ih =>
      by_cases h1 : i < m
      · rw [← headOf_getD h l m i h1 A.le, ← headOf_getD h' l' m i h1 B.le, e1]
      · by_cases h2 : i < m + p
        · have := congrArg (fun x => x.getD (i - m) 0) e2
          rw [loopOf_getD _ _ _ _ _ (by omega), loopOf_getD _ _ _ _ _ (by omega), show m + (i - m) = i by omega] at this
          exact this
        · have hp := A.pos
          have a := A.per (i - p) (by omega)
          have b := B.per (i - p) (by omega)
          rw [show i - p + p = i by omega] at a b
          rw [a, b]; exact ih _ (by omega)
  · intro e
    have ew : letter h l = letter h' l' := funext e
    have A2 := A.per; have A3 := A.stop; have A4 := A.least
    have B2 := B.per; have B3 := B.stop; have B4 := B.least
    rw [ew] at A2 A3 A4
    have ep : p = p' := Nat.le_antisymm (A4 _ _ B.pos B2) (B4 _ _ A.pos A2)
    subst ep
    have em : m = m' := by
      have a : ¬ m < m' := by
        intro hlt
        rcases B3 with h0 | h0
        · omega
        · exact h0 (A2 _ (by omega)).symm
      have b : ¬ m' < m := by
        intro hlt
        rcases A3 with h0 | h0
        · omega
        · exact h0 (B2 _ (by omega)).symm
      omega
    subst em
    refine ⟨?_, by rw [loopOf, loopOf, ew]⟩
    have := A.le; have := B.le
    apply ext_getD
    · simp only [headOf, List.length_take]; omega
    · intro j hj
      simp only [headOf, List.length_take] at hj
      rw [headOf_getD h l m j (by omega) A.le, headOf_getD h' l' m j (by omega) B.le, e]

/-- As far as both rounds together is as far as ever. -/
theorem far {h l h' l' : List Int} (hl : 0 < l.length) (hl' : 0 < l'.length) (e : ∀ i, i < h.length + h'.length + l.length + l'.length → letter h l i = letter h' l' i) : ∀ i, letter h l i = letter h' l' i := by
  intro i
  induction i using Nat.strongRecOn with
  | _ i ih =>
    by_cases hi : i < h.length + h'.length + l.length + l'.length
    · exact e i hi
    · have a := letter_per h l (i - l.length) (by omega)
      have b := letter_per h' l' (i - l'.length) (by omega)
      have c := letter_per h l (i - l'.length - l.length) (by omega)
      have d := letter_per h' l' (i - l'.length - l.length) (by omega)
      rw [show i - l.length + l.length = i by omega] at a
      rw [show i - l'.length + l'.length = i by omega] at b
      rw [show i - l'.length - l.length + l.length = i - l'.length by omega] at c
      rw [show i - l'.length - l.length + l'.length = i - l.length by omega] at d
      rw [a, b, ih _ (by omega), d, ← ih (i - l'.length) (by omega), c, ih _ (by omega)]
end Go.Proofs.YtaaibckhpbmbeaaSx.Lasso
namespace Go.Proofs.YtaaibckhpbmbeaaSx.Lasso
theorem wr (n : Int) (h0 : -9223372036854775808 ≤ n) (h1 : n < 9223372036854775808) : IntKind.i64.wrap n = n := by rw [IntKind.wrap_i64]; omega
theorem wrS (i : Nat) (h : i < 1000000) : IntKind.i64.wrap ((i : Int) + 1) = ((i + 1 : Nat) : Int) := by rw [wr] <;> omega
theorem rdI (w : List Int) (i : Nat) : rd (Int.ofNat 0) w (i : Int) = w.getD i 0 := by simp [rd]
theorem drop_cons (w : List Int) (i : Nat) (h : i < w.length) : w.drop i = w.getD i 0 :: w.drop (i + 1) := by
  rw [List.drop_eq_getElem_cons h]; simp [List.getD, h]

def badL (c : Int) (a : Int) : Bool := decide (a < 0) || decide (c ≤ a)
def mayN (c : Int) (w : List Int) : Int := if c < 1 then 2 else if 4 < c then 2 else if 60 < w.length then 1 else if w.any (badL c) = true then 2 else 0

theorem may_l6 (c : Int) (w : List Int) (hw : w.length ≤ 60) : ∀ n i k, w.length - i = n → n < k → i ≤ w.length → word_May.l6 k c w (w.length : Int) (i : Int) = some (if (w.drop i).any (badL c) = true then 2 else 0) := by
  intro n
  induction n with
  | zero =>
    intro i k hn hk hi
    obtain ⟨k, rfl⟩ : ∃ k', k = k' + 1 := ⟨k - 1, by omega⟩
    rw [word_May.l6, if_neg (by omega), List.drop_eq_nil_of_le (by omega)]; rfl
  | succ n ih =>
    intro i k hn hk hi
    obtain ⟨k, rfl⟩ : ∃ k', k = k' + 1 := ⟨k - 1, by omega⟩
    rw [word_May.l6, if_pos (by omega), if_pos (by omega), if_pos (by omega), rdI, drop_cons w i (by omega), List.any_cons, wrS i (by omega), ih (i + 1) k (by omega) (by omega) (by omega)]
    generalize w.getD i 0 = a
    by_cases h1 : a < 0
    · simp [badL, h1]
    · by_cases h2 : c ≤ a
      · simp [badL, h2]
      · simp [badL, h1, h2]
theorem rmay_l6 (c : Int) (w : List Int) (hw : w.length ≤ 60) : ∀ n i k, w.length - i = n → n < k → i ≤ w.length → evermoreref1_May.l6 k c w (i : Int) = some (if (w.drop i).any (badL c) = true then 2 else 0) := by
  intro n
  induction n with
  | zero =>
    intro i k hn hk hi
    obtain ⟨k, rfl⟩ : ∃ k', k = k' + 1 := ⟨k - 1, by omega⟩
    rw [evermoreref1_May.l6, if_neg (by omega), List.drop_eq_nil_of_le (by omega)]; rfl
  | succ n ih =>
    intro i k hn hk hi
    obtain ⟨k, rfl⟩ : ∃ k', k = k' + 1 := ⟨k - 1, by omega⟩
    rw [evermoreref1_May.l6, if_pos (by omega), if_pos (by omega), if_pos (by omega), if_pos (show 0 ≤ (i : Int) by omega), if_pos (show (i : Int) < (w.length : Int) by omega), rdI, drop_cons w i (by omega), List.any_cons, wrS i (by omega), ih (i + 1) k (by omega) (by omega) (by omega)]
    generalize w.getD i 0 = a
    by_cases h1 : a < 0
    · simp [badL, h1]
    · by_cases h2 : c ≤ a
      · simp [badL, h2]
      · simp [badL, h1, h2]
theorem may_f (k : Nat) (hk : 61 ≤ k) (c : Int) (w : List Int) : word_May.f k c w = some (mayN c w) := by
  simp only [word_May.f, mayN]
  split
  · rfl
  · split
    · rfl
    · by_cases h : 60 < w.length
      · rw [if_pos (by omega), if_pos h]
      · rw [if_neg (by omega), if_neg h]
        exact may_l6 c w (by omega) _ 0 k rfl (by omega) (by omega)
theorem rmay_f (k : Nat) (hk : 61 ≤ k) (c : Int) (w : List Int) : evermoreref1_May.f k c w = some (mayN c w) := by
  simp only [evermoreref1_May.f, mayN]
  split
  · rfl
  · split
    · rfl
    · by_cases h : 60 < w.length
      · rw [if_pos (by omega), if_pos h]
      · rw [if_neg (by omega), if_neg h]
        exact rmay_l6 c w (by omega) _ 0 k rfl (by omega) (by omega)

def lassoN (c : Int) (h l : List Int) : Int := if mayN c h = 0 then (if mayN c l = 0 then (if l.length = 0 then 1 else 0) else mayN c l) else mayN c h
theorem lasso_f (k : Nat) (hk : 64 ≤ k) (c : Int) (h l : List Int) : word_Lasso.f k c (h, l, ()) = some (lassoN c h l) := by
  obtain ⟨k, rfl⟩ : ∃ k', k = k' + 3 := ⟨k - 3, by omega⟩
  simp only [word_Lasso.f]
  rw [word_Lasso.l2, if_pos (by decide), if_pos (by decide), if_pos (by decide)]
  show (word_May.f (k + 2) c h).bind _ = _
  rw [may_f _ (by omega), Option.bind_some, lassoN]
  by_cases h1 : mayN c h = 0
  · rw [if_pos h1, if_pos h1, show IntKind.i64.wrap (0 + 1) = 1 from wr _ (by decide) (by decide)]
    rw [word_Lasso.l2, if_pos (by decide), if_pos (by decide), if_pos (by decide)]
    show (word_May.f (k + 1) c l).bind _ = _
    rw [may_f _ (by omega), Option.bind_some]
    by_cases h2 : mayN c l = 0
    · rw [if_pos h2, if_pos h2, show IntKind.i64.wrap (1 + 1) = 2 from wr _ (by decide) (by decide)]
      rw [word_Lasso.l2, if_neg (by decide)]
      by_cases h3 : l.length = 0
      · rw [if_pos (by omega), if_pos h3]
      · rw [if_neg (by omega), if_neg h3]
    · rw [if_neg h2, if_neg h2]
  · rw [if_neg h1, if_neg h1]
theorem rlasso_f (k : Nat) (hk : 61 ≤ k) (c : Int) (h l : List Int) : evermoreref1_Lasso.f k c (h, l, ()) = some (lassoN c h l) := by
  simp only [evermoreref1_Lasso.f]
  rw [rmay_f _ hk, Option.bind_some, lassoN]
  by_cases h1 : mayN c h = 0
  · rw [if_pos h1, if_pos h1, rmay_f _ hk, Option.bind_some]
    by_cases h2 : mayN c l = 0
    · rw [if_pos h2, if_pos h2]
      by_cases h3 : l.length = 0
      · rw [if_pos (by omega), if_pos h3]
      · rw [if_neg (by omega), if_neg h3]
    · rw [if_neg h2, if_neg h2]
  · rw [if_neg h1, if_neg h1]
theorem lasso_ok {c : Int} {h l : List Int} (e : lassoN c h l = 0) : h.length ≤ 60 ∧ 0 < l.length ∧ l.length ≤ 60 := by
  have m : ∀ w, mayN c w = 0 → w.length ≤ 60 := by
    intro w hw
    simp only [mayN] at hw
    repeat' split at hw
    all_goals first | omega | (exfalso; revert hw; decide)
  simp only [lassoN] at e
  by_cases h1 : mayN c h = 0
  · rw [if_pos h1] at e
    by_cases h2 : mayN c l = 0
    · rw [if_pos h2] at e
      by_cases h3 : l.length = 0
      · rw [if_pos h3] at e; exact absurd e (by decide)
      · exact ⟨m _ h1, by omega, m _ h2⟩
    · rw [if_neg h2] at e; exact absurd e h2
  · rw [if_neg h1] at e; exact absurd e h1

theorem at_f (k : Nat) (h l : List Int) (hh : h.length ≤ 60) (hl : 0 < l.length) (hl' : l.length ≤ 60) (n : Nat) (hn : (n : Int) < 9223372036854775808) : word_at.f k (h, l, ()) (n : Int) = some (letter h l n) := by
  simp only [word_at.f, letter]
  by_cases h1 : n < h.length
  · rw [if_pos (by omega), if_pos (by omega), if_pos (by omega), if_pos h1, rdI]
  · rw [if_neg (by omega), if_neg (by omega), if_neg h1]
    have e : (IntKind.i64.wrap ((n : Int) - (h.length : Int))).tmod (l.length : Int) = (((n - h.length) % l.length : Nat) : Int) := by
      rw [wr _ (by omega) (by omega), show (n : Int) - (h.length : Int) = ((n - h.length : Nat) : Int) by omega]; rfl
    have lt := Nat.mod_lt (n - h.length) hl
    simp only [e]
    rw [if_pos (by omega), if_pos (by omega), rdI]
theorem rat_eq : @evermoreref1_At.f = @word_at.f := rfl

theorem equal_l4 (a b : List Int) (ha : a.length ≤ 60) (hb : a.length = b.length) : ∀ n i k, a.length - i = n → n < k → i ≤ a.length → slices_Equal___int_int_.l4 k a b (a.length : Int) (i : Int) = some (decide (a.drop i = b.drop i)) := by
  intro n
  induction n with
  | zero =>
    intro i k hn hk hi
    obtain ⟨k, rfl⟩ : ∃ k', k = k' + 1 := ⟨k - 1, by omega⟩
    rw [slices_Equal___int_int_.l4, if_neg (by omega), List.drop_eq_nil_of_le (by omega), List.drop_eq_nil_of_le (by omega)]; rfl
  | succ n ih =>
    intro i k hn hk hi
    obtain ⟨k, rfl⟩ : ∃ k', k = k' + 1 := ⟨k - 1, by omega⟩
    rw [slices_Equal___int_int_.l4, if_pos (by omega), if_pos (by omega), if_pos (by omega), if_pos (by omega), if_pos (by omega), rdI, rdI, drop_cons a i (by omega), drop_cons b i (by omega), wrS i (by omega), ih (i + 1) k (by omega) (by omega) (by omega)]
    by_cases h1 : a.getD i 0 = b.getD i 0
    · rw [if_pos h1]; simp only [List.cons.injEq, h1, true_and]
    · rw [if_neg h1]; simp only [List.cons.injEq, h1, false_and, decide_false]
theorem equal_f (k : Nat) (hk : 61 ≤ k) (a b : List Int) (ha : a.length ≤ 60) : slices_Equal___int_int_.f k a b = some (decide (a = b)) := by
  simp only [slices_Equal___int_int_.f]
  by_cases h : a.length = b.length
  · rw [if_pos (by omega)]
    exact equal_l4 a b ha h _ 0 k rfl (by omega) (by omega)
  · rw [if_neg (by omega), decide_eq_false (fun e => h (congrArg _ e))]
end Go.Proofs.YtaaibckhpbmbeaaSx.Lasso
namespace Go.Proofs.YtaaibckhpbmbeaaSx.Lasso
theorem clone_f (k : Nat) (a : List Int) (ha : a.length ≤ 1000) : slices_Clone___int_int_.f k a = some a := by
  rw [slices_Clone___int_int_.f, if_pos]
  show Nat.blt a.length 1000000000 = true
  exact Nat.ble_eq_true_of_le (by omega)

theorem period_l2 (l : List Int) (hl : 0 < l.length) (hl' : l.length ≤ 60) : ∀ n i k, l.length - i = n → n + 62 < k → i ≤ l.length →
    (∀ m, 0 < m → m < i → m ∣ l.length → l.drop m ≠ l.take (l.length - m)) → ∃ p, IsPer l p ∧ word_period.l2 k l (l.length : Int) (i : Int) = some (l.take p) := by
  intro n
  induction n with
  | zero =>
    intro i k hn hk hi hle
    obtain ⟨k, rfl⟩ : ∃ k', k = k' + 1 := ⟨k - 1, by omega⟩
    refine ⟨l.length, ⟨hl, Nat.le_refl _, Nat.dvd_refl _, by simp, fun m h0 h1 h2 => hle m h0 (by omega) h2⟩, ?_⟩
    rw [word_period.l2, if_neg (by omega), List.take_length]
  | succ n ih =>
    intro i k hn hk hi hle
    obtain ⟨k, rfl⟩ : ∃ k', k = k' + 1 := ⟨k - 1, by omega⟩
    rw [word_period.l2, if_pos (by omega), wrS i (by omega)]
    by_cases h0 : 0 < i
    · rw [if_pos (by omega), if_neg (by omega), show (l.length : Int).tmod (i : Int) = ((l.length % i : Nat) : Int) from rfl]
      by_cases h1 : l.length % i = 0
      · rw [if_pos (by omega), if_pos (by omega), if_pos (by omega), if_pos (by omega), if_pos (by decide), wr _ (by omega) (by omega), if_pos (by omega), if_pos (by omega)]
        rw [show ((l.length : Int) - (i : Int)).toNat - Int.toNat 0 = l.length - i by simp, show (l.length : Int).toNat - (i : Int).toNat = l.length - i by simp, show List.drop (Int.toNat 0) l = l from rfl, show (i : Int).toNat = i by simp]
        rw [equal_f _ (by omega) _ _ (by simp; omega), Option.bind_some]
        by_cases h2 : List.take (l.length - i) (l.drop i) = List.take (l.length - i) l
        · rw [if_pos (by rw [h2]; simp), if_pos (by decide), if_pos (by omega), if_pos (by omega)]
          rw [List.take_of_length_le (by simp)] at h2
          exact ⟨i, ⟨h0, by omega, Nat.dvd_of_mod_eq_zero h1, h2, hle⟩, rfl⟩
        · rw [if_neg (by simp [h2])]
          refine ih (i + 1) k (by omega) (by omega) (by omega) fun m hm0 hm1 hm2 => ?_
          by_cases hmi : m = i
          · subst hmi
            intro e; apply h2; rw [List.take_of_length_le (by simp)]; exact e
          · exact hle m hm0 (by omega) hm2
      · rw [if_neg (by omega)]
        refine ih (i + 1) k (by omega) (by omega) (by omega) fun m hm0 hm1 hm2 => ?_
        by_cases hmi : m = i
        · subst hmi; exact absurd (Nat.mod_eq_zero_of_dvd hm2) h1
        · exact hle m hm0 (by omega) hm2
    · rw [if_neg (by omega)]
      exact ih (i + 1) k (by omega) (by omega) (by omega) fun m hm0 hm1 hm2 => hle m hm0 (by omega) hm2
theorem period_f (k : Nat) (hk : 130 ≤ k) (l : List Int) (hl : 0 < l.length) (hl' : l.length ≤ 60) : ∃ p, IsPer l p ∧ word_period.f k l = some (l.take p) :=
  period_l2 l hl hl' _ 0 k rfl (by omega) (by omega) (fun m h0 h1 => by omega)

theorem turn_eq (h l : List Int) (m p : Nat) (hp : 0 < p) (hm : 0 < m) :
    ((cpy (loopOf h l m p) (loopOf h l m p) (Int.toNat 1) (((loopOf h l m p).length : Int).toNat - Int.toNat 1)).set (Int.toNat 0) (letter h l (m - 1))) = loopOf h l (m - 1) p := by
  obtain ⟨q, rfl⟩ : ∃ q, p = q + 1 := ⟨p - 1, by omega⟩
  obtain ⟨m, rfl⟩ : ∃ q, m = q + 1 := ⟨m - 1, by omega⟩
  simp only [loopOf_length, cpy]
  rw [show ((q + 1 : Nat) : Int).toNat - Int.toNat 1 = q by simp, show Int.toNat 1 = 1 from rfl, show Int.toNat 0 = 0 from rfl]
  have e : List.drop (1 + min (q + 1) q) (loopOf h l (m + 1) (q + 1)) = [] := by apply List.drop_eq_nil_of_le; rw [loopOf_length]; omega
  rw [e, List.append_nil]
  apply ext_getD
  · simp [loopOf_length]; omega
  · intro j hj
    have hj' : j < q + 1 := by simp [loopOf_length] at hj; omega
    rw [loopOf_getD _ _ _ _ _ hj']
    cases j with
    | zero => simp [loopOf, List.range_succ_eq_map, List.getD]
    | succ j =>
      have a : (List.take 1 (loopOf h l (m + 1) (q + 1)) ++ List.take q (loopOf h l (m + 1) (q + 1))).set 0 (letter h l (m + 1 - 1)) = letter h l m :: List.take q (loopOf h l (m + 1) (q + 1)) := by
        simp [loopOf, List.range_succ_eq_map]
      rw [a]
      show (List.take q (loopOf h l (m + 1) (q + 1))).getD j 0 = _
      rw [getD_take _ _ _ (by omega), loopOf_getD _ _ _ _ _ (by omega)]
      congr 1; omega

theorem normal_l2 (h l : List Int) (p : Nat) (hh : h.length ≤ 60) (hl : 0 < l.length) (hl' : l.length ≤ 60) (hp : 0 < p) (hp' : p ≤ 60) (hle : ∀ M q, 0 < q → Per (letter h l) M q → p ≤ q) : ∀ m k, m ≤ h.length → m < k → Per (letter h l) m p →
    ∃ m', Norm h l m' p ∧ word_normal.l2 k h l (headOf h m) (loopOf h l m p) [] [] = some (headOf h m', loopOf h l m' p) := by
  intro m
  induction m with
  | zero =>
    intro k hm hk hper
    obtain ⟨k, rfl⟩ : ∃ k', k = k' + 1 := ⟨k - 1, by omega⟩
    refine ⟨0, ⟨hp, by omega, hper, .inl rfl, hle⟩, ?_⟩
    rw [word_normal.l2, if_neg (by simp [headOf])]
  | succ m ih =>
    intro k hm hk hper
    obtain ⟨k, rfl⟩ : ∃ k', k = k' + 1 := ⟨k - 1, by omega⟩
    have hL : ((headOf h (m + 1)).length : Int) = ((m + 1 : Nat) : Int) := by simp [headOf]; omega
    have hP : (loopOf h l (m + 1) p).length = p := loopOf_length ..
    have e1 : IntKind.i64.wrap (((m + 1 : Nat) : Int) - 1) = (m : Int) := by rw [wr] <;> omega
    have e2 : IntKind.i64.wrap ((p : Int) - 1) = ((p - 1 : Nat) : Int) := by rw [wr] <;> omega
    rw [word_normal.l2]
    simp only [hL, hP, e1, e2]
    rw [if_pos (by omega), if_pos (by omega), if_pos (by omega), if_pos (by omega), if_pos (by omega)]
    have g1 : (headOf h (m + 1)).getD ((m : Nat) : Int).toNat (Int.ofNat 0) = letter h l m := by
      rw [show ((m : Nat) : Int).toNat = m by simp]; exact headOf_getD h l (m + 1) m (by omega) (by omega)
    have g2 : (loopOf h l (m + 1) p).getD ((p - 1 : Nat) : Int).toNat (Int.ofNat 0) = letter h l (m + p) := by
      rw [show ((p - 1 : Nat) : Int).toNat = p - 1 by simp]
      refine (loopOf_getD h l (m + 1) p (p - 1) (by omega)).trans ?_
      congr 1; omega
    rw [g1, g2]
    by_cases hc : letter h l m = letter h l (m + p)
    · rw [if_pos hc, if_pos (by decide), if_pos (by omega), if_pos (by omega), if_pos (by decide), if_pos (by omega), if_pos (by omega)]
      rw [clone_f _ _ (by rw [hP]; omega), Option.bind_some]
      rw [show (((m : Nat) : Int).toNat - Int.toNat 0 : Nat) = m by simp, at_f _ h l hh hl hl' m (by omega), Option.bind_some]
      have t := turn_eq h l (m + 1) p hp (by omega)
      rw [hP] at t
      rw [show m + 1 - 1 = m by omega] at t
      rw [if_pos (by decide), if_pos, t]
      · have hper' : Per (letter h l) m p := by
          intro i hi
          by_cases him : i = m
          · subst him; exact hc.symm
          · exact hper i (by omega)
        have := ih k (by omega) (by omega) hper'
        have eh : List.take m (List.drop (Int.toNat 0) (headOf h (m + 1))) = headOf h m := by
          show List.take m (List.take (m + 1) h) = List.take m h
          rw [List.take_take]; congr 1; omega
        rw [eh]; exact this
      · have := congrArg List.length t
        rw [List.length_set, loopOf_length] at this
        rw [this]; omega
    · rw [if_neg hc]
      exact ⟨m + 1, ⟨hp, by omega, hper, .inr (by rw [show m + 1 - 1 = m by omega]; exact hc), hle⟩, rfl⟩
theorem normal_f (k : Nat) (hk : 130 ≤ k) (h l : List Int) (hh : h.length ≤ 60) (hl : 0 < l.length) (hl' : l.length ≤ 60) :
    ∃ m p, Norm h l m p ∧ word_normal.f k (h, l, ()) = some (headOf h m, loopOf h l m p) := by
  obtain ⟨p, Hp, e⟩ := period_f k hk l hl hl'
  have := Hp.pos; have := Hp.le
  obtain ⟨m, hm, em⟩ := normal_l2 h l p hh hl hl' Hp.pos (by omega) (fun M q => Hp.min) h.length k (Nat.le_refl _) (by omega) Hp.per
  refine ⟨m, p, hm, ?_⟩
  simp only [word_normal.f]
  rw [clone_f _ _ (by omega), Option.bind_some, e, Option.bind_some, clone_f _ _ (by rw [List.length_take]; omega), Option.bind_some]
  have e1 : headOf h h.length = h := List.take_length
  have e2 : loopOf h l h.length p = l.take p := by
    apply ext_getD
    · rw [loopOf_length, List.length_take]; omega
    · intro j hj
      rw [loopOf_length] at hj
      rw [loopOf_getD _ _ _ _ _ hj, letter_loop _ _ _ (by omega), getD_take _ _ _ hj]
  rw [e1, e2] at em
  exact em
end Go.Proofs.YtaaibckhpbmbeaaSx.Lasso
namespace Go.Proofs.YtaaibckhpbmbeaaSx.Lasso
/-- The two answers on two lassos. -/
theorem same_f (k : Nat) (hk : 140 ≤ k) (h l h' l' : List Int) :
    ∃ b : Bool, word_Same.f k (h, l, ()) (h', l', ()) = some (if lassoN 4 h l = 0 then (if lassoN 4 h' l' = 0 then (b, 0) else (false, lassoN 4 h' l')) else (false, lassoN 4 h l)) ∧
      (lassoN 4 h l = 0 → lassoN 4 h' l' = 0 → (b = true ↔ ∀ i, letter h l i = letter h' l' i)) := by
  obtain ⟨k, rfl⟩ : ∃ k', k = k' + 3 := ⟨k - 3, by omega⟩
  simp only [word_Same.f]
  rw [show (([((h, l, ()) : List Int × List Int × Unit), (h', l', ())].length : Nat) : Int) = 2 from rfl, word_Same.l2, if_pos (by decide), if_pos (by decide), if_pos (by simp)]
  rw [show ((([((h, l, ()) : List Int × List Int × Unit), (h', l', ())].getD (Int.toNat 0) ([], [], ())).fst, ([((h, l, ()) : List Int × List Int × Unit), (h', l', ())].getD (Int.toNat 0) ([], [], ())).snd.fst, ()) : List Int × List Int × Unit) = (h, l, ()) from rfl]
  rw [show Int.ofNat 4 = 4 from rfl, lasso_f _ (by omega), Option.bind_some]
  by_cases h1 : lassoN 4 h l = 0
  · simp only [if_pos h1]
    rw [show IntKind.i64.wrap (0 + 1) = 1 from wr _ (by decide) (by decide)]
    rw [word_Same.l2, if_pos (by decide), if_pos (by decide), if_pos (by simp)]
    rw [show ((([((h, l, ()) : List Int × List Int × Unit), (h', l', ())].getD (Int.toNat 1) ([], [], ())).fst, ([((h, l, ()) : List Int × List Int × Unit), (h', l', ())].getD (Int.toNat 1) ([], [], ())).snd.fst, ()) : List Int × List Int × Unit) = (h', l', ()) from rfl]
    rw [show Int.ofNat 4 = 4 from rfl, lasso_f _ (by omega), Option.bind_some]
    by_cases h2 : lassoN 4 h' l' = 0
    · simp only [if_pos h2]
      rw [show IntKind.i64.wrap (1 + 1) = 2 from wr _ (by decide) (by decide)]
      rw [word_Same.l2, if_neg (by decide)]
      obtain ⟨a1, a2, a3⟩ := lasso_ok h1
      obtain ⟨b1, b2, b3⟩ := lasso_ok h2
      obtain ⟨m, p, A, ea⟩ := normal_f k (by omega) h l a1 a2 a3
      obtain ⟨m', p', B, eb⟩ := normal_f k (by omega) h' l' b1 b2 b3
      have key := Norm.same A B
      have hh : (headOf h m).length ≤ 60 := by rw [headOf, List.length_take]; omega
      have hp : p ≤ 60 := Nat.le_trans (A.least _ _ a2 (letter_per h l)) a3
      rw [ea, Option.bind_some, eb, Option.bind_some, equal_f _ (by omega) _ _ hh, Option.bind_some]
      by_cases e1 : headOf h m = headOf h' m'
      · rw [if_pos (decide_eq_true e1), equal_f _ (by omega) _ _ (by rw [loopOf_length]; exact hp), Option.bind_some]
        exact ⟨_, rfl, fun _ _ => by rw [decide_eq_true_iff, ← key]; exact ⟨fun q => ⟨e1, q⟩, fun q => q.2⟩⟩
      · rw [if_neg (by rw [decide_eq_true_iff]; exact e1)]
        exact ⟨false, rfl, fun _ _ => by rw [← key]; exact ⟨fun q => absurd q (by decide), fun q => absurd q.1 e1⟩⟩
    · simp only [if_neg h2]
      exact ⟨false, trivial, fun _ q => absurd q h2⟩
  · simp only [if_neg h1]
    exact ⟨false, trivial, fun q => absurd q h1⟩

theorem rsame_l3 (h l h' l' : List Int) (a1 : h.length ≤ 60) (a2 : 0 < l.length) (a3 : l.length ≤ 60) (b1 : h'.length ≤ 60) (b2 : 0 < l'.length) (b3 : l'.length ≤ 60) (N : Nat) (hN : N ≤ 240) :
    ∀ n i k, N - i = n → n < k → i ≤ N → ∃ b : Bool, evermoreref1_Same.l3 k (N : Int) (i : Int) h l h' l' = some b ∧ (b = true ↔ ∀ j, i ≤ j → j < N → letter h l j = letter h' l' j) := by
  intro n
  induction n with
  | zero =>
    intro i k hn hk hi
    obtain ⟨k, rfl⟩ : ∃ k', k = k' + 1 := ⟨k - 1, by omega⟩
    rw [evermoreref1_Same.l3, if_neg (by omega)]
    exact ⟨true, rfl, fun _ j h1 h2 => by omega, fun _ => rfl⟩
  | succ n ih =>
    intro i k hn hk hi
    obtain ⟨k, rfl⟩ : ∃ k', k = k' + 1 := ⟨k - 1, by omega⟩
    rw [evermoreref1_Same.l3, if_pos (by omega), rat_eq, at_f _ h l a1 a2 a3 i (by omega), Option.bind_some, at_f _ h' l' b1 b2 b3 i (by omega), Option.bind_some]
    by_cases e : letter h l i = letter h' l' i
    · rw [if_pos e, wrS i (by omega)]
      obtain ⟨b, q1, q2⟩ := ih (i + 1) k (by omega) (by omega) (by omega)
      refine ⟨b, q1, q2.trans ⟨fun q j h1 h2 => ?_, fun q j h1 h2 => q j (by omega) h2⟩⟩
      by_cases hj : j = i
      · rw [hj]; exact e
      · exact q j (by omega) h2
    · rw [if_neg e]
      exact ⟨false, rfl, fun q => absurd q (by decide), fun q => absurd (q i (Nat.le_refl _) (by omega)) e⟩
theorem rsame_f (k : Nat) (hk : 241 ≤ k) (h l h' l' : List Int) (a1 : h.length ≤ 60) (a2 : 0 < l.length) (a3 : l.length ≤ 60) (b1 : h'.length ≤ 60) (b2 : 0 < l'.length) (b3 : l'.length ≤ 60) :
    ∃ b : Bool, evermoreref1_Same.f k (h, l, ()) (h', l', ()) = some b ∧ (b = true ↔ ∀ i, letter h l i = letter h' l' i) := by
  obtain ⟨b, q1, q2⟩ := rsame_l3 h l h' l' a1 a2 a3 b1 b2 b3 (h.length + h'.length + l.length + l'.length) (by omega) _ 0 k rfl (by omega) (by omega)
  refine ⟨b, ?_, q2.trans ⟨fun q => far a2 b2 fun i hi => q i (by omega) hi, fun q j _ _ => q j⟩⟩
  simp only [evermoreref1_Same.f]
  rw [wr (((h.length : Int) + (h'.length : Int))) (by omega) (by omega), wr ((h.length : Int) + (h'.length : Int) + (l.length : Int)) (by omega) (by omega), wr ((h.length : Int) + (h'.length : Int) + (l.length : Int) + (l'.length : Int)) (by omega) (by omega)]
  rw [show (h.length : Int) + (h'.length : Int) + (l.length : Int) + (l'.length : Int) = ((h.length + h'.length + l.length + l'.length : Nat) : Int) by omega]
  exact q1

theorem j19_f (k : Nat) (hk : 241 ≤ k) (h l h' l' : List Int) : evermorelaw_WordTells.j19 (k + 1) (lassoN 4 h l) (lassoN 4 h' l') h l h' l' = some true := by
  rw [evermorelaw_WordTells.j19]
  obtain ⟨b, e, hb⟩ := same_f k (by omega) h l h' l'
  rw [e, Option.bind_some]
  by_cases h1 : lassoN 4 h l = 0
  · by_cases h2 : lassoN 4 h' l' = 0
    · obtain ⟨a1, a2, a3⟩ := lasso_ok h1
      obtain ⟨b1, b2, b3⟩ := lasso_ok h2
      obtain ⟨c, e', hc⟩ := rsame_f k hk h l h' l' a1 a2 a3 b1 b2 b3
      simp only [if_pos h1, if_pos h2]
      rw [e', Option.bind_some, if_pos trivial]
      have : b = c := by
        have := (hb h1 h2).trans hc.symm
        cases b <;> cases c <;> simp_all
      rw [this]; simp
    · simp only [if_pos h1, if_neg h2]
      simp
  · simp only [if_neg h1]
    simp

theorem WordTells : evermorelaw_WordTells.PureH := by
  rintro c w ⟨h, l, ⟨⟩⟩ ⟨h', l', ⟨⟩⟩ n hc hw ha hb hn
  refine ⟨1000, ?_⟩
  have hn' : -9223372036854775808 ≤ n ∧ n < 9223372036854775808 := by
    have : (Lit.int .i64 n).wf = true := hn
    simp [Lit.wf, IntKind.min, IntKind.max, IntKind.signed, IntKind.bits] at this
    omega
  simp only [evermorelaw_WordTells.f, word_At.f]
  rw [show Int.ofNat 4 = 4 from rfl]
  rw [may_f _ (by omega), Option.bind_some, rmay_f _ (by omega), Option.bind_some, lasso_f _ (by omega), Option.bind_some, rlasso_f _ (by omega), Option.bind_some, if_pos rfl, if_pos rfl]
  rw [rlasso_f _ (by omega), Option.bind_some, rlasso_f _ (by omega), Option.bind_some, lasso_f _ (by omega), Option.bind_some]
  by_cases h1 : lassoN 4 h l = 0
  · obtain ⟨a1, a2, a3⟩ := lasso_ok h1
    rw [if_pos h1]
    by_cases h2 : n < 0
    · rw [if_pos h2, Option.bind_some, if_pos h1, if_pos h2, if_pos rfl, if_pos rfl]
      exact j19_f 999 (by omega) h l h' l'
    · obtain ⟨n, rfl⟩ : ∃ m : Nat, n = (m : Int) := ⟨n.toNat, by omega⟩
      rw [if_neg h2, at_f _ h l a1 a2 a3 n (by omega), Option.bind_some, Option.bind_some, if_pos h1, if_neg h2, rat_eq, at_f _ h l a1 a2 a3 n (by omega), Option.bind_some, if_pos rfl, if_pos rfl]
      exact j19_f 999 (by omega) h l h' l'
  · rw [if_neg h1, Option.bind_some, if_neg h1, if_pos rfl, if_pos rfl]
    exact j19_f 999 (by omega) h l h' l'
end Go.Proofs.YtaaibckhpbmbeaaSx.Lasso
namespace Go.Proofs.Ytaaibckhpbmbeaa
theorem Pure.WordTells : Go.Proofs.YtaaibckhpbmbeaaSx.evermorelaw_WordTells.PureH := Go.Proofs.YtaaibckhpbmbeaaSx.Lasso.WordTells
end Go.Proofs.Ytaaibckhpbmbeaa
