/- For every morphism and bound the first square that the program finds is the reference's, or there is none for both. No conditions beyond the statement's. -/
import Derived.Test.YthbdmfhobienaaaPSeqsSquaresx7
import Derived.Test.YthbdmfhobienaaaQSeqsSquares
namespace Go.Proofs.Ythbdmfhobienaaa.Pure
open Go.RowKit Go.Proofs.Ythbdmfhobienaaa.PSeqsSquares Go.Proofs.YthbdmfhobienaaaW.PrintWords Go.Proofs.YthbdmfhobienaaaW.PrintLast Go.Proofs.YthbdmfhobienaaaW.PrintMore
set_option linter.unusedVariables false
set_option linter.unusedSimpArgs false
theorem w64 {n : Int} (h : -9223372036854775808 ≤ n) (h' : n ≤ 9223372036854775807) : wrap64 n = n := by unfold wrap64; omega
theorem rdn (l : List Int) (i : Nat) (h : i < l.length) : rd l (i : Int) = l[i] := by
  unfold rd; rw [Int.toNat_natCast, List.getD_eq_getElem?_getD, List.getElem?_eq_getElem h]; rfl
theorem rdOfn {α : Type} (d : α) (l : List α) (i : Nat) (h : i < l.length) : rdOf d l (i : Int) = l[i] := by
  unfold rdOf; rw [Int.toNat_natCast, List.getD_eq_getElem?_getD, List.getElem?_eq_getElem h]; rfl
theorem evc {α : Type} {g : Nat → Option α} {a b : α} (h : Ev g a) (e : a = b) : Ev g b := e ▸ h
theorem rdL (l : List (List Int)) (n : Nat) : rd_L1 l (n : Int) = l.getD n [] := by unfold rd_L1; rw [Int.toNat_natCast]
theorem rdN (l : List Int) (n : Nat) : rd l (n : Int) = l.getD n 0 := by unfold rd; rw [Int.toNat_natCast]
theorem w1 (i : Nat) (h : i ≤ 9223372036854775000) : wrap64 ((i : Int) + 1) = ((i + 1 : Nat) : Int) := by rw [w64 (by omega) (by omega)]; omega
theorem getD_mem {α : Type} (l : List α) (n : Nat) (d : α) (h : n < l.length) : l.getD n d ∈ l := by
  rw [List.getD_eq_getElem?_getD, List.getElem?_eq_getElem h]; exact List.getElem_mem h
theorem drop_getD {α : Type} (l : List α) (n : Nat) (d : α) (h : n < l.length) : l.drop n = l.getD n d :: l.drop (n + 1) := by
  rw [List.drop_eq_getElem_cons h, List.getD_eq_getElem?_getD, List.getElem?_eq_getElem h]; rfl
/-- what may be a morphism -/
structure MOk (base : Int) (imgs : List (List Int)) (cod : List Int) : Prop where
  b2 : 2 ≤ base
  b4 : base ≤ 4
  n1 : 1 ≤ imgs.length
  n4 : imgs.length ≤ 4
  cl : cod.length = imgs.length
  rl : ∀ r ∈ imgs, (r.length : Int) = base
  rb : ∀ r ∈ imgs, ∀ b ∈ r, 0 ≤ b ∧ b < (imgs.length : Int)
  cb : ∀ i, i < imgs.length → 0 ≤ cod.getD i 0 ∧ cod.getD i 0 ≤ 9
  z : (imgs.getD 0 []).getD 0 0 = 0
theorem anyrange (p : Nat → Bool) : ∀ d i n : Nat, i + d = n → ((List.range' i d).any p = true ↔ ∃ j, i ≤ j ∧ j < n ∧ p j = true) := by
  intro d i n h
  simp only [List.any_eq_true, List.mem_range'_1]
  constructor
  · rintro ⟨j, ⟨h1, h2⟩, h3⟩; exact ⟨j, h1, by omega, h3⟩
  · rintro ⟨j, h1, h2, h3⟩; exact ⟨j, ⟨h1, by omega⟩, h3⟩
theorem refCheck_l2 (base : Int) (imgs : List (List Int)) (cod : List Int) (hn : imgs.length ≤ 4) (hb : base ≤ 4) (hc : cod.length = imgs.length) (a : Nat) (ha : a < imgs.length) (hr : ((imgs.getD a []).length : Int) = base) (Z : Int)
    (cont : seqs_Check.rowBad imgs.length imgs cod a = false → Ev (fun k => evermoreref23_Check.l1 k (imgs.length : Int) ((a + 1 : Nat) : Int) base imgs cod) Z) :
    ∀ d i : Nat, i + d = (imgs.getD a []).length → ((imgs.getD a []).take i).any (seqs_Check.bad imgs.length) = false →
      Ev (fun k => evermoreref23_Check.l2 k (imgs.length : Int) (a : Int) (i : Int) base imgs cod) (if seqs_Check.rowBad imgs.length imgs cod a = true then 2 else Z) := by
  intro d
  induction d with
  | zero =>
    intro i hi hp
    refine Ev.step (fun k => by rw [evermoreref23_Check.l2]) ?_
    rw [w1 a (by omega)]
    simp only [rdL, rdN, if_neg (show ¬ ((i : Int) < base) by omega), if_pos (show 0 ≤ (a : Int) by omega), if_pos (show (a : Int) < (cod.length : Int) by omega)]
    rw [List.take_of_length_le (by omega)] at hp
    by_cases h1 : cod.getD a 0 < 0
    · simp only [if_pos h1]
      exact evc (Ev.now 2) (by rw [if_pos (by unfold seqs_Check.rowBad; rw [rdN, decide_eq_true h1, Bool.or_true, Bool.true_or])])
    · simp only [if_neg h1]
      by_cases h2 : cod.getD a 0 > 9
      · simp only [if_pos h2]
        exact evc (Ev.now 2) (by rw [if_pos (by unfold seqs_Check.rowBad; rw [rdN, decide_eq_true h2, Bool.or_true])])
      · simp only [if_neg h2]
        have hf : seqs_Check.rowBad imgs.length imgs cod a = false := by
          unfold seqs_Check.rowBad
          rw [rdN, hp, decide_eq_false h1, decide_eq_false h2]
          rfl
        exact evc (cont hf) (by rw [hf]; rfl)
  | succ d ih =>
    intro i hi hp
    refine Ev.step (fun k => by rw [evermoreref23_Check.l2]) ?_
    rw [w1 i (by omega)]
    have hil : i < (imgs.getD a []).length := by omega
    simp only [rdL, rdN, if_pos (show ((i : Int) < base) by omega), if_pos (show 0 ≤ (a : Int) by omega), if_pos (show (a : Int) < (imgs.length : Int) by omega), if_pos (show 0 ≤ (i : Int) by omega), if_pos (show (i : Int) < ((imgs.getD a []).length : Int) by omega)]
    have hb : seqs_Check.bad imgs.length ((imgs.getD a []).getD i 0) = true → seqs_Check.rowBad imgs.length imgs cod a = true := by
      intro h
      unfold seqs_Check.rowBad
      rw [show (imgs.getD a []).any (seqs_Check.bad imgs.length) = true from List.any_eq_true.2 ⟨_, getD_mem _ _ _ hil, h⟩]
      rfl
    by_cases h1 : (imgs.getD a []).getD i 0 < 0
    · simp only [if_pos h1]
      exact evc (Ev.now 2) (by rw [if_pos (hb (by unfold seqs_Check.bad; rw [decide_eq_true h1]; rfl))])
    · simp only [if_neg h1]
      by_cases h2 : (imgs.getD a []).getD i 0 ≥ (imgs.length : Int)
      · simp only [if_pos h2]
        exact evc (Ev.now 2) (by rw [if_pos (hb (by unfold seqs_Check.bad; rw [decide_eq_true h2, Bool.or_true]))])
      · simp only [if_neg h2]
        refine ih (i + 1) (by omega) ?_
        rw [List.take_succ_eq_append_getElem hil, List.any_append, hp]
        have : (imgs.getD a [])[i] = (imgs.getD a []).getD i 0 := by rw [List.getD_eq_getElem?_getD (l := imgs.getD a []), List.getElem?_eq_getElem hil]; rfl
        rw [List.any_cons, this]
        unfold seqs_Check.bad
        rw [decide_eq_false h1, decide_eq_false h2]
        rfl
theorem refCheck_l1 (base : Int) (imgs : List (List Int)) (cod : List Int) (hn : imgs.length ≤ 4) (hn1 : 1 ≤ imgs.length) (hb : base ≤ 4) (hb2 : 2 ≤ base) (hc : cod.length = imgs.length) (hr : ∀ a, a < imgs.length → ((imgs.getD a []).length : Int) = base) :
    ∀ d a : Nat, a + d = imgs.length → Ev (fun k => evermoreref23_Check.l1 k (imgs.length : Int) (a : Int) base imgs cod) (if (List.range' a d).any (seqs_Check.rowBad imgs.length imgs cod) = true then 2 else if rd (imgs.getD 0 []) 0 ≠ 0 then 3 else 0) := by
  intro d
  induction d with
  | zero =>
    intro a ha
    refine Ev.step (fun k => by rw [evermoreref23_Check.l1]) ?_
    have h0 := hr 0 (by omega)
    simp only [show rd_L1 imgs 0 = imgs.getD 0 [] from rdL imgs 0, if_neg (show ¬ ((a : Int) < (imgs.length : Int)) by omega), if_pos (show (0 : Int) < (imgs.length : Int) by omega), if_pos (show (0 : Int) < ((imgs.getD 0 []).length : Int) by omega)]
    by_cases h : rd (imgs.getD 0 []) 0 = 0
    · simp only [if_pos h]; exact evc (Ev.now 0) (by rw [if_neg (by simp), if_neg (fun x => x h)])
    · simp only [if_neg h]; exact evc (Ev.now 3) (by rw [if_neg (by simp), if_pos h])
  | succ d ih =>
    intro a ha
    refine Ev.step (fun k => by rw [evermoreref23_Check.l1]) ?_
    simp only [if_pos (show ((a : Int) < (imgs.length : Int)) by omega)]
    have := refCheck_l2 base imgs cod hn hb hc a (by omega) (hr a (by omega)) _ (fun _ => ih (a + 1) (by omega)) (imgs.getD a []).length 0 (by omega) (by simp)
    refine evc this ?_
    rw [List.range'_succ, List.any_cons]
    by_cases h : seqs_Check.rowBad imgs.length imgs cod a = true
    · rw [if_pos h, h]; rfl
    · have h' : seqs_Check.rowBad imgs.length imgs cod a = false := by simpa using h
      rw [if_neg h, h', Bool.false_or]
theorem refCheck_l0 (base : Int) (imgs : List (List Int)) (cod : List Int) (hn : imgs.length ≤ 4) (Z : Int)
    (cont : (∀ a, a < imgs.length → ((imgs.getD a []).length : Int) = base) → Ev (fun k => evermoreref23_Check.l1 k (imgs.length : Int) 0 base imgs cod) Z) :
    ∀ d i : Nat, i + d = imgs.length → (∀ a, a < i → ((imgs.getD a []).length : Int) = base) → Ev (fun k => evermoreref23_Check.l0 k (imgs.length : Int) (i : Int) base imgs cod) (if (imgs.drop i).any (fun x => decide ((x.length : Int) ≠ base)) = true then 3 else Z) := by
  intro d
  induction d with
  | zero =>
    intro i hi hp
    refine Ev.step (fun k => by rw [evermoreref23_Check.l0]) ?_
    simp only [if_neg (show ¬ ((i : Int) < (imgs.length : Int)) by omega)]
    rw [List.drop_of_length_le (by omega)]
    exact cont (fun a ha => hp a (by omega))
  | succ d ih =>
    intro i hi hp
    refine Ev.step (fun k => by rw [evermoreref23_Check.l0]) ?_
    rw [w1 i (by omega)]
    simp only [rdL, if_pos (show ((i : Int) < (imgs.length : Int)) by omega), if_pos (show 0 ≤ (i : Int) by omega)]
    rw [drop_getD imgs i [] (by omega)]
    by_cases h : ((imgs.getD i []).length : Int) = base
    · simp only [if_pos h]
      refine evc (ih (i + 1) (by omega) (fun a ha => ?_)) ?_
      · by_cases e : a = i
        · rw [e]; exact h
        · exact hp a (by omega)
      · rw [List.any_cons, decide_eq_false (show ¬ ((imgs.getD i []).length : Int) ≠ base from fun x => x h), Bool.false_or]
    · simp only [if_neg h]
      exact evc (Ev.now 3) (by rw [List.any_cons, decide_eq_true (show ((imgs.getD i []).length : Int) ≠ base from h), Bool.true_or]; rfl)
theorem refCheck_ev (base : Int) (imgs : List (List Int)) (cod : List Int) : Ev (fun k => evermoreref23_Check.f k base imgs cod) (seqs_Check.v base imgs cod) := by
  have j1 : ∀ b : Bool, (b = true ↔ (imgs.length < 1 ∨ imgs.length > 4)) → ¬ (base < 2 ∨ base > 4) → Ev (fun k => evermoreref23_Check.j1 k (imgs.length : Int) b base imgs cod) (seqs_Check.v base imgs cod) := by
    intro b hb h0
    refine Ev.step (fun k => by rw [evermoreref23_Check.j1]) ?_
    by_cases h : b = true
    · simp only [if_pos h]
      exact evc (Ev.now 1) (by unfold seqs_Check.v; rw [if_neg h0, if_pos (hb.1 h)])
    · simp only [if_neg h]
      have hn : ¬ (imgs.length < 1 ∨ imgs.length > 4) := fun x => h (hb.2 x)
      by_cases h2 : cod.length = imgs.length
      · simp only [if_pos (show (cod.length : Int) = (imgs.length : Int) by omega)]
        have := refCheck_l0 base imgs cod (by omega) _ (fun hr => refCheck_l1 base imgs cod (by omega) (by omega) (by omega) (by omega) h2 hr imgs.length 0 (by omega)) imgs.length 0 (by omega) (fun a ha => by omega)
        refine evc this ?_
        rw [List.drop_zero]
        unfold seqs_Check.v
        rw [if_neg h0, if_neg hn]
        by_cases h3 : imgs.any (fun x => decide ((x.length : Int) ≠ base)) = true
        · rw [if_pos h3, if_pos (.inr h3)]
        · have h4 : ¬ (cod.length ≠ imgs.length ∨ imgs.any (fun x => decide ((x.length : Int) ≠ base)) = true) := fun x => Or.elim x (fun x => x h2) h3
          rw [if_neg h3, if_neg h4, List.range_eq_range']
      · simp only [if_neg (show ¬ (cod.length : Int) = (imgs.length : Int) by omega)]
        exact evc (Ev.now 3) (by unfold seqs_Check.v; rw [if_neg h0, if_neg hn, if_pos (.inl h2)])
  have j0 : ∀ b : Bool, (b = true ↔ (base < 2 ∨ base > 4)) → Ev (fun k => evermoreref23_Check.j0 k b base imgs cod) (seqs_Check.v base imgs cod) := by
    intro b hb
    refine Ev.step (fun k => by rw [evermoreref23_Check.j0]) ?_
    by_cases h : b = true
    · simp only [if_pos h]
      exact evc (Ev.now 2) (by unfold seqs_Check.v; rw [if_pos (hb.1 h)])
    · simp only [if_neg h]
      have h0 : ¬ (base < 2 ∨ base > 4) := fun x => h (hb.2 x)
      by_cases h2 : (imgs.length : Int) < 1
      · simp only [if_pos h2]; exact j1 true ⟨fun _ => .inl (by omega), fun _ => rfl⟩ h0
      · simp only [if_neg h2]; exact j1 _ (by rw [decide_eq_true_iff]; omega) h0
  unfold evermoreref23_Check.f
  by_cases h : base < 2
  · simp only [if_pos h]; exact j0 true (by simp; omega)
  · simp only [if_neg h]; exact j0 _ (by simp; omega)
theorem v_ok {base : Int} {imgs : List (List Int)} {cod : List Int} (h : seqs_Check.v base imgs cod = 0) : MOk base imgs cod := by
  unfold seqs_Check.v at h
  by_cases h1 : base < 2 ∨ base > 4
  · rw [if_pos h1] at h; omega
  rw [if_neg h1] at h
  by_cases h2 : imgs.length < 1 ∨ imgs.length > 4
  · rw [if_pos h2] at h; omega
  rw [if_neg h2] at h
  by_cases h3 : cod.length ≠ imgs.length ∨ imgs.any (fun x => decide ((x.length : Int) ≠ base)) = true
  · rw [if_pos h3] at h; omega
  rw [if_neg h3] at h
  by_cases h4 : (List.range imgs.length).any (seqs_Check.rowBad imgs.length imgs cod) = true
  · rw [if_pos h4] at h; omega
  rw [if_neg h4] at h
  by_cases h5 : rd (imgs.getD 0 []) 0 ≠ 0
  · rw [if_pos h5] at h; omega
  have hrow : ∀ i, i < imgs.length → seqs_Check.rowBad imgs.length imgs cod i = false := fun i hi => by
    cases q : seqs_Check.rowBad imgs.length imgs cod i with
    | false => rfl
    | true => exact absurd (List.any_eq_true.2 ⟨i, List.mem_range.2 hi, q⟩) h4
  refine ⟨by omega, by omega, by omega, by omega, Decidable.of_not_not fun x => h3 (.inl x), fun r hr => Decidable.of_not_not fun x => h3 (.inr (List.any_eq_true.2 ⟨r, hr, decide_eq_true x⟩)), fun r hr b hb => ?_, fun i hi => ?_, ?_⟩
  · obtain ⟨i, hi, rfl⟩ := List.getElem_of_mem hr
    have := hrow i hi
    unfold seqs_Check.rowBad at this
    rw [Bool.or_eq_false_iff, Bool.or_eq_false_iff] at this
    have hb2 := List.any_eq_false.1 this.1.1 b (by rw [List.getD_eq_getElem?_getD, List.getElem?_eq_getElem hi]; exact hb)
    unfold seqs_Check.bad at hb2
    simp at hb2
    omega
  · have := hrow i hi
    unfold seqs_Check.rowBad at this
    rw [Bool.or_eq_false_iff, Bool.or_eq_false_iff, rdN] at this
    have h6 := of_decide_eq_false this.1.2
    have h7 := of_decide_eq_false this.2
    omega
  · have : rd (imgs.getD 0 []) ((0 : Nat) : Int) = 0 := Decidable.of_not_not h5
    rw [rdN] at this
    exact this
theorem wf64 {n : Int} (h : (Lit.int .i64 n).wf = true) : -9223372036854775808 ≤ n ∧ n ≤ 9223372036854775807 := by
  simp [Lit.wf, IntKind.min, IntKind.max, IntKind.signed, IntKind.bits] at h
  omega
/-- the letter at a place -/
def letS (base : Int) (imgs : List (List Int)) (n : Nat) : Int :=
  if h : n = 0 ∨ base.toNat < 2 then 0 else (imgs.getD (letS base imgs (n / base.toNat)).toNat []).getD (n % base.toNat) 0
termination_by n
decreasing_by exact Nat.div_lt_self (by omega) (by omega)
theorem letS_zero (base : Int) (imgs : List (List Int)) : letS base imgs 0 = 0 := by rw [letS, dif_pos (.inl rfl)]
theorem letS_succ {base : Int} {imgs : List (List Int)} {n : Nat} (hb : 2 ≤ base) (h : n ≠ 0) : letS base imgs n = (imgs.getD (letS base imgs (n / base.toNat)).toNat []).getD (n % base.toNat) 0 := by
  rw [letS, dif_neg (by omega)]
theorem cell_rng {base : Int} {imgs : List (List Int)} {cod : List Int} (M : MOk base imgs cod) {t d : Nat} (ht : t < imgs.length) (hd : (d : Int) < base) : 0 ≤ (imgs.getD t []).getD d 0 ∧ (imgs.getD t []).getD d 0 < (imgs.length : Int) := by
  have hm : imgs.getD t [] ∈ imgs := getD_mem _ _ _ ht
  have hl := M.rl _ hm
  exact M.rb _ hm _ (getD_mem _ _ _ (by omega))
theorem letS_rng {base : Int} {imgs : List (List Int)} {cod : List Int} (M : MOk base imgs cod) : ∀ n, 0 ≤ letS base imgs n ∧ letS base imgs n < (imgs.length : Int) := by
  intro n
  induction n using Nat.strongRecOn with
  | _ n ih =>
    have h2 := M.b2
    have h1 := M.n1
    by_cases h : n = 0
    · subst h; rw [letS_zero]; omega
    · rw [letS_succ h2 h]
      have := ih (n / base.toNat) (Nat.div_lt_self (by omega) (by omega))
      exact cell_rng M (by omega) (by have := Nat.mod_lt n (show 0 < base.toNat by omega); omega)
theorem seqs_letter_ev {base : Int} {imgs : List (List Int)} {cod : List Int} (M : MOk base imgs cod) : ∀ n : Nat, n ≤ 9223372036854775807 → Ev (fun k => seqs_letter.f k base imgs cod (n : Int)) (letS base imgs n) := by
  intro n
  induction n using Nat.strongRecOn with
  | _ n ih =>
    intro hn
    have h2 := M.b2
    have h1 := M.n1
    refine Ev.step (fun k => by rw [seqs_letter.f]) ?_
    by_cases h : n = 0
    · subst h
      simp only [Int.natCast_zero, if_true]
      exact evc (Ev.now 0) (letS_zero _ _).symm
    · have e1 : Int.tdiv (n : Int) base = ((n / base.toNat : Nat) : Int) := by
        rw [Int.tdiv_eq_ediv_of_nonneg (by omega), Int.natCast_ediv, Int.toNat_of_nonneg (by omega)]
      have e2 : Int.tmod (n : Int) base = ((n % base.toNat : Nat) : Int) := by
        rw [Int.tmod_eq_emod_of_nonneg (by omega), Int.natCast_emod, Int.toNat_of_nonneg (by omega)]
      have hle : n / base.toNat ≤ n := Nat.div_le_self _ _
      have hlt : n / base.toNat < n := Nat.div_lt_self (by omega) (by omega)
      simp only [if_neg (show ¬ (n : Int) = 0 by omega), if_neg (show ¬ base = 0 by omega), e1, e2]
      have hnn : (0 : Int) ≤ ((n / base.toNat : Nat) : Int) := Int.natCast_nonneg _
      have hnu : ((n / base.toNat : Nat) : Int) ≤ 9223372036854775807 := by have : ((n / base.toNat : Nat) : Int) ≤ (n : Int) := Int.ofNat_le.2 hle; omega
      rw [w64 (n := ((n / base.toNat : Nat) : Int)) (Int.le_trans (by decide) hnn) hnu]
      refine Ev.bind (ih _ hlt (by omega)) ?_
      have hr := letS_rng M (n / base.toNat)
      have hm := Nat.mod_lt n (show 0 < base.toNat by omega)
      obtain ⟨t, ht⟩ := Int.eq_ofNat_of_zero_le hr.1
      have hl := M.rl _ (getD_mem imgs t [] (by omega))
      rw [letS_succ h2 h, ht]
      rw [ht] at hr
      simp only [rdL, rdN, if_pos (show 0 ≤ (t : Int) by omega), if_pos (show (t : Int) < (imgs.length : Int) by omega), if_pos (show 0 ≤ ((n % base.toNat : Nat) : Int) by omega), if_pos (show ((n % base.toNat : Nat) : Int) < ((imgs.getD t []).length : Int) by omega)]
      exact Ev.now _
/-- the digits of a place, the last one first -/
def dg (b : Nat) (n : Nat) : List Int := if h : n = 0 ∨ b < 2 then [] else ((n % b : Nat) : Int) :: dg b (n / b)
termination_by n
decreasing_by exact Nat.div_lt_self (by omega) (by omega)
def fr (imgs : List (List Int)) (D : List Int) : Int := D.foldr (fun d x => (imgs.getD x.toNat []).getD d.toNat 0) 0
theorem letS_fr {base : Int} {imgs : List (List Int)} (hb : 2 ≤ base) : ∀ n, letS base imgs n = fr imgs (dg base.toNat n) := by
  intro n
  induction n using Nat.strongRecOn with
  | _ n ih =>
    by_cases h : n = 0
    · subst h; rw [letS_zero, dg, dif_pos (.inl rfl)]; rfl
    · rw [letS_succ hb h, dg, dif_neg (by omega), ih _ (Nat.div_lt_self (by omega) (by omega))]
      show _ = (imgs.getD (fr imgs (dg base.toNat (n / base.toNat))).toNat []).getD (((n % base.toNat : Nat) : Int)).toNat 0
      rw [Int.toNat_natCast]
theorem dg_rng {b : Nat} : ∀ n, ∀ d ∈ dg b n, 0 ≤ d ∧ d < (b : Int) := by
  intro n
  induction n using Nat.strongRecOn with
  | _ n ih =>
    intro d hd
    rw [dg] at hd
    by_cases h : n = 0 ∨ b < 2
    · rw [dif_pos h] at hd; cases hd
    · rw [dif_neg h] at hd
      rcases List.mem_cons.1 hd with rfl | hd
      · have := Nat.mod_lt n (show 0 < b by omega); omega
      · exact ih _ (Nat.div_lt_self (by omega) (by omega)) d hd
theorem dg_len {b : Nat} (hb : 2 ≤ b) : ∀ (m n : Nat), n < 2 ^ m → (dg b n).length ≤ m := by
  intro m
  induction m with
  | zero => intro n h; have : n = 0 := by omega
            subst this; rw [dg, dif_pos (.inl rfl)]; simp
  | succ m ih =>
    intro n h
    rw [dg]
    by_cases h0 : n = 0 ∨ b < 2
    · rw [dif_pos h0]; simp
    · rw [dif_neg h0, List.length_cons]
      have : n / b < 2 ^ m := by
        have : n / b ≤ n / 2 := Nat.div_le_div_left hb (by decide)
        have : n / 2 < 2 ^ m := by rw [Nat.div_lt_iff_lt_mul (by decide)]; rw [Nat.pow_succ] at h; exact h
        omega
      have := ih _ this
      omega
theorem fr_rng {base : Int} {imgs : List (List Int)} {cod : List Int} (M : MOk base imgs cod) : ∀ D : List Int, (∀ d ∈ D, 0 ≤ d ∧ d < base) → 0 ≤ fr imgs D ∧ fr imgs D < (imgs.length : Int) := by
  intro D
  induction D with
  | nil => intro _; have := M.n1; show (0 : Int) ≤ 0 ∧ (0 : Int) < _; omega
  | cons d D ih =>
    intro h
    have h1 := h d List.mem_cons_self
    have h2 := ih (fun x hx => h x (List.mem_cons_of_mem _ hx))
    show 0 ≤ (imgs.getD (fr imgs D).toNat []).getD d.toNat 0 ∧ (imgs.getD (fr imgs D).toNat []).getD d.toNat 0 < _
    exact cell_rng M (by omega) (by omega)
theorem refLetter_l1 {base : Int} {imgs : List (List Int)} {cod : List Int} (M : MOk base imgs cod) (D : List Int) (hD : ∀ d ∈ D, 0 ≤ d ∧ d < base) (hl : D.length ≤ 100) : ∀ j : Nat, j ≤ D.length → Ev (fun k => evermoreref23_Letter.l1 k D (fr imgs (D.drop j)) ((j : Int) - 1) base imgs cod) (fr imgs D) := by
  intro j
  induction j with
  | zero =>
    intro _
    refine Ev.step (fun k => by rw [evermoreref23_Letter.l1]) ?_
    simp only [if_neg (show ¬ (((0 : Nat) : Int) - 1 ≥ 0) by decide)]
    exact evc (Ev.now _) (by rw [List.drop_zero])
  | succ j ih =>
    intro hj
    refine Ev.step (fun k => by rw [evermoreref23_Letter.l1]) ?_
    rw [show ((j + 1 : Nat) : Int) - 1 = (j : Int) by omega, w64 (n := (j : Int) - 1) (by omega) (by omega)]
    have hr := fr_rng M (D.drop (j + 1)) (fun d hd => hD d (List.mem_of_mem_drop hd))
    obtain ⟨t, ht⟩ := Int.eq_ofNat_of_zero_le hr.1
    have hd := hD _ (getD_mem D j 0 (by omega))
    obtain ⟨q, hq⟩ := Int.eq_ofNat_of_zero_le hd.1
    rw [ht] at hr ⊢
    have hrl := M.rl _ (getD_mem imgs t [] (by omega))
    have e := ih (by omega)
    rw [drop_getD D j 0 (by omega)] at e
    simp only [rdN, rdL, hq, if_pos (show (j : Int) ≥ 0 by omega), if_pos (show 0 ≤ (t : Int) by omega), if_pos (show (t : Int) < (imgs.length : Int) by omega), if_pos (show 0 ≤ (j : Int) by omega), if_pos (show (j : Int) < (D.length : Int) by omega), if_pos (show 0 ≤ (q : Int) by omega),
      if_pos (show (q : Int) < ((imgs.getD t []).length : Int) by omega)]
    have : fr imgs (D.getD j 0 :: D.drop (j + 1)) = (imgs.getD t []).getD q 0 := by
      show (imgs.getD (fr imgs (D.drop (j + 1))).toNat []).getD (D.getD j 0).toNat 0 = _
      rw [ht, hq]; rfl
    rw [this] at e
    exact e
theorem refLetter_l0 {base : Int} {imgs : List (List Int)} {cod : List Int} (M : MOk base imgs cod) : ∀ (n : Nat) (D : List Int), n ≤ 9223372036854775807 → (∀ d ∈ D ++ dg base.toNat n, 0 ≤ d ∧ d < base) → (D ++ dg base.toNat n).length ≤ 100 →
    Ev (fun k => evermoreref23_Letter.l0 k (n : Int) D base imgs cod) (fr imgs (D ++ dg base.toNat n)) := by
  intro n
  induction n using Nat.strongRecOn with
  | _ n ih =>
    intro D hn hD hl
    have h2 := M.b2
    refine Ev.step (fun k => by rw [evermoreref23_Letter.l0]) ?_
    by_cases h : n = 0
    · subst h
      rw [dg, dif_pos (.inl rfl), List.append_nil] at hD hl ⊢
      simp only [if_neg (show ¬ (((0 : Nat) : Int) > 0) by decide)]
      rw [w64 (n := (D.length : Int) - 1) (by omega) (by omega)]
      have := refLetter_l1 M D hD hl D.length (Nat.le_refl _)
      rw [List.drop_length] at this
      exact this
    · have e1 : Int.tdiv (n : Int) base = ((n / base.toNat : Nat) : Int) := by
        rw [Int.tdiv_eq_ediv_of_nonneg (by omega), Int.natCast_ediv, Int.toNat_of_nonneg (by omega)]
      have e2 : Int.tmod (n : Int) base = ((n % base.toNat : Nat) : Int) := by
        rw [Int.tmod_eq_emod_of_nonneg (by omega), Int.natCast_emod, Int.toNat_of_nonneg (by omega)]
      have hlt : n / base.toNat < n := Nat.div_lt_self (by omega) (by omega)
      have hs : D ++ dg base.toNat n = (D ++ [((n % base.toNat : Nat) : Int)]) ++ dg base.toNat (n / base.toNat) := by
        rw [dg, dif_neg (by omega), List.append_assoc]; rfl
      have hDl : D.length ≤ 100 := by rw [List.length_append] at hl; omega
      simp only [if_pos (show (n : Int) > 0 by omega), if_neg (show ¬ base = 0 by omega), if_pos (show D.length < 17592186044416 by omega), e1, e2]
      have hnn : (0 : Int) ≤ ((n / base.toNat : Nat) : Int) := Int.natCast_nonneg _
      have hnu : ((n / base.toNat : Nat) : Int) ≤ 9223372036854775807 := by have : ((n / base.toNat : Nat) : Int) ≤ (n : Int) := Int.ofNat_le.2 (Nat.div_le_self _ _); omega
      rw [w64 (n := ((n / base.toNat : Nat) : Int)) (Int.le_trans (by decide) hnn) hnu]
      rw [hs] at hD hl ⊢
      exact ih _ hlt _ (by omega) hD hl
theorem refLetter_ev {base : Int} {imgs : List (List Int)} {cod : List Int} (M : MOk base imgs cod) (n : Nat) (hn : n ≤ 9223372036854775807) : Ev (fun k => evermoreref23_Letter.f k base imgs cod (n : Int)) (letS base imgs n) := by
  unfold evermoreref23_Letter.f
  have h2 := M.b2
  rw [letS_fr M.b2]
  have := refLetter_l0 M n [] hn (fun d hd => by have := dg_rng n d hd; omega) (by have := dg_len (b := base.toNat) (by omega) 63 n (by omega); simp; omega)
  exact this
theorem evermoreref1_Words_l0 (a b : List Int) (hl : a.length = b.length) (hb : a.length ≤ 9223372036854775000) : ∀ d i : Nat, i + d = a.length → Ev (fun k => evermoreref1_Words.l0 k a b (i : Int)) (decide (a.drop i = b.drop i)) := by
  intro d
  induction d with
  | zero =>
    intro i hi
    refine Ev.step (fun k => by rw [evermoreref1_Words.l0]) ?_
    simp only [if_neg (show ¬ ((i : Int) < (a.length : Int)) by omega)]
    rw [List.drop_of_length_le (by omega), List.drop_of_length_le (by omega)]
    simpa using Ev.now true
  | succ d ih =>
    intro i hi
    refine Ev.step (fun k => by rw [evermoreref1_Words.l0]) ?_
    have h1 : i < a.length := by omega
    have h2 : i < b.length := by omega
    simp only [if_pos (show ((i : Int) < (a.length : Int)) by omega), if_pos (show (0 ≤ (i : Int)) by omega), if_pos (show ((i : Int) < (b.length : Int)) by omega), rdn a i h1, rdn b i h2]
    rw [List.drop_eq_getElem_cons h1, List.drop_eq_getElem_cons h2]
    by_cases e : a[i] = b[i]
    · simp only [if_pos e]
      have := ih (i + 1) (by omega)
      rw [show wrap64 ((i : Int) + 1) = ((i + 1 : Nat) : Int) from by rw [w64 (by omega) (by omega)]; omega]
      exact evc this (by simp only [List.cons.injEq, e, true_and])
    · simp only [if_neg e]
      exact evc (Ev.now false) (by simp only [List.cons.injEq, e, false_and, decide_false])
theorem evermoreref1_Words_ev (a b : List Int) (hb : a.length ≤ 9223372036854775000) : Ev (fun k => evermoreref1_Words.f k a b) (decide (a = b)) := by
  unfold evermoreref1_Words.f
  by_cases h : a.length = b.length
  · simp only [if_pos (show ((a.length : Int) = (b.length : Int)) by omega)]
    exact evermoreref1_Words_l0 a b h hb a.length 0 (by omega)
  · simp only [if_neg (show ¬ ((a.length : Int) = (b.length : Int)) by omega)]
    have : a ≠ b := fun e => h (by rw [e])
    simpa [this] using Ev.now false
theorem slices_Equal_int_int_l0 (a b : List Int) (hl : a.length = b.length) (hb : a.length ≤ 9223372036854775000) : ∀ d i : Nat, i + d = a.length → Ev (fun k => slices_Equal_int_int.l0 k a b (a.length : Int) (i : Int)) (decide (a.drop i = b.drop i)) := by
  intro d
  induction d with
  | zero =>
    intro i hi
    refine Ev.step (fun k => by rw [slices_Equal_int_int.l0]) ?_
    simp only [if_neg (show ¬ ((i : Int) < (a.length : Int)) by omega)]
    rw [List.drop_of_length_le (by omega), List.drop_of_length_le (by omega)]
    simpa using Ev.now true
  | succ d ih =>
    intro i hi
    refine Ev.step (fun k => by rw [slices_Equal_int_int.l0]) ?_
    have h1 : i < a.length := by omega
    have h2 : i < b.length := by omega
    simp only [if_pos (show ((i : Int) < (a.length : Int)) by omega), if_pos (show (0 ≤ (i : Int)) by omega), if_pos (show ((i : Int) < (b.length : Int)) by omega), rdn a i h1, rdn b i h2]
    rw [List.drop_eq_getElem_cons h1, List.drop_eq_getElem_cons h2]
    by_cases e : a[i] = b[i]
    · simp only [if_pos e]
      have := ih (i + 1) (by omega)
      rw [show wrap64 ((i : Int) + 1) = ((i + 1 : Nat) : Int) from by rw [w64 (by omega) (by omega)]; omega]
      exact evc this (by simp only [List.cons.injEq, e, true_and])
    · simp only [if_neg e]
      exact evc (Ev.now false) (by simp only [List.cons.injEq, e, false_and, decide_false])
theorem slices_Equal_int_int_ev (a b : List Int) (hb : a.length ≤ 9223372036854775000) : Ev (fun k => slices_Equal_int_int.f k a b) (decide (a = b)) := by
  unfold slices_Equal_int_int.f
  by_cases h : a.length = b.length
  · simp only [if_pos (show ((a.length : Int) = (b.length : Int)) by omega)]
    exact slices_Equal_int_int_l0 a b h hb a.length 0 (by omega)
  · simp only [if_neg (show ¬ ((a.length : Int) = (b.length : Int)) by omega)]
    have : a ≠ b := fun e => h (by rw [e])
    simpa [this] using Ev.now false
/-- the first n numbers -/
def rowS (base : Int) (imgs : List (List Int)) (cod : List Int) (n : Nat) : List Int := (List.range n).map (fun q => cod.getD (letS base imgs q).toNat 0)
theorem rowS_succ (base : Int) (imgs : List (List Int)) (cod : List Int) (n : Nat) : rowS base imgs cod (n + 1) = rowS base imgs cod n ++ [cod.getD (letS base imgs n).toNat 0] := by
  unfold rowS; rw [List.range_succ, List.map_append]; rfl
theorem rowS_len (base : Int) (imgs : List (List Int)) (cod : List Int) (n : Nat) : (rowS base imgs cod n).length = n := by unfold rowS; simp
theorem refRow_l0 {base : Int} {imgs : List (List Int)} {cod : List Int} (M : MOk base imgs cod) (n : Nat) (hn : n ≤ 400) : ∀ d i : Nat, i + d = n → Ev (fun k => evermoreref23_Row.l0 k (n : Int) (rowS base imgs cod i) (i : Int) base imgs cod) (rowS base imgs cod n) := by
  intro d
  induction d with
  | zero =>
    intro i hi
    refine Ev.step (fun k => by rw [evermoreref23_Row.l0]) ?_
    simp only [if_neg (show ¬ (i : Int) < (n : Int) by omega)]
    exact evc (Ev.now _) (by rw [show i = n by omega])
  | succ d ih =>
    intro i hi
    refine Ev.step (fun k => by rw [evermoreref23_Row.l0]) ?_
    simp only [if_pos (show (i : Int) < (n : Int) by omega)]
    refine Ev.bind (refLetter_ev M i (by omega)) ?_
    have hr := letS_rng M i
    have hl := rowS_len base imgs cod i
    have hcl := M.cl
    have := ih (i + 1) (by omega)
    rw [rowS_succ] at this
    obtain ⟨t, ht⟩ := Int.eq_ofNat_of_zero_le hr.1
    rw [ht] at hr this ⊢
    rw [Int.toNat_natCast] at this
    simp only [rdN, if_pos (show 0 ≤ (t : Int) by omega), if_pos (show (t : Int) < (cod.length : Int) by omega), if_pos (show (rowS base imgs cod i).length < 17592186044416 by omega), w1 i (by omega)]
    exact this
theorem square_l0 {base : Int} {imgs : List (List Int)} {cod : List Int} (M : MOk base imgs cod) (n : Nat) (hn : n ≤ 400) (Z : Int × Int × Bool × Int) (cont : Ev (fun k => seqs_Square.l1 k (n : Int) (rowS base imgs cod n) (n : Int) 0) Z) : ∀ d i : Nat, i + d = n → Ev (fun k => seqs_Square.l0 k (n : Int) (rowS base imgs cod i) (n : Int) (i : Int) base imgs cod) Z := by
  intro d
  induction d with
  | zero =>
    intro i hi
    refine Ev.step (fun k => by rw [seqs_Square.l0]) ?_
    simp only [if_neg (show ¬ (i : Int) < (n : Int) by omega)]
    rw [show i = n by omega]
    exact cont
  | succ d ih =>
    intro i hi
    refine Ev.step (fun k => by rw [seqs_Square.l0]) ?_
    simp only [if_pos (show (i : Int) < (n : Int) by omega)]
    refine Ev.bind (seqs_letter_ev M i (by omega)) ?_
    have hr := letS_rng M i
    have hl := rowS_len base imgs cod i
    have hcl := M.cl
    have := ih (i + 1) (by omega)
    rw [rowS_succ] at this
    obtain ⟨t, ht⟩ := Int.eq_ofNat_of_zero_le hr.1
    rw [ht] at hr this ⊢
    rw [Int.toNat_natCast] at this
    simp only [rdN, if_pos (show 0 ≤ (t : Int) by omega), if_pos (show (t : Int) < (cod.length : Int) by omega), if_pos (show (rowS base imgs cod i).length < 17592186044416 by omega), w1 i (by omega)]
    exact this
/-- the answer, and that the law holds of it from there on -/
theorem both (R : List Int) (n : Nat) (hR : R.length = n) (hn : n ≤ 400) : ∀ d i : Nat, i + d = n → ∃ r : Int × Int × Bool × Int, Ev (fun k => seqs_Square.l1 k (n : Int) R (n : Int) (i : Int)) r ∧ Ev (fun k => evermorelaw_SeqsSquares.l0 k (n : Int) r.1 r.2.1 r.2.2.1 r.2.2.2 R (i : Int)) true := by
  intro d
  induction d with
  | zero =>
    intro i hi
    refine ⟨(0, 0, false, 0), ?_, ?_⟩
    · refine Ev.step (fun k => by rw [seqs_Square.l1]) ?_
      simp only [if_neg (show ¬ (i : Int) < (n : Int) by omega)]
      exact Ev.now _
    · refine Ev.step (fun k => by rw [evermorelaw_SeqsSquares.l0]) ?_
      simp only [if_neg (show ¬ (i : Int) < (n : Int) by omega), if_true, if_neg (show ¬ (false = true) by decide)]
      exact Ev.now _
  | succ d ih =>
    intro i hi
    have inner : ∀ e s : Nat, n < i + 2 * s + e → 1 ≤ s → s ≤ n + 1 → ∃ r : Int × Int × Bool × Int, Ev (fun k => seqs_Square.l2 k (n : Int) R (i : Int) (s : Int) (n : Int) (i : Int)) r ∧ Ev (fun k => evermorelaw_SeqsSquares.l1 k (n : Int) r.1 r.2.1 r.2.2.1 r.2.2.2 R (i : Int) (s : Int)) true := by
      intro e
      induction e with
      | zero =>
        intro s h1 h2 h3
        obtain ⟨r, hr, hq⟩ := ih (i + 1) (by omega)
        refine ⟨r, ?_, ?_⟩
        · refine Ev.step (fun k => by rw [seqs_Square.l2]) ?_
          rw [w64 (n := 2 * (s : Int)) (by omega) (by omega), w64 (n := (i : Int) + 2 * (s : Int)) (by omega) (by omega), w1 i (by omega)]
          simp only [if_neg (show ¬ (i : Int) + 2 * (s : Int) ≤ (n : Int) by omega)]
          exact hr
        · refine Ev.step (fun k => by rw [evermorelaw_SeqsSquares.l1]) ?_
          rw [w64 (n := 2 * (s : Int)) (by omega) (by omega), w64 (n := (i : Int) + 2 * (s : Int)) (by omega) (by omega), w1 i (by omega)]
          simp only [if_neg (show ¬ (i : Int) + 2 * (s : Int) ≤ (n : Int) by omega)]
          exact hq
      | succ e ihe =>
        intro s h1 h2 h3
        by_cases hc : i + 2 * s ≤ n
        · have w2 : wrap64 (2 * (s : Int)) = 2 * (s : Int) := w64 (by omega) (by omega)
          have w3 : wrap64 ((i : Int) + 2 * (s : Int)) = (i : Int) + 2 * (s : Int) := w64 (by omega) (by omega)
          have w4 : wrap64 ((i : Int) + (s : Int)) = (i : Int) + (s : Int) := w64 (by omega) (by omega)
          have t1 : ((i : Int) + (s : Int)).toNat = i + s := by omega
          have t2 : ((i : Int) + 2 * (s : Int)).toNat = i + 2 * s := by omega
          by_cases hq : (R.take (i + s)).drop i = (R.take (i + 2 * s)).drop (i + s)
          · refine ⟨((i : Int), (s : Int), true, 0), ?_, ?_⟩
            · refine Ev.step (fun k => by rw [seqs_Square.l2]) ?_
              simp only [w2, w3, w4, t1, t2, Int.toNat_natCast, if_pos (show (i : Int) + 2 * (s : Int) ≤ (n : Int) by omega), if_pos (show 0 ≤ (i : Int) by omega), if_pos (show (i : Int) ≤ (i : Int) + (s : Int) by omega), if_pos (show (i : Int) + (s : Int) ≤ (R.length : Int) by omega), if_pos (show 0 ≤ (i : Int) + (s : Int) by omega),
                if_pos (show (i : Int) + (s : Int) ≤ (i : Int) + 2 * (s : Int) by omega), if_pos (show (i : Int) + 2 * (s : Int) ≤ (R.length : Int) by omega)]
              refine Ev.bind (slices_Equal_int_int_ev _ _ (by rw [List.length_drop, List.length_take]; omega)) ?_
              simp only [decide_eq_true hq, if_true]
              exact Ev.now _
            · refine Ev.step (fun k => by rw [evermorelaw_SeqsSquares.l1]) ?_
              simp only [w2, w3, w4, t1, t2, Int.toNat_natCast, if_pos (show (i : Int) + 2 * (s : Int) ≤ (n : Int) by omega), if_pos (show 0 ≤ (i : Int) by omega), if_pos (show (i : Int) ≤ (i : Int) + (s : Int) by omega), if_pos (show (i : Int) + (s : Int) ≤ (R.length : Int) by omega), if_pos (show 0 ≤ (i : Int) + (s : Int) by omega),
                if_pos (show (i : Int) + (s : Int) ≤ (i : Int) + 2 * (s : Int) by omega), if_pos (show (i : Int) + 2 * (s : Int) ≤ (R.length : Int) by omega)]
              refine Ev.bind (evermoreref1_Words_ev _ _ (by rw [List.length_drop, List.length_take]; omega)) ?_
              simp only [decide_eq_true hq, if_true, beq_self_eq_true]
              exact Ev.now _
          · obtain ⟨r, hr, hq2⟩ := ihe (s + 1) (by omega) (by omega) (by omega)
            refine ⟨r, ?_, ?_⟩
            · refine Ev.step (fun k => by rw [seqs_Square.l2]) ?_
              simp only [w2, w3, w4, t1, t2, w1 s (by omega), Int.toNat_natCast, if_pos (show (i : Int) + 2 * (s : Int) ≤ (n : Int) by omega), if_pos (show 0 ≤ (i : Int) by omega), if_pos (show (i : Int) ≤ (i : Int) + (s : Int) by omega), if_pos (show (i : Int) + (s : Int) ≤ (R.length : Int) by omega), if_pos (show 0 ≤ (i : Int) + (s : Int) by omega),
                if_pos (show (i : Int) + (s : Int) ≤ (i : Int) + 2 * (s : Int) by omega), if_pos (show (i : Int) + 2 * (s : Int) ≤ (R.length : Int) by omega)]
              refine Ev.bind (slices_Equal_int_int_ev _ _ (by rw [List.length_drop, List.length_take]; omega)) ?_
              simp only [decide_eq_false hq, if_neg (show ¬ (false = true) by decide)]
              exact hr
            · refine Ev.step (fun k => by rw [evermorelaw_SeqsSquares.l1]) ?_
              simp only [w2, w3, w4, t1, t2, w1 s (by omega), Int.toNat_natCast, if_pos (show (i : Int) + 2 * (s : Int) ≤ (n : Int) by omega), if_pos (show 0 ≤ (i : Int) by omega), if_pos (show (i : Int) ≤ (i : Int) + (s : Int) by omega), if_pos (show (i : Int) + (s : Int) ≤ (R.length : Int) by omega), if_pos (show 0 ≤ (i : Int) + (s : Int) by omega),
                if_pos (show (i : Int) + (s : Int) ≤ (i : Int) + 2 * (s : Int) by omega), if_pos (show (i : Int) + 2 * (s : Int) ≤ (R.length : Int) by omega)]
              refine Ev.bind (evermoreref1_Words_ev _ _ (by rw [List.length_drop, List.length_take]; omega)) ?_
              simp only [decide_eq_false hq, if_neg (show ¬ (false = true) by decide)]
              exact hq2
        · obtain ⟨r, hr, hq⟩ := ih (i + 1) (by omega)
          refine ⟨r, ?_, ?_⟩
          · refine Ev.step (fun k => by rw [seqs_Square.l2]) ?_
            rw [w64 (n := 2 * (s : Int)) (by omega) (by omega), w64 (n := (i : Int) + 2 * (s : Int)) (by omega) (by omega), w1 i (by omega)]
            simp only [if_neg (show ¬ (i : Int) + 2 * (s : Int) ≤ (n : Int) by omega)]
            exact hr
          · refine Ev.step (fun k => by rw [evermorelaw_SeqsSquares.l1]) ?_
            rw [w64 (n := 2 * (s : Int)) (by omega) (by omega), w64 (n := (i : Int) + 2 * (s : Int)) (by omega) (by omega), w1 i (by omega)]
            simp only [if_neg (show ¬ (i : Int) + 2 * (s : Int) ≤ (n : Int) by omega)]
            exact hq
    obtain ⟨r, hr, hq⟩ := inner (n + 1) 1 (by omega) (by omega) (by omega)
    refine ⟨r, ?_, ?_⟩
    · refine Ev.step (fun k => by rw [seqs_Square.l1]) ?_
      simp only [if_pos (show (i : Int) < (n : Int) by omega)]
      exact hr
    · refine Ev.step (fun k => by rw [evermorelaw_SeqsSquares.l0]) ?_
      simp only [if_pos (show (i : Int) < (n : Int) by omega)]
      exact hq
theorem law (base : Int) (imgs : List (List Int)) (cod : List Int) (n : Int) : Ev (fun k => evermorelaw_SeqsSquares.f k base imgs cod n) true := by
  unfold evermorelaw_SeqsSquares.f
  by_cases h : seqs_Check.v base imgs cod = 0
  · have M := v_ok h
    by_cases h2 : n < 0 ∨ n > 400
    · have hs : Ev (fun k => seqs_Square.f k base imgs cod n) (0, 0, false, 2) := by
        unfold seqs_Square.f seqs_Check.f
        simp only [Option.bind_some, h, if_true]
        by_cases h3 : n < 0
        · simp only [if_pos h3]
          refine Ev.step (fun k => by rw [seqs_Square.j0]) ?_
          simp only [if_true]; exact Ev.now _
        · simp only [if_neg h3]
          refine Ev.step (fun k => by rw [seqs_Square.j0]) ?_
          simp only [decide_eq_true (show n > 400 by omega), if_true]; exact Ev.now _
      refine Ev.bind hs ?_
      refine Ev.bind (refCheck_ev base imgs cod) ?_
      simp only [h, if_true]
      have j0 : Ev (fun k => evermorelaw_SeqsSquares.j0 k n 0 0 false 2 0 true base imgs cod) true := by
        refine Ev.step (fun k => by rw [evermorelaw_SeqsSquares.j0]) ?_
        simp only [if_true]
        refine Ev.step (fun k => by rw [evermorelaw_SeqsSquares.j1]) ?_
        simp only [if_neg (show ¬ (2 : Int) = 0 by decide), if_true, if_neg (show ¬ (false = true) by decide)]
        exact Ev.now _
      by_cases h3 : n < 0
      · simp only [if_pos h3]; exact j0
      · simp only [if_neg h3, decide_eq_true (show n > 400 by omega)]; exact j0
    · obtain ⟨m, rfl⟩ := Int.eq_ofNat_of_zero_le (show 0 ≤ n by omega)
      obtain ⟨r, hr, hq⟩ := both (rowS base imgs cod m) m (rowS_len _ _ _ _) (by omega) m 0 (by omega)
      have hs : Ev (fun k => seqs_Square.f k base imgs cod (m : Int)) r := by
        unfold seqs_Square.f seqs_Check.f
        simp only [Option.bind_some, h, if_true, if_neg (show ¬ (m : Int) < 0 by omega), decide_eq_false (show ¬ (m : Int) > 400 by omega)]
        refine Ev.step (fun k => by rw [seqs_Square.j0]) ?_
        simp only [if_neg (show ¬ (false = true) by decide)]
        exact square_l0 M m (by omega) r hr m 0 (by omega)
      refine Ev.bind hs ?_
      refine Ev.bind (refCheck_ev base imgs cod) ?_
      simp only [h, if_true, if_neg (show ¬ (m : Int) < 0 by omega), decide_eq_false (show ¬ (m : Int) > 400 by omega)]
      refine Ev.step (fun k => by rw [evermorelaw_SeqsSquares.j0]) ?_
      simp only [if_neg (show ¬ (false = true) by decide)]
      refine Ev.step (fun k => by rw [evermorelaw_SeqsSquares.j1]) ?_
      simp only [if_true]
      refine Ev.bind (show Ev (fun k => evermoreref23_Row.f k base imgs cod (m : Int)) (rowS base imgs cod m) from refRow_l0 M m (by omega) m 0 (by omega)) ?_
      exact hq
  · have hs : Ev (fun k => seqs_Square.f k base imgs cod n) (0, 0, false, seqs_Check.v base imgs cod) := by
      unfold seqs_Square.f seqs_Check.f
      simp only [Option.bind_some, if_neg h]
      exact Ev.now _
    refine Ev.bind hs ?_
    refine Ev.bind (refCheck_ev base imgs cod) ?_
    simp only [if_neg h]
    refine Ev.step (fun k => by rw [evermorelaw_SeqsSquares.j0]) ?_
    simp only [if_neg (show ¬ (false = true) by decide)]
    refine Ev.step (fun k => by rw [evermorelaw_SeqsSquares.j1]) ?_
    simp only [if_neg h, if_true, if_neg (show ¬ (false = true) by decide)]
    exact Ev.now _
theorem SeqsSquares : evermorelaw_SeqsSquares.PureH := by
  intro base imgs cod n _ _
  exact Ev.rounds (law base imgs cod n)

end Go.Proofs.Ythbdmfhobienaaa.Pure
