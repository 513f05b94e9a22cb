/- For every morphism and place the program's counts of all numbers below it are the reference's. No conditions beyond the statement's. -/
import Derived.Test.YthbdmfhobienaaaPSeqsCountsx7
import Derived.Test.YthbdmfhobienaaaQSeqsCounts
namespace Go.Proofs.Ythbdmfhobienaaa.Pure
open Go.RowKit Go.Proofs.Ythbdmfhobienaaa.PSeqsCounts Go.Proofs.YthbdmfhobienaaaW.PrintWords Go.Proofs.YthbdmfhobienaaaW.PrintLast Go.Proofs.YthbdmfhobienaaaW.PrintMore
set_option linter.unusedVariables false
set_option linter.unusedSimpArgs false
theorem w64 {n : Int} (h : -9223372036854775808 ≤ n) (h' : n ≤ 9223372036854775807) : wrap64 n = n := by unfold wrap64; omega
theorem rdn (l : List Int) (i : Nat) (h : i < l.length) : rd l (i : Int) = l[i] := by
  unfold rd; rw [Int.toNat_natCast, List.getD_eq_getElem?_getD, List.getElem?_eq_getElem h]; rfl
theorem rdOfn {α : Type} (d : α) (l : List α) (i : Nat) (h : i < l.length) : rdOf d l (i : Int) = l[i] := by
  unfold rdOf; rw [Int.toNat_natCast, List.getD_eq_getElem?_getD, List.getElem?_eq_getElem h]; rfl
theorem evc {α : Type} {g : Nat → Option α} {a b : α} (h : Ev g a) (e : a = b) : Ev g b := e ▸ h
theorem rdL (l : List (List Int)) (n : Nat) : rd_L1 l (n : Int) = l.getD n [] := by unfold rd_L1; rw [Int.toNat_natCast]
theorem rdN (l : List Int) (n : Nat) : rd l (n : Int) = l.getD n 0 := by unfold rd; rw [Int.toNat_natCast]
theorem w1 (i : Nat) (h : i ≤ 9223372036854775000) : wrap64 ((i : Int) + 1) = ((i + 1 : Nat) : Int) := by rw [w64 (by omega) (by omega)]; omega
theorem getD_mem {α : Type} (l : List α) (n : Nat) (d : α) (h : n < l.length) : l.getD n d ∈ l := by
  rw [List.getD_eq_getElem?_getD, List.getElem?_eq_getElem h]; exact List.getElem_mem h
theorem drop_getD {α : Type} (l : List α) (n : Nat) (d : α) (h : n < l.length) : l.drop n = l.getD n d :: l.drop (n + 1) := by
  rw [List.drop_eq_getElem_cons h, List.getD_eq_getElem?_getD, List.getElem?_eq_getElem h]; rfl
/-- what may be a morphism -/
structure MOk (base : Int) (imgs : List (List Int)) (cod : List Int) : Prop where
  b2 : 2 ≤ base
  b4 : base ≤ 4
  n1 : 1 ≤ imgs.length
  n4 : imgs.length ≤ 4
  cl : cod.length = imgs.length
  rl : ∀ r ∈ imgs, (r.length : Int) = base
  rb : ∀ r ∈ imgs, ∀ b ∈ r, 0 ≤ b ∧ b < (imgs.length : Int)
  cb : ∀ i, i < imgs.length → 0 ≤ cod.getD i 0 ∧ cod.getD i 0 ≤ 9
  z : (imgs.getD 0 []).getD 0 0 = 0
theorem anyrange (p : Nat → Bool) : ∀ d i n : Nat, i + d = n → ((List.range' i d).any p = true ↔ ∃ j, i ≤ j ∧ j < n ∧ p j = true) := by
  intro d i n h
  simp only [List.any_eq_true, List.mem_range'_1]
  constructor
  · rintro ⟨j, ⟨h1, h2⟩, h3⟩; exact ⟨j, h1, by omega, h3⟩
  · rintro ⟨j, h1, h2, h3⟩; exact ⟨j, ⟨h1, by omega⟩, h3⟩
theorem refCheck_l2 (base : Int) (imgs : List (List Int)) (cod : List Int) (hn : imgs.length ≤ 4) (hb : base ≤ 4) (hc : cod.length = imgs.length) (a : Nat) (ha : a < imgs.length) (hr : ((imgs.getD a []).length : Int) = base) (Z : Int)
    (cont : seqs_Check.rowBad imgs.length imgs cod a = false → Ev (fun k => evermoreref23_Check.l1 k (imgs.length : Int) ((a + 1 : Nat) : Int) base imgs cod) Z) :
    ∀ d i : Nat, i + d = (imgs.getD a []).length → ((imgs.getD a []).take i).any (seqs_Check.bad imgs.length) = false →
      Ev (fun k => evermoreref23_Check.l2 k (imgs.length : Int) (a : Int) (i : Int) base imgs cod) (if seqs_Check.rowBad imgs.length imgs cod a = true then 2 else Z) := by
  intro d
  induction d with
  | zero =>
    intro i hi hp
    refine Ev.step (fun k => by rw [evermoreref23_Check.l2]) ?_
    rw [w1 a (by omega)]
    simp only [rdL, rdN, if_neg (show ¬ ((i : Int) < base) by omega), if_pos (show 0 ≤ (a : Int) by omega), if_pos (show (a : Int) < (cod.length : Int) by omega)]
    rw [List.take_of_length_le (by omega)] at hp
    by_cases h1 : cod.getD a 0 < 0
    · simp only [if_pos h1]
      exact evc (Ev.now 2) (by rw [if_pos (by unfold seqs_Check.rowBad; rw [rdN, decide_eq_true h1, Bool.or_true, Bool.true_or])])
    · simp only [if_neg h1]
      by_cases h2 : cod.getD a 0 > 9
      · simp only [if_pos h2]
        exact evc (Ev.now 2) (by rw [if_pos (by unfold seqs_Check.rowBad; rw [rdN, decide_eq_true h2, Bool.or_true])])
      · simp only [if_neg h2]
        have hf : seqs_Check.rowBad imgs.length imgs cod a = false := by
          unfold seqs_Check.rowBad
          rw [rdN, hp, decide_eq_false h1, decide_eq_false h2]
          rfl
        exact evc (cont hf) (by rw [hf]; rfl)
  | succ d ih =>
    intro i hi hp
    refine Ev.step (fun k => by rw [evermoreref23_Check.l2]) ?_
    rw [w1 i (by omega)]
    have hil : i < (imgs.getD a []).length := by omega
    simp only [rdL, rdN, if_pos (show ((i : Int) < base) by omega), if_pos (show 0 ≤ (a : Int) by omega), if_pos (show (a : Int) < (imgs.length : Int) by omega), if_pos (show 0 ≤ (i : Int) by omega), if_pos (show (i : Int) < ((imgs.getD a []).length : Int) by omega)]
    have hb : seqs_Check.bad imgs.length ((imgs.getD a []).getD i 0) = true → seqs_Check.rowBad imgs.length imgs cod a = true := by
      intro h
      unfold seqs_Check.rowBad
      rw [show (imgs.getD a []).any (seqs_Check.bad imgs.length) = true from List.any_eq_true.2 ⟨_, getD_mem _ _ _ hil, h⟩]
      rfl
    by_cases h1 : (imgs.getD a []).getD i 0 < 0
    · simp only [if_pos h1]
      exact evc (Ev.now 2) (by rw [if_pos (hb (by unfold seqs_Check.bad; rw [decide_eq_true h1]; rfl))])
    · simp only [if_neg h1]
      by_cases h2 : (imgs.getD a []).getD i 0 ≥ (imgs.length : Int)
      · simp only [if_pos h2]
        exact evc (Ev.now 2) (by rw [if_pos (hb (by unfold seqs_Check.bad; rw [decide_eq_true h2, Bool.or_true]))])
      · simp only [if_neg h2]
        refine ih (i + 1) (by omega) ?_
        rw [List.take_succ_eq_append_getElem hil, List.any_append, hp]
        have : (imgs.getD a [])[i] = (imgs.getD a []).getD i 0 := by rw [List.getD_eq_getElem?_getD (l := imgs.getD a []), List.getElem?_eq_getElem hil]; rfl
        rw [List.any_cons, this]
        unfold seqs_Check.bad
        rw [decide_eq_false h1, decide_eq_false h2]
        rfl
theorem refCheck_l1 (base : Int) (imgs : List (List Int)) (cod : List Int) (hn : imgs.length ≤ 4) (hn1 : 1 ≤ imgs.length) (hb : base ≤ 4) (hb2 : 2 ≤ base) (hc : cod.length = imgs.length) (hr : ∀ a, a < imgs.length → ((imgs.getD a []).length : Int) = base) :
    ∀ d a : Nat, a + d = imgs.length → Ev (fun k => evermoreref23_Check.l1 k (imgs.length : Int) (a : Int) base imgs cod) (if (List.range' a d).any (seqs_Check.rowBad imgs.length imgs cod) = true then 2 else if rd (imgs.getD 0 []) 0 ≠ 0 then 3 else 0) := by
  intro d
  induction d with
  | zero =>
    intro a ha
    refine Ev.step (fun k => by rw [evermoreref23_Check.l1]) ?_
    have h0 := hr 0 (by omega)
    simp only [show rd_L1 imgs 0 = imgs.getD 0 [] from rdL imgs 0, if_neg (show ¬ ((a : Int) < (imgs.length : Int)) by omega), if_pos (show (0 : Int) < (imgs.length : Int) by omega), if_pos (show (0 : Int) < ((imgs.getD 0 []).length : Int) by omega)]
    by_cases h : rd (imgs.getD 0 []) 0 = 0
    · simp only [if_pos h]; exact evc (Ev.now 0) (by rw [if_neg (by simp), if_neg (fun x => x h)])
    · simp only [if_neg h]; exact evc (Ev.now 3) (by rw [if_neg (by simp), if_pos h])
  | succ d ih =>
    intro a ha
    refine Ev.step (fun k => by rw [evermoreref23_Check.l1]) ?_
    simp only [if_pos (show ((a : Int) < (imgs.length : Int)) by omega)]
    have := refCheck_l2 base imgs cod hn hb hc a (by omega) (hr a (by omega)) _ (fun _ => ih (a + 1) (by omega)) (imgs.getD a []).length 0 (by omega) (by simp)
    refine evc this ?_
    rw [List.range'_succ, List.any_cons]
    by_cases h : seqs_Check.rowBad imgs.length imgs cod a = true
    · rw [if_pos h, h]; rfl
    · have h' : seqs_Check.rowBad imgs.length imgs cod a = false := by simpa using h
      rw [if_neg h, h', Bool.false_or]
theorem refCheck_l0 (base : Int) (imgs : List (List Int)) (cod : List Int) (hn : imgs.length ≤ 4) (Z : Int)
    (cont : (∀ a, a < imgs.length → ((imgs.getD a []).length : Int) = base) → Ev (fun k => evermoreref23_Check.l1 k (imgs.length : Int) 0 base imgs cod) Z) :
    ∀ d i : Nat, i + d = imgs.length → (∀ a, a < i → ((imgs.getD a []).length : Int) = base) → Ev (fun k => evermoreref23_Check.l0 k (imgs.length : Int) (i : Int) base imgs cod) (if (imgs.drop i).any (fun x => decide ((x.length : Int) ≠ base)) = true then 3 else Z) := by
  intro d
  induction d with
  | zero =>
    intro i hi hp
    refine Ev.step (fun k => by rw [evermoreref23_Check.l0]) ?_
    simp only [if_neg (show ¬ ((i : Int) < (imgs.length : Int)) by omega)]
    rw [List.drop_of_length_le (by omega)]
    exact cont (fun a ha => hp a (by omega))
  | succ d ih =>
    intro i hi hp
    refine Ev.step (fun k => by rw [evermoreref23_Check.l0]) ?_
    rw [w1 i (by omega)]
    simp only [rdL, if_pos (show ((i : Int) < (imgs.length : Int)) by omega), if_pos (show 0 ≤ (i : Int) by omega)]
    rw [drop_getD imgs i [] (by omega)]
    by_cases h : ((imgs.getD i []).length : Int) = base
    · simp only [if_pos h]
      refine evc (ih (i + 1) (by omega) (fun a ha => ?_)) ?_
      · by_cases e : a = i
        · rw [e]; exact h
        · exact hp a (by omega)
      · rw [List.any_cons, decide_eq_false (show ¬ ((imgs.getD i []).length : Int) ≠ base from fun x => x h), Bool.false_or]
    · simp only [if_neg h]
      exact evc (Ev.now 3) (by rw [List.any_cons, decide_eq_true (show ((imgs.getD i []).length : Int) ≠ base from h), Bool.true_or]; rfl)
theorem refCheck_ev (base : Int) (imgs : List (List Int)) (cod : List Int) : Ev (fun k => evermoreref23_Check.f k base imgs cod) (seqs_Check.v base imgs cod) := by
  have j1 : ∀ b : Bool, (b = true ↔ (imgs.length < 1 ∨ imgs.length > 4)) → ¬ (base < 2 ∨ base > 4) → Ev (fun k => evermoreref23_Check.j1 k (imgs.length : Int) b base imgs cod) (seqs_Check.v base imgs cod) := by
    intro b hb h0
    refine Ev.step (fun k => by rw [evermoreref23_Check.j1]) ?_
    by_cases h : b = true
    · simp only [if_pos h]
      exact evc (Ev.now 1) (by unfold seqs_Check.v; rw [if_neg h0, if_pos (hb.1 h)])
    · simp only [if_neg h]
      have hn : ¬ (imgs.length < 1 ∨ imgs.length > 4) := fun x => h (hb.2 x)
      by_cases h2 : cod.length = imgs.length
      · simp only [if_pos (show (cod.length : Int) = (imgs.length : Int) by omega)]
        have := refCheck_l0 base imgs cod (by omega) _ (fun hr => refCheck_l1 base imgs cod (by omega) (by omega) (by omega) (by omega) h2 hr imgs.length 0 (by omega)) imgs.length 0 (by omega) (fun a ha => by omega)
        refine evc this ?_
        rw [List.drop_zero]
        unfold seqs_Check.v
        rw [if_neg h0, if_neg hn]
        by_cases h3 : imgs.any (fun x => decide ((x.length : Int) ≠ base)) = true
        · rw [if_pos h3, if_pos (.inr h3)]
        · have h4 : ¬ (cod.length ≠ imgs.length ∨ imgs.any (fun x => decide ((x.length : Int) ≠ base)) = true) := fun x => Or.elim x (fun x => x h2) h3
          rw [if_neg h3, if_neg h4, List.range_eq_range']
      · simp only [if_neg (show ¬ (cod.length : Int) = (imgs.length : Int) by omega)]
        exact evc (Ev.now 3) (by unfold seqs_Check.v; rw [if_neg h0, if_neg hn, if_pos (.inl h2)])
  have j0 : ∀ b : Bool, (b = true ↔ (base < 2 ∨ base > 4)) → Ev (fun k => evermoreref23_Check.j0 k b base imgs cod) (seqs_Check.v base imgs cod) := by
    intro b hb
    refine Ev.step (fun k => by rw [evermoreref23_Check.j0]) ?_
    by_cases h : b = true
    · simp only [if_pos h]
      exact evc (Ev.now 2) (by unfold seqs_Check.v; rw [if_pos (hb.1 h)])
    · simp only [if_neg h]
      have h0 : ¬ (base < 2 ∨ base > 4) := fun x => h (hb.2 x)
      by_cases h2 : (imgs.length : Int) < 1
      · simp only [if_pos h2]; exact j1 true ⟨fun _ => .inl (by omega), fun _ => rfl⟩ h0
      · simp only [if_neg h2]; exact j1 _ (by rw [decide_eq_true_iff]; omega) h0
  unfold evermoreref23_Check.f
  by_cases h : base < 2
  · simp only [if_pos h]; exact j0 true (by simp; omega)
  · simp only [if_neg h]; exact j0 _ (by simp; omega)
theorem v_ok {base : Int} {imgs : List (List Int)} {cod : List Int} (h : seqs_Check.v base imgs cod = 0) : MOk base imgs cod := by
  unfold seqs_Check.v at h
  by_cases h1 : base < 2 ∨ base > 4
  · rw [if_pos h1] at h; omega
  rw [if_neg h1] at h
  by_cases h2 : imgs.length < 1 ∨ imgs.length > 4
  · rw [if_pos h2] at h; omega
  rw [if_neg h2] at h
  by_cases h3 : cod.length ≠ imgs.length ∨ imgs.any (fun x => decide ((x.length : Int) ≠ base)) = true
  · rw [if_pos h3] at h; omega
  rw [if_neg h3] at h
  by_cases h4 : (List.range imgs.length).any (seqs_Check.rowBad imgs.length imgs cod) = true
  · rw [if_pos h4] at h; omega
  rw [if_neg h4] at h
  by_cases h5 : rd (imgs.getD 0 []) 0 ≠ 0
  · rw [if_pos h5] at h; omega
  have hrow : ∀ i, i < imgs.length → seqs_Check.rowBad imgs.length imgs cod i = false := fun i hi => by
    cases q : seqs_Check.rowBad imgs.length imgs cod i with
    | false => rfl
    | true => exact absurd (List.any_eq_true.2 ⟨i, List.mem_range.2 hi, q⟩) h4
  refine ⟨by omega, by omega, by omega, by omega, Decidable.of_not_not fun x => h3 (.inl x), fun r hr => Decidable.of_not_not fun x => h3 (.inr (List.any_eq_true.2 ⟨r, hr, decide_eq_true x⟩)), fun r hr b hb => ?_, fun i hi => ?_, ?_⟩
  · obtain ⟨i, hi, rfl⟩ := List.getElem_of_mem hr
    have := hrow i hi
    unfold seqs_Check.rowBad at this
    rw [Bool.or_eq_false_iff, Bool.or_eq_false_iff] at this
    have hb2 := List.any_eq_false.1 this.1.1 b (by rw [List.getD_eq_getElem?_getD, List.getElem?_eq_getElem hi]; exact hb)
    unfold seqs_Check.bad at hb2
    simp at hb2
    omega
  · have := hrow i hi
    unfold seqs_Check.rowBad at this
    rw [Bool.or_eq_false_iff, Bool.or_eq_false_iff, rdN] at this
    have h6 := of_decide_eq_false this.1.2
    have h7 := of_decide_eq_false this.2
    omega
  · have : rd (imgs.getD 0 []) ((0 : Nat) : Int) = 0 := Decidable.of_not_not h5
    rw [rdN] at this
    exact this
theorem wf64 {n : Int} (h : (Lit.int .i64 n).wf = true) : -9223372036854775808 ≤ n ∧ n ≤ 9223372036854775807 := by
  simp [Lit.wf, IntKind.min, IntKind.max, IntKind.signed, IntKind.bits] at h
  omega
/-- the letter at a place -/
def letS (base : Int) (imgs : List (List Int)) (n : Nat) : Int :=
  if h : n = 0 ∨ base.toNat < 2 then 0 else (imgs.getD (letS base imgs (n / base.toNat)).toNat []).getD (n % base.toNat) 0
termination_by n
decreasing_by exact Nat.div_lt_self (by omega) (by omega)
theorem letS_zero (base : Int) (imgs : List (List Int)) : letS base imgs 0 = 0 := by rw [letS, dif_pos (.inl rfl)]
theorem letS_succ {base : Int} {imgs : List (List Int)} {n : Nat} (hb : 2 ≤ base) (h : n ≠ 0) : letS base imgs n = (imgs.getD (letS base imgs (n / base.toNat)).toNat []).getD (n % base.toNat) 0 := by
  rw [letS, dif_neg (by omega)]
theorem cell_rng {base : Int} {imgs : List (List Int)} {cod : List Int} (M : MOk base imgs cod) {t d : Nat} (ht : t < imgs.length) (hd : (d : Int) < base) : 0 ≤ (imgs.getD t []).getD d 0 ∧ (imgs.getD t []).getD d 0 < (imgs.length : Int) := by
  have hm : imgs.getD t [] ∈ imgs := getD_mem _ _ _ ht
  have hl := M.rl _ hm
  exact M.rb _ hm _ (getD_mem _ _ _ (by omega))
theorem letS_rng {base : Int} {imgs : List (List Int)} {cod : List Int} (M : MOk base imgs cod) : ∀ n, 0 ≤ letS base imgs n ∧ letS base imgs n < (imgs.length : Int) := by
  intro n
  induction n using Nat.strongRecOn with
  | _ n ih =>
    have h2 := M.b2
    have h1 := M.n1
    by_cases h : n = 0
    · subst h; rw [letS_zero]; omega
    · rw [letS_succ h2 h]
      have := ih (n / base.toNat) (Nat.div_lt_self (by omega) (by omega))
      exact cell_rng M (by omega) (by have := Nat.mod_lt n (show 0 < base.toNat by omega); omega)
theorem seqs_letter_ev {base : Int} {imgs : List (List Int)} {cod : List Int} (M : MOk base imgs cod) : ∀ n : Nat, n ≤ 9223372036854775807 → Ev (fun k => seqs_letter.f k base imgs cod (n : Int)) (letS base imgs n) := by
  intro n
  induction n using Nat.strongRecOn with
  | _ n ih =>
    intro hn
    have h2 := M.b2
    have h1 := M.n1
    refine Ev.step (fun k => by rw [seqs_letter.f]) ?_
    by_cases h : n = 0
    · subst h
      simp only [Int.natCast_zero, if_true]
      exact evc (Ev.now 0) (letS_zero _ _).symm
    · have e1 : Int.tdiv (n : Int) base = ((n / base.toNat : Nat) : Int) := by
        rw [Int.tdiv_eq_ediv_of_nonneg (by omega), Int.natCast_ediv, Int.toNat_of_nonneg (by omega)]
      have e2 : Int.tmod (n : Int) base = ((n % base.toNat : Nat) : Int) := by
        rw [Int.tmod_eq_emod_of_nonneg (by omega), Int.natCast_emod, Int.toNat_of_nonneg (by omega)]
      have hle : n / base.toNat ≤ n := Nat.div_le_self _ _
      have hlt : n / base.toNat < n := Nat.div_lt_self (by omega) (by omega)
      simp only [if_neg (show ¬ (n : Int) = 0 by omega), if_neg (show ¬ base = 0 by omega), e1, e2]
      have hnn : (0 : Int) ≤ ((n / base.toNat : Nat) : Int) := Int.natCast_nonneg _
      have hnu : ((n / base.toNat : Nat) : Int) ≤ 9223372036854775807 := by have : ((n / base.toNat : Nat) : Int) ≤ (n : Int) := Int.ofNat_le.2 hle; omega
      rw [w64 (n := ((n / base.toNat : Nat) : Int)) (Int.le_trans (by decide) hnn) hnu]
      refine Ev.bind (ih _ hlt (by omega)) ?_
      have hr := letS_rng M (n / base.toNat)
      have hm := Nat.mod_lt n (show 0 < base.toNat by omega)
      obtain ⟨t, ht⟩ := Int.eq_ofNat_of_zero_le hr.1
      have hl := M.rl _ (getD_mem imgs t [] (by omega))
      rw [letS_succ h2 h, ht]
      rw [ht] at hr
      simp only [rdL, rdN, if_pos (show 0 ≤ (t : Int) by omega), if_pos (show (t : Int) < (imgs.length : Int) by omega), if_pos (show 0 ≤ ((n % base.toNat : Nat) : Int) by omega), if_pos (show ((n % base.toNat : Nat) : Int) < ((imgs.getD t []).length : Int) by omega)]
      exact Ev.now _
/-- the digits of a place, the last one first -/
def dg (b : Nat) (n : Nat) : List Int := if h : n = 0 ∨ b < 2 then [] else ((n % b : Nat) : Int) :: dg b (n / b)
termination_by n
decreasing_by exact Nat.div_lt_self (by omega) (by omega)
def fr (imgs : List (List Int)) (D : List Int) : Int := D.foldr (fun d x => (imgs.getD x.toNat []).getD d.toNat 0) 0
theorem letS_fr {base : Int} {imgs : List (List Int)} (hb : 2 ≤ base) : ∀ n, letS base imgs n = fr imgs (dg base.toNat n) := by
  intro n
  induction n using Nat.strongRecOn with
  | _ n ih =>
    by_cases h : n = 0
    · subst h; rw [letS_zero, dg, dif_pos (.inl rfl)]; rfl
    · rw [letS_succ hb h, dg, dif_neg (by omega), ih _ (Nat.div_lt_self (by omega) (by omega))]
      show _ = (imgs.getD (fr imgs (dg base.toNat (n / base.toNat))).toNat []).getD (((n % base.toNat : Nat) : Int)).toNat 0
      rw [Int.toNat_natCast]
theorem dg_rng {b : Nat} : ∀ n, ∀ d ∈ dg b n, 0 ≤ d ∧ d < (b : Int) := by
  intro n
  induction n using Nat.strongRecOn with
  | _ n ih =>
    intro d hd
    rw [dg] at hd
    by_cases h : n = 0 ∨ b < 2
    · rw [dif_pos h] at hd; cases hd
    · rw [dif_neg h] at hd
      rcases List.mem_cons.1 hd with rfl | hd
      · have := Nat.mod_lt n (show 0 < b by omega); omega
      · exact ih _ (Nat.div_lt_self (by omega) (by omega)) d hd
theorem dg_len {b : Nat} (hb : 2 ≤ b) : ∀ (m n : Nat), n < 2 ^ m → (dg b n).length ≤ m := by
  intro m
  induction m with
  | zero => intro n h; have : n = 0 := by omega
            subst this; rw [dg, dif_pos (.inl rfl)]; simp
  | succ m ih =>
    intro n h
    rw [dg]
    by_cases h0 : n = 0 ∨ b < 2
    · rw [dif_pos h0]; simp
    · rw [dif_neg h0, List.length_cons]
      have : n / b < 2 ^ m := by
        have : n / b ≤ n / 2 := Nat.div_le_div_left hb (by decide)
        have : n / 2 < 2 ^ m := by rw [Nat.div_lt_iff_lt_mul (by decide)]; rw [Nat.pow_succ] at h; exact h
        omega
      have := ih _ this
      omega
theorem fr_rng {base : Int} {imgs : List (List Int)} {cod : List Int} (M : MOk base imgs cod) : ∀ D : List Int, (∀ d ∈ D, 0 ≤ d ∧ d < base) → 0 ≤ fr imgs D ∧ fr imgs D < (imgs.length : Int) := by
  intro D
  induction D with
  | nil => intro _; have := M.n1; show (0 : Int) ≤ 0 ∧ (0 : Int) < _; omega
  | cons d D ih =>
    intro h
    have h1 := h d List.mem_cons_self
    have h2 := ih (fun x hx => h x (List.mem_cons_of_mem _ hx))
    show 0 ≤ (imgs.getD (fr imgs D).toNat []).getD d.toNat 0 ∧ (imgs.getD (fr imgs D).toNat []).getD d.toNat 0 < _
    exact cell_rng M (by omega) (by omega)
theorem refLetter_l1 {base : Int} {imgs : List (List Int)} {cod : List Int} (M : MOk base imgs cod) (D : List Int) (hD : ∀ d ∈ D, 0 ≤ d ∧ d < base) (hl : D.length ≤ 100) : ∀ j : Nat, j ≤ D.length → Ev (fun k => evermoreref23_Letter.l1 k D (fr imgs (D.drop j)) ((j : Int) - 1) base imgs cod) (fr imgs D) := by
  intro j
  induction j with
  | zero =>
    intro _
    refine Ev.step (fun k => by rw [evermoreref23_Letter.l1]) ?_
    simp only [if_neg (show ¬ (((0 : Nat) : Int) - 1 ≥ 0) by decide)]
    exact evc (Ev.now _) (by rw [List.drop_zero])
  | succ j ih =>
    intro hj
    refine Ev.step (fun k => by rw [evermoreref23_Letter.l1]) ?_
    rw [show ((j + 1 : Nat) : Int) - 1 = (j : Int) by omega, w64 (n := (j : Int) - 1) (by omega) (by omega)]
    have hr := fr_rng M (D.drop (j + 1)) (fun d hd => hD d (List.mem_of_mem_drop hd))
    obtain ⟨t, ht⟩ := Int.eq_ofNat_of_zero_le hr.1
    have hd := hD _ (getD_mem D j 0 (by omega))
    obtain ⟨q, hq⟩ := Int.eq_ofNat_of_zero_le hd.1
    rw [ht] at hr ⊢
    have hrl := M.rl _ (getD_mem imgs t [] (by omega))
    have e := ih (by omega)
    rw [drop_getD D j 0 (by omega)] at e
    simp only [rdN, rdL, hq, if_pos (show (j : Int) ≥ 0 by omega), if_pos (show 0 ≤ (t : Int) by omega), if_pos (show (t : Int) < (imgs.length : Int) by omega), if_pos (show 0 ≤ (j : Int) by omega), if_pos (show (j : Int) < (D.length : Int) by omega), if_pos (show 0 ≤ (q : Int) by omega),
      if_pos (show (q : Int) < ((imgs.getD t []).length : Int) by omega)]
    have : fr imgs (D.getD j 0 :: D.drop (j + 1)) = (imgs.getD t []).getD q 0 := by
      show (imgs.getD (fr imgs (D.drop (j + 1))).toNat []).getD (D.getD j 0).toNat 0 = _
      rw [ht, hq]; rfl
    rw [this] at e
    exact e
theorem refLetter_l0 {base : Int} {imgs : List (List Int)} {cod : List Int} (M : MOk base imgs cod) : ∀ (n : Nat) (D : List Int), n ≤ 9223372036854775807 → (∀ d ∈ D ++ dg base.toNat n, 0 ≤ d ∧ d < base) → (D ++ dg base.toNat n).length ≤ 100 →
    Ev (fun k => evermoreref23_Letter.l0 k (n : Int) D base imgs cod) (fr imgs (D ++ dg base.toNat n)) := by
  intro n
  induction n using Nat.strongRecOn with
  | _ n ih =>
    intro D hn hD hl
    have h2 := M.b2
    refine Ev.step (fun k => by rw [evermoreref23_Letter.l0]) ?_
    by_cases h : n = 0
    · subst h
      rw [dg, dif_pos (.inl rfl), List.append_nil] at hD hl ⊢
      simp only [if_neg (show ¬ (((0 : Nat) : Int) > 0) by decide)]
      rw [w64 (n := (D.length : Int) - 1) (by omega) (by omega)]
      have := refLetter_l1 M D hD hl D.length (Nat.le_refl _)
      rw [List.drop_length] at this
      exact this
    · have e1 : Int.tdiv (n : Int) base = ((n / base.toNat : Nat) : Int) := by
        rw [Int.tdiv_eq_ediv_of_nonneg (by omega), Int.natCast_ediv, Int.toNat_of_nonneg (by omega)]
      have e2 : Int.tmod (n : Int) base = ((n % base.toNat : Nat) : Int) := by
        rw [Int.tmod_eq_emod_of_nonneg (by omega), Int.natCast_emod, Int.toNat_of_nonneg (by omega)]
      have hlt : n / base.toNat < n := Nat.div_lt_self (by omega) (by omega)
      have hs : D ++ dg base.toNat n = (D ++ [((n % base.toNat : Nat) : Int)]) ++ dg base.toNat (n / base.toNat) := by
        rw [dg, dif_neg (by omega), List.append_assoc]; rfl
      have hDl : D.length ≤ 100 := by rw [List.length_append] at hl; omega
      simp only [if_pos (show (n : Int) > 0 by omega), if_neg (show ¬ base = 0 by omega), if_pos (show D.length < 17592186044416 by omega), e1, e2]
      have hnn : (0 : Int) ≤ ((n / base.toNat : Nat) : Int) := Int.natCast_nonneg _
      have hnu : ((n / base.toNat : Nat) : Int) ≤ 9223372036854775807 := by have : ((n / base.toNat : Nat) : Int) ≤ (n : Int) := Int.ofNat_le.2 (Nat.div_le_self _ _); omega
      rw [w64 (n := ((n / base.toNat : Nat) : Int)) (Int.le_trans (by decide) hnn) hnu]
      rw [hs] at hD hl ⊢
      exact ih _ hlt _ (by omega) hD hl
theorem refLetter_ev {base : Int} {imgs : List (List Int)} {cod : List Int} (M : MOk base imgs cod) (n : Nat) (hn : n ≤ 9223372036854775807) : Ev (fun k => evermoreref23_Letter.f k base imgs cod (n : Int)) (letS base imgs n) := by
  unfold evermoreref23_Letter.f
  have h2 := M.b2
  rw [letS_fr M.b2]
  have := refLetter_l0 M n [] hn (fun d hd => by have := dg_rng n d hd; omega) (by have := dg_len (b := base.toNat) (by omega) 63 n (by omega); simp; omega)
  exact this
theorem evermoreref1_Words_l0 (a b : List Int) (hl : a.length = b.length) (hb : a.length ≤ 9223372036854775000) : ∀ d i : Nat, i + d = a.length → Ev (fun k => evermoreref1_Words.l0 k a b (i : Int)) (decide (a.drop i = b.drop i)) := by
  intro d
  induction d with
  | zero =>
    intro i hi
    refine Ev.step (fun k => by rw [evermoreref1_Words.l0]) ?_
    simp only [if_neg (show ¬ ((i : Int) < (a.length : Int)) by omega)]
    rw [List.drop_of_length_le (by omega), List.drop_of_length_le (by omega)]
    simpa using Ev.now true
  | succ d ih =>
    intro i hi
    refine Ev.step (fun k => by rw [evermoreref1_Words.l0]) ?_
    have h1 : i < a.length := by omega
    have h2 : i < b.length := by omega
    simp only [if_pos (show ((i : Int) < (a.length : Int)) by omega), if_pos (show (0 ≤ (i : Int)) by omega), if_pos (show ((i : Int) < (b.length : Int)) by omega), rdn a i h1, rdn b i h2]
    rw [List.drop_eq_getElem_cons h1, List.drop_eq_getElem_cons h2]
    by_cases e : a[i] = b[i]
    · simp only [if_pos e]
      have := ih (i + 1) (by omega)
      rw [show wrap64 ((i : Int) + 1) = ((i + 1 : Nat) : Int) from by rw [w64 (by omega) (by omega)]; omega]
      exact evc this (by simp only [List.cons.injEq, e, true_and])
    · simp only [if_neg e]
      exact evc (Ev.now false) (by simp only [List.cons.injEq, e, false_and, decide_false])
theorem evermoreref1_Words_ev (a b : List Int) (hb : a.length ≤ 9223372036854775000) : Ev (fun k => evermoreref1_Words.f k a b) (decide (a = b)) := by
  unfold evermoreref1_Words.f
  by_cases h : a.length = b.length
  · simp only [if_pos (show ((a.length : Int) = (b.length : Int)) by omega)]
    exact evermoreref1_Words_l0 a b h hb a.length 0 (by omega)
  · simp only [if_neg (show ¬ ((a.length : Int) = (b.length : Int)) by omega)]
    have : a ≠ b := fun e => h (by rw [e])
    simpa [this] using Ev.now false
/-- how many of the first n letters are b -/
def cnt (base : Int) (imgs : List (List Int)) : Nat → Nat → Int
  | 0, _ => 0
  | n + 1, b => cnt base imgs n b + (if letS base imgs n = (b : Int) then 1 else 0)
/-- how often b stands in the first i places of a row -/
def occ (r : List Int) : Nat → Nat → Int
  | 0, _ => 0
  | i + 1, b => occ r i b + (if r.getD i 0 = (b : Int) then 1 else 0)
/-- the sum over the letters below i of v times their rows -/
def dis (imgs : List (List Int)) (len : Nat) (v : Nat → Int) : Nat → Nat → Int
  | 0, _ => 0
  | i + 1, b => dis imgs len v i b + v i * occ (imgs.getD i []) len b
theorem cnt_succ (base : Int) (imgs : List (List Int)) (n b : Nat) : cnt base imgs (n + 1) b = cnt base imgs n b + (if letS base imgs n = (b : Int) then 1 else 0) := rfl
theorem occ_succ (r : List Int) (i b : Nat) : occ r (i + 1) b = occ r i b + (if r.getD i 0 = (b : Int) then 1 else 0) := rfl
theorem dis_succ (imgs : List (List Int)) (len : Nat) (v : Nat → Int) (i b : Nat) : dis imgs len v (i + 1) b = dis imgs len v i b + v i * occ (imgs.getD i []) len b := rfl
theorem cnt_rng (base : Int) (imgs : List (List Int)) : ∀ n b, 0 ≤ cnt base imgs n b ∧ cnt base imgs n b ≤ n
  | 0, b => by simp [cnt]
  | n + 1, b => by
    have := cnt_rng base imgs n b
    unfold cnt
    split <;> omega
theorem occ_rng (r : List Int) : ∀ i b, 0 ≤ occ r i b ∧ occ r i b ≤ i
  | 0, b => by simp [occ]
  | i + 1, b => by
    have := occ_rng r i b
    unfold occ
    split <;> omega
theorem dis_add (imgs : List (List Int)) (len : Nat) (v v' : Nat → Int) (t : Nat) (hv : ∀ a, v' a = v a + if a = t then 1 else 0) : ∀ i b, dis imgs len v' i b = dis imgs len v i b + if t < i then occ (imgs.getD t []) len b else 0
  | 0, b => by simp [dis]
  | i + 1, b => by
    have ih := dis_add imgs len v v' t hv i b
    rw [dis_succ, dis_succ, ih, hv i]
    by_cases h1 : i = t
    · subst h1
      rw [if_pos rfl, if_neg (Nat.lt_irrefl _), if_pos (Nat.lt_succ_self _), Int.add_mul, Int.one_mul]; omega
    · rw [if_neg h1, Int.add_zero]
      by_cases h2 : t < i
      · rw [if_pos h2, if_pos (by omega)]; omega
      · rw [if_neg h2, if_neg (by omega)]; omega
theorem dis_zero (imgs : List (List Int)) (len : Nat) (v : Nat → Int) (hv : ∀ a, v a = 0) : ∀ i b, dis imgs len v i b = 0
  | 0, b => rfl
  | i + 1, b => by rw [dis_succ, dis_zero imgs len v hv i b, hv, Int.zero_mul]; rfl
theorem letS_block {base : Int} {imgs : List (List Int)} {cod : List Int} (M : MOk base imgs cod) (m d : Nat) (hd : d < base.toNat) : letS base imgs (m * base.toNat + d) = (imgs.getD (letS base imgs m).toNat []).getD d 0 := by
  have h2 := M.b2
  by_cases h : m * base.toNat + d = 0
  · have hm : m = 0 := by
      rcases Nat.eq_zero_or_pos m with x | x
      · exact x
      · have := Nat.mul_le_mul x (show 1 ≤ base.toNat by omega); omega
    subst hm
    have hd0 : d = 0 := by omega
    subst hd0
    rw [Nat.zero_mul, letS_zero]
    exact M.z.symm
  · rw [letS_succ h2 h]
    have e1 : (m * base.toNat + d) / base.toNat = m := by rw [Nat.mul_comm, Nat.mul_add_div (by omega), Nat.div_eq_of_lt hd, Nat.add_zero]
    have e2 : (m * base.toNat + d) % base.toNat = d := by rw [Nat.mul_comm, Nat.mul_add_mod, Nat.mod_eq_of_lt hd]
    rw [e1, e2]
theorem cnt_block {base : Int} {imgs : List (List Int)} {cod : List Int} (M : MOk base imgs cod) (m : Nat) (b : Nat) : ∀ d, d ≤ base.toNat → cnt base imgs (m * base.toNat + d) b = cnt base imgs (m * base.toNat) b + occ (imgs.getD (letS base imgs m).toNat []) d b := by
  intro d
  induction d with
  | zero => intro _; rw [Nat.add_zero]; unfold occ; omega
  | succ d ih =>
    intro hd
    rw [← Nat.add_assoc]
    rw [cnt_succ, occ_succ, ih (by omega), letS_block M m d (by omega)]
    omega
theorem cnt_dis {base : Int} {imgs : List (List Int)} {cod : List Int} (M : MOk base imgs cod) (b : Nat) : ∀ m, cnt base imgs (m * base.toNat) b = dis imgs base.toNat (cnt base imgs m) imgs.length b := by
  intro m
  induction m with
  | zero => rw [Nat.zero_mul, dis_zero imgs base.toNat (cnt base imgs 0) (fun a => rfl)]; rfl
  | succ m ih =>
    have hr := letS_rng M m
    obtain ⟨t, ht⟩ := Int.eq_ofNat_of_zero_le hr.1
    rw [Nat.succ_mul, cnt_block M m b base.toNat (Nat.le_refl _), ih, dis_add imgs base.toNat (cnt base imgs m) (cnt base imgs (m + 1)) t (fun a => ?_), ht, Int.toNat_natCast, if_pos (by omega)]
    rw [cnt_succ, ht]
    by_cases h : a = t
    · rw [if_pos h, if_pos (by omega)]
    · rw [if_neg h, if_neg (by omega)]
/-- a list that holds v -/
def Holds (L : List Int) (n : Nat) (v : Nat → Int) : Prop := L.length = n ∧ ∀ b, b < n → L.getD b 0 = v b
theorem Holds.ext {L L' : List Int} {n : Nat} {v : Nat → Int} (h : Holds L n v) (h' : Holds L' n v) : L = L' := by
  apply List.ext_getElem (by rw [h.1, h'.1])
  intro j h1 h2
  have a := h.2 j (by rw [← h.1]; exact h1)
  have b := h'.2 j (by rw [← h'.1]; exact h2)
  rw [List.getD_eq_getElem?_getD, List.getElem?_eq_getElem h1] at a
  rw [List.getD_eq_getElem?_getD, List.getElem?_eq_getElem h2] at b
  exact a.trans b.symm
theorem Holds.congr {L : List Int} {n : Nat} {v v' : Nat → Int} (h : Holds L n v) (e : ∀ b, b < n → v b = v' b) : Holds L n v' := ⟨h.1, fun b hb => (h.2 b hb).trans (e b hb)⟩
theorem Holds.bump {L : List Int} {n : Nat} {v : Nat → Int} (h : Holds L n v) (t : Nat) (ht : t < n) (x : Int) : Holds (L.set t (L.getD t 0 + x)) n (fun b => v b + if t = b then x else 0) := by
  refine ⟨by rw [List.length_set]; exact h.1, fun b hb => ?_⟩
  rw [List.getD_eq_getElem?_getD, List.getElem?_set]
  show _ = v b + if t = b then x else 0
  by_cases e : t = b
  · subst e
    rw [if_pos rfl, if_pos (by rw [h.1]; exact ht), if_pos rfl, h.2 t ht]; rfl
  · rw [if_neg e, if_neg e, ← List.getD_eq_getElem?_getD, h.2 b hb]; omega
theorem Holds.zeros (n : Nat) : Holds (List.replicate n 0) n (fun _ => 0) := by
  refine ⟨List.length_replicate .., fun b hb => ?_⟩
  rw [List.getD_eq_getElem?_getD, List.getElem?_replicate, if_pos hb]; rfl
/-! the program's counts -/
theorem counts_l2 {base : Int} {imgs : List (List Int)} {cod : List Int} (M : MOk base imgs cod) (n : Nat) (hn : n ≤ 1000000000000000) : ∀ d i : Nat, i + d = n → ∀ L, Holds L imgs.length (cnt base imgs i) → ∃ r, Ev (fun k => seqs_counts.l2 k (n : Int) L (i : Int) base imgs cod) r ∧ Holds r imgs.length (cnt base imgs n) := by
  intro d
  induction d with
  | zero =>
    intro i hi L hL
    refine ⟨L, ?_, by rw [← show i = n by omega]; exact hL⟩
    refine Ev.step (fun k => by rw [seqs_counts.l2]) ?_
    simp only [if_neg (show ¬ (i : Int) < (n : Int) by omega)]
    exact Ev.now _
  | succ d ih =>
    intro i hi L hL
    have hr := letS_rng M i
    obtain ⟨t, ht⟩ := Int.eq_ofNat_of_zero_le hr.1
    have hc := cnt_rng base imgs i t
    have hv := hL.2 t (by omega)
    obtain ⟨r, hr2, hq⟩ := ih (i + 1) (by omega) (L.set t (L.getD t 0 + 1)) ((hL.bump t (by omega) 1).congr (fun b hb => by
      rw [cnt_succ, ht]
      by_cases e : t = b
      · rw [if_pos e, if_pos (by omega)]
      · rw [if_neg e, if_neg (by omega)]))
    refine ⟨r, ?_, hq⟩
    refine Ev.step (fun k => by rw [seqs_counts.l2]) ?_
    simp only [if_pos (show (i : Int) < (n : Int) by omega)]
    refine Ev.bind (seqs_letter_ev M i (by omega)) ?_
    have hl := hL.1
    rw [ht]
    simp only [rdN, Int.toNat_natCast, if_pos (show 0 ≤ (t : Int) by omega), if_pos (show (t : Int) < (L.length : Int) by omega), w1 i (by omega), w64 (n := L.getD t 0 + 1) (by omega) (by omega)]
    exact hr2
theorem dis_rng (imgs : List (List Int)) (len : Nat) (v : Nat → Int) (B : Int) (hl : len ≤ 4) (hv : ∀ a, 0 ≤ v a ∧ v a ≤ B) (hB : 0 ≤ B) : ∀ i b, 0 ≤ dis imgs len v i b ∧ dis imgs len v i b ≤ 4 * B * i
  | 0, b => by simp [dis]
  | i + 1, b => by
    have ih := dis_rng imgs len v B hl hv hB i b
    have h1 := occ_rng (imgs.getD i []) len b
    have h2 := hv i
    unfold dis
    have h3 : 0 ≤ v i * occ (imgs.getD i []) len b := Int.mul_nonneg h2.1 h1.1
    have h4 : v i * occ (imgs.getD i []) len b ≤ B * 4 := Int.mul_le_mul h2.2 (by omega) h1.1 hB
    have h5 : 4 * B * ((i + 1 : Nat) : Int) = 4 * B * (i : Int) + 4 * B := by rw [Int.natCast_add, Int.mul_add]; omega
    rw [h5]
    omega
theorem counts_l1 {base : Int} {imgs : List (List Int)} {cod : List Int} (M : MOk base imgs cod) (n : Nat) (C : List Int) (w : Nat → Int) (hC : Holds C imgs.length w) (a : Nat) (ha : a < imgs.length) (hw : 0 ≤ w a ∧ w a ≤ 1000000000000000) (hd : ∀ b, 0 ≤ dis imgs base.toNat w a b ∧ dis imgs base.toNat w a b ≤ 100000000000000000) (Q : List Int → Prop)
    (cont : ∀ L, Holds L imgs.length (dis imgs base.toNat w (a + 1)) → ∃ r, Ev (fun k => seqs_counts.l0 k (n : Int) L C (C.length : Int) ((a + 1 : Nat) : Int) base imgs cod) r ∧ Q r) :
    ∀ d i : Nat, i + d = (imgs.getD a []).length → ∀ L, Holds L imgs.length (fun b => dis imgs base.toNat w a b + w a * occ (imgs.getD a []) i b) →
      ∃ r, Ev (fun k => seqs_counts.l1 k (n : Int) L (w a) C (C.length : Int) (a : Int) (imgs.getD a []) ((imgs.getD a []).length : Int) (i : Int) base imgs cod) r ∧ Q r := by
  have hrow : ((imgs.getD a []).length : Int) = base := M.rl _ (getD_mem _ _ _ ha)
  have h4 := M.b4
  have hn4 := M.n4
  intro d
  induction d with
  | zero =>
    intro i hi L hL
    obtain ⟨r, hr, hq⟩ := cont L (hL.congr (fun b hb => by
      show _ = dis imgs base.toNat w a b + w a * occ (imgs.getD a []) base.toNat b
      rw [show base.toNat = i by omega]))
    refine ⟨r, ?_, hq⟩
    refine Ev.step (fun k => by rw [seqs_counts.l1]) ?_
    simp only [if_neg (show ¬ (i : Int) < ((imgs.getD a []).length : Int) by omega), w1 a (by omega)]
    exact hr
  | succ d ih =>
    intro i hi L hL
    have hcell := cell_rng M ha (show ((i : Nat) : Int) < base by omega)
    obtain ⟨t, ht⟩ := Int.eq_ofNat_of_zero_le hcell.1
    have ho := occ_rng (imgs.getD a []) i t
    have hv : L.getD t 0 = dis imgs base.toNat w a t + w a * occ (imgs.getD a []) i t := hL.2 t (by omega)
    have hdt := hd t
    have hm : 0 ≤ w a * occ (imgs.getD a []) i t := Int.mul_nonneg hw.1 ho.1
    have hm2 : w a * occ (imgs.getD a []) i t ≤ 1000000000000000 * 4 := Int.mul_le_mul hw.2 (by omega) ho.1 (by decide)
    obtain ⟨r, hr, hq⟩ := ih (i + 1) (by omega) (L.set t (L.getD t 0 + w a)) ((hL.bump t (by omega) (w a)).congr (fun b hb => by
      show dis imgs base.toNat w a b + w a * occ (imgs.getD a []) i b + (if t = b then w a else 0) = dis imgs base.toNat w a b + w a * occ (imgs.getD a []) (i + 1) b
      rw [occ_succ, ht]
      by_cases e : t = b
      · rw [if_pos e, if_pos (by omega), Int.mul_add, Int.mul_one]; omega
      · rw [if_neg e, if_neg (by omega), Int.add_zero, Int.add_zero]))
    refine ⟨r, ?_, hq⟩
    refine Ev.step (fun k => by rw [seqs_counts.l1]) ?_
    have hl := hL.1
    rw [show rd (imgs.getD a []) (i : Int) = (t : Int) from by rw [rdN]; exact ht]
    simp only [rdN, Int.toNat_natCast, if_pos (show (i : Int) < ((imgs.getD a []).length : Int) by omega), if_pos (show 0 ≤ (i : Int) by omega), if_pos (show 0 ≤ (t : Int) by omega), if_pos (show (t : Int) < (L.length : Int) by omega), w1 i (by omega), w64 (n := L.getD t 0 + w a) (by omega) (by omega)]
    exact hr
theorem counts_l0 {base : Int} {imgs : List (List Int)} {cod : List Int} (M : MOk base imgs cod) (n : Nat) (hn : n ≤ 1000000000000000) (C : List Int) (hC : Holds C imgs.length (cnt base imgs (n / base.toNat))) :
    ∀ d a : Nat, a + d = imgs.length → ∀ L, Holds L imgs.length (dis imgs base.toNat (cnt base imgs (n / base.toNat)) a) → ∃ r, Ev (fun k => seqs_counts.l0 k (n : Int) L C (C.length : Int) (a : Int) base imgs cod) r ∧ Holds r imgs.length (cnt base imgs n) := by
  have h2 := M.b2
  have h4 := M.b4
  have hn4 := M.n4
  have hq : n / base.toNat ≤ n := Nat.div_le_self _ _
  have hdm := Nat.div_add_mod n base.toNat
  have hmul : n / base.toNat * base.toNat ≤ n := Nat.div_mul_le_self _ _
  have hcb : ∀ a, 0 ≤ cnt base imgs (n / base.toNat) a ∧ cnt base imgs (n / base.toNat) a ≤ 1000000000000000 := fun a => by
    have := cnt_rng base imgs (n / base.toNat) a
    have h : ((n / base.toNat : Nat) : Int) ≤ (n : Int) := Int.ofNat_le.2 hq
    omega
  intro d
  induction d with
  | zero =>
    intro a ha L hL
    have hal : a = imgs.length := by omega
    subst hal
    obtain ⟨r, hr, hh⟩ := counts_l2 M n hn (n - n / base.toNat * base.toNat) (n / base.toNat * base.toNat) (by omega) L (hL.congr (fun b _ => (cnt_dis M b (n / base.toNat)).symm))
    refine ⟨r, ?_, hh⟩
    refine Ev.step (fun k => by rw [seqs_counts.l0]) ?_
    have e1 : Int.tdiv (n : Int) base = ((n / base.toNat : Nat) : Int) := by
      rw [Int.tdiv_eq_ediv_of_nonneg (by omega), Int.natCast_ediv, Int.toNat_of_nonneg (by omega)]
    have e2 : ((n / base.toNat : Nat) : Int) * base = ((n / base.toNat * base.toNat : Nat) : Int) := by rw [Int.natCast_mul, Int.toNat_of_nonneg (by omega)]
    have e3 : ((n / base.toNat : Nat) : Int) ≤ (n : Int) := Int.ofNat_le.2 hq
    have e4 : (0 : Int) ≤ ((n / base.toNat : Nat) : Int) := Int.natCast_nonneg _
    have e5 : ((n / base.toNat * base.toNat : Nat) : Int) ≤ (n : Int) := Int.ofNat_le.2 hmul
    have e6 : (0 : Int) ≤ ((n / base.toNat * base.toNat : Nat) : Int) := Int.natCast_nonneg _
    have hcl := hC.1
    rw [e1, w64 (n := ((n / base.toNat : Nat) : Int)) (Int.le_trans (by decide) e4) (Int.le_trans e3 (by omega)), e2, w64 (n := ((n / base.toNat * base.toNat : Nat) : Int)) (Int.le_trans (by decide) e6) (Int.le_trans e5 (by omega))]
    simp only [if_neg (show ¬ (imgs.length : Int) < (C.length : Int) by omega), if_neg (show ¬ base = 0 by omega)]
    exact hr
  | succ d ih =>
    intro a ha L hL
    have hcl := hC.1
    have hdr := dis_rng imgs base.toNat (cnt base imgs (n / base.toNat)) 1000000000000000 (by omega) hcb (by decide) a
    obtain ⟨r, hr, hh⟩ := counts_l1 M n C (cnt base imgs (n / base.toNat)) hC a (by omega) (hcb a) (fun b => by have := hdr b; omega) _ (fun L hL => ih (a + 1) (by omega) L hL) (imgs.getD a []).length 0 (by omega) L (hL.congr (fun b _ => by show _ = _ + _ * 0; omega))
    refine ⟨r, ?_, hh⟩
    refine Ev.step (fun k => by rw [seqs_counts.l0]) ?_
    simp only [rdL, rdN, hC.2 a (by omega), if_pos (show (a : Int) < (C.length : Int) by omega), if_pos (show 0 ≤ (a : Int) by omega), if_pos (show (a : Int) < (imgs.length : Int) by omega)]
    exact hr
theorem counts_ev {base : Int} {imgs : List (List Int)} {cod : List Int} (M : MOk base imgs cod) : ∀ n : Nat, n ≤ 1000000000000000 → ∃ r, Ev (fun k => seqs_counts.f k base imgs cod (n : Int)) r ∧ Holds r imgs.length (cnt base imgs n) := by
  intro n
  induction n using Nat.strongRecOn with
  | _ n ih =>
    intro hn
    have h2 := M.b2
    have h4 := M.b4
    have hn4 := M.n4
    have hn1 := M.n1
    have pre : ∀ (g : Nat → List Int → Option (List Int)) (r : List Int), Ev (fun k => g k (List.replicate imgs.length 0)) r → Ev (fun k => if 0 ≤ (imgs.length : Int) then (if ((imgs.length : Int) : Int).toNat ≤ 35184372088832 then ((some (List.replicate ((imgs.length : Int) : Int).toNat 0 : List Int)).bind fun y118 => g k y118) else none) else none) r := by
      intro g r h
      simp only [if_pos (show 0 ≤ (imgs.length : Int) by omega), Int.toNat_natCast, if_pos (show imgs.length ≤ 35184372088832 by omega), Option.bind_some]
      exact h
    by_cases h0 : n = 0
    · subst h0
      refine ⟨List.replicate imgs.length 0, ?_, Holds.zeros _⟩
      refine Ev.step (fun k => by rw [seqs_counts.f]) ?_
      refine pre _ _ ?_
      simp only [Int.natCast_zero, if_true]
      exact Ev.now _
    · by_cases h1 : n = 1
      · subst h1
        refine ⟨(List.replicate imgs.length 0).set 0 1, ?_, ?_⟩
        · refine Ev.step (fun k => by rw [seqs_counts.f]) ?_
          refine pre _ _ ?_
          simp only [show ¬ (((1 : Nat) : Int) = 0) by decide, if_false, show (((1 : Nat) : Int) = 1) by rfl, if_true, List.length_replicate, if_pos (show (0 : Int) < (imgs.length : Int) by omega)]
          exact Ev.now _
        · have := (Holds.zeros imgs.length).bump 0 (by omega) 1
          have e : (List.replicate imgs.length (0 : Int)).getD 0 0 + 1 = 1 := by
            rw [(Holds.zeros imgs.length).2 0 (by omega)]; rfl
          rw [e] at this
          refine this.congr (fun b _ => ?_)
          show (0 : Int) + _ = 0 + _
          rw [letS_zero]
          by_cases e : 0 = b
          · rw [if_pos e, if_pos (by omega)]
          · rw [if_neg e, if_neg (by omega)]
      · have hlt : n / base.toNat < n := Nat.div_lt_self (by omega) (by omega)
        obtain ⟨C, hC, hH⟩ := ih (n / base.toNat) hlt (by omega)
        obtain ⟨r, hr, hh⟩ := counts_l0 M n hn C hH imgs.length 0 (by omega) (List.replicate imgs.length 0) (Holds.zeros _)
        refine ⟨r, ?_, hh⟩
        refine Ev.step (fun k => by rw [seqs_counts.f]) ?_
        refine pre _ _ ?_
        have e1 : Int.tdiv (n : Int) base = ((n / base.toNat : Nat) : Int) := by
          rw [Int.tdiv_eq_ediv_of_nonneg (by omega), Int.natCast_ediv, Int.toNat_of_nonneg (by omega)]
        have e3 : ((n / base.toNat : Nat) : Int) ≤ (n : Int) := Int.ofNat_le.2 (Nat.div_le_self _ _)
        have e4 : (0 : Int) ≤ ((n / base.toNat : Nat) : Int) := Int.natCast_nonneg _
        rw [e1, w64 (n := ((n / base.toNat : Nat) : Int)) (Int.le_trans (by decide) e4) (Int.le_trans e3 (by omega))]
        simp only [if_neg (show ¬ (n : Int) = 0 by omega), if_neg (show ¬ (n : Int) = 1 by omega), if_neg (show ¬ base = 0 by omega)]
        refine Ev.bind hC ?_
        exact hr
/-! the reference's counts -/
theorem rlet {base : Int} {imgs : List (List Int)} {cod : List Int} (M : MOk base imgs cod) (n : Nat) (hn : n ≤ 1000000000000000) (F : Nat → Int → List Int → Int → Int → List (List Int) → List Int → Option (List Int))
    (hF : ∀ k x1 x5 x6 b im c, F (k + 1) x1 x5 x6 b im c = if x6 < x1 then ((evermoreref23_Letter.f k b im c x6).bind fun t156 => (if 0 ≤ t156 then (if t156 < (x5.length : Int) then (F k x1 (x5.set (t156 : Int).toNat (wrap64 ((rd x5 t156) + 1))) (wrap64 (x6 + 1)) b im c) else (none)) else (none))) else (some x5)) :
    ∀ d i : Nat, i + d = n → ∀ L, Holds L imgs.length (cnt base imgs i) → ∃ r, Ev (fun k => F k (n : Int) L (i : Int) base imgs cod) r ∧ Holds r imgs.length (cnt base imgs n) := by
  intro d
  induction d with
  | zero =>
    intro i hi L hL
    refine ⟨L, ?_, by rw [← show i = n by omega]; exact hL⟩
    refine Ev.step (fun k => by rw [hF]) ?_
    simp only [if_neg (show ¬ (i : Int) < (n : Int) by omega)]
    exact Ev.now _
  | succ d ih =>
    intro i hi L hL
    have hr := letS_rng M i
    obtain ⟨t, ht⟩ := Int.eq_ofNat_of_zero_le hr.1
    have hc := cnt_rng base imgs i t
    have hv := hL.2 t (by omega)
    obtain ⟨r, hr2, hq⟩ := ih (i + 1) (by omega) (L.set t (L.getD t 0 + 1)) ((hL.bump t (by omega) 1).congr (fun b hb => by
      rw [cnt_succ, ht]
      by_cases e : t = b
      · rw [if_pos e, if_pos (by omega)]
      · rw [if_neg e, if_neg (by omega)]))
    refine ⟨r, ?_, hq⟩
    refine Ev.step (fun k => by rw [hF]) ?_
    simp only [if_pos (show (i : Int) < (n : Int) by omega)]
    refine Ev.bind (refLetter_ev M i (by omega)) ?_
    have hl := hL.1
    rw [ht]
    simp only [rdN, Int.toNat_natCast, if_pos (show 0 ≤ (t : Int) by omega), if_pos (show (t : Int) < (L.length : Int) by omega), w1 i (by omega), w64 (n := L.getD t 0 + 1) (by omega) (by omega)]
    exact hr2
theorem below_l2 {base : Int} {imgs : List (List Int)} {cod : List Int} (M : MOk base imgs cod) (n : Nat) (C : List Int) (w : Nat → Int) (hC : Holds C imgs.length w) (a : Nat) (ha : a < imgs.length) (hw : 0 ≤ w a ∧ w a ≤ 1000000000000000) (hd : ∀ b, 0 ≤ dis imgs base.toNat w a b ∧ dis imgs base.toNat w a b ≤ 100000000000000000) (Q : List Int → Prop)
    (cont : ∀ L, Holds L imgs.length (dis imgs base.toNat w (a + 1)) → ∃ r, Ev (fun k => evermoreref23_Below.l1 k (n : Int) L C ((a + 1 : Nat) : Int) base imgs cod) r ∧ Q r) :
    ∀ d i : Nat, i + d = (imgs.getD a []).length → ∀ L, Holds L imgs.length (fun b => dis imgs base.toNat w a b + w a * occ (imgs.getD a []) i b) →
      ∃ r, Ev (fun k => evermoreref23_Below.l2 k (n : Int) L C (a : Int) (i : Int) base imgs cod) r ∧ Q r := by
  have hrow : ((imgs.getD a []).length : Int) = base := M.rl _ (getD_mem _ _ _ ha)
  have h4 := M.b4
  have hn4 := M.n4
  have hcl := hC.1
  intro d
  induction d with
  | zero =>
    intro i hi L hL
    obtain ⟨r, hr, hq⟩ := cont L (hL.congr (fun b hb => by
      show _ = dis imgs base.toNat w a b + w a * occ (imgs.getD a []) base.toNat b
      rw [show base.toNat = i by omega]))
    refine ⟨r, ?_, hq⟩
    refine Ev.step (fun k => by rw [evermoreref23_Below.l2]) ?_
    simp only [if_neg (show ¬ (i : Int) < base by omega), w1 a (by omega)]
    exact hr
  | succ d ih =>
    intro i hi L hL
    have hcell := cell_rng M ha (show ((i : Nat) : Int) < base by omega)
    obtain ⟨t, ht⟩ := Int.eq_ofNat_of_zero_le hcell.1
    have ho := occ_rng (imgs.getD a []) i t
    have hv : L.getD t 0 = dis imgs base.toNat w a t + w a * occ (imgs.getD a []) i t := hL.2 t (by omega)
    have hdt := hd t
    have hm : 0 ≤ w a * occ (imgs.getD a []) i t := Int.mul_nonneg hw.1 ho.1
    have hm2 : w a * occ (imgs.getD a []) i t ≤ 1000000000000000 * 4 := Int.mul_le_mul hw.2 (by omega) ho.1 (by decide)
    obtain ⟨r, hr, hq⟩ := ih (i + 1) (by omega) (L.set t (L.getD t 0 + w a)) ((hL.bump t (by omega) (w a)).congr (fun b hb => by
      show dis imgs base.toNat w a b + w a * occ (imgs.getD a []) i b + (if t = b then w a else 0) = dis imgs base.toNat w a b + w a * occ (imgs.getD a []) (i + 1) b
      rw [occ_succ, ht]
      by_cases e : t = b
      · rw [if_pos e, if_pos (by omega), Int.mul_add, Int.mul_one]; omega
      · rw [if_neg e, if_neg (by omega), Int.add_zero, Int.add_zero]))
    refine ⟨r, ?_, hq⟩
    refine Ev.step (fun k => by rw [evermoreref23_Below.l2]) ?_
    have hl := hL.1
    simp only [rdL]
    rw [show rd (imgs.getD a []) (i : Int) = (t : Int) from by rw [rdN]; exact ht]
    simp only [rdN, Int.toNat_natCast, hC.2 a ha, if_pos (show (i : Int) < base by omega), if_pos (show 0 ≤ (a : Int) by omega), if_pos (show (a : Int) < (imgs.length : Int) by omega), if_pos (show (i : Int) < ((imgs.getD a []).length : Int) by omega), if_pos (show 0 ≤ (i : Int) by omega), if_pos (show 0 ≤ (t : Int) by omega), if_pos (show (t : Int) < (L.length : Int) by omega), if_pos (show (a : Int) < (C.length : Int) by omega), w1 i (by omega), w64 (n := L.getD t 0 + w a) (by omega) (by omega)]
    exact hr
theorem below_l1 {base : Int} {imgs : List (List Int)} {cod : List Int} (M : MOk base imgs cod) (n : Nat) (hn : n ≤ 1000000000000000) (C : List Int) (hC : Holds C imgs.length (cnt base imgs (n / base.toNat))) :
    ∀ d a : Nat, a + d = imgs.length → ∀ L, Holds L imgs.length (dis imgs base.toNat (cnt base imgs (n / base.toNat)) a) → ∃ r, Ev (fun k => evermoreref23_Below.l1 k (n : Int) L C (a : Int) base imgs cod) r ∧ Holds r imgs.length (cnt base imgs n) := by
  have h2 := M.b2
  have h4 := M.b4
  have hn4 := M.n4
  have hq : n / base.toNat ≤ n := Nat.div_le_self _ _
  have hmul : n / base.toNat * base.toNat ≤ n := Nat.div_mul_le_self _ _
  have hcb : ∀ a, 0 ≤ cnt base imgs (n / base.toNat) a ∧ cnt base imgs (n / base.toNat) a ≤ 1000000000000000 := fun a => by
    have := cnt_rng base imgs (n / base.toNat) a
    have h : ((n / base.toNat : Nat) : Int) ≤ (n : Int) := Int.ofNat_le.2 hq
    omega
  intro d
  induction d with
  | zero =>
    intro a ha L hL
    have hal : a = imgs.length := by omega
    subst hal
    obtain ⟨r, hr, hh⟩ := rlet M n hn evermoreref23_Below.l3 (fun k x1 x5 x6 b im c => by rw [evermoreref23_Below.l3]) (n - n / base.toNat * base.toNat) (n / base.toNat * base.toNat) (by omega) L (hL.congr (fun b _ => (cnt_dis M b (n / base.toNat)).symm))
    refine ⟨r, ?_, hh⟩
    refine Ev.step (fun k => by rw [evermoreref23_Below.l1]) ?_
    have hcl := hC.1
    have e1 : Int.tmod (n : Int) base = ((n % base.toNat : Nat) : Int) := by
      rw [Int.tmod_eq_emod_of_nonneg (by omega), Int.natCast_emod, Int.toNat_of_nonneg (by omega)]
    have e7 : n % base.toNat + n / base.toNat * base.toNat = n := by rw [Nat.mul_comm]; exact Nat.mod_add_div _ _
    have e8 : (n : Int) - ((n % base.toNat : Nat) : Int) = ((n / base.toNat * base.toNat : Nat) : Int) := by
      generalize n % base.toNat = x at *
      generalize n / base.toNat * base.toNat = y at *
      omega
    have e5 : ((n / base.toNat * base.toNat : Nat) : Int) ≤ (n : Int) := Int.ofNat_le.2 hmul
    have e6 : (0 : Int) ≤ ((n / base.toNat * base.toNat : Nat) : Int) := Int.natCast_nonneg _
    rw [e1, e8, w64 (n := ((n / base.toNat * base.toNat : Nat) : Int)) (Int.le_trans (by decide) e6) (Int.le_trans e5 (by omega))]
    simp only [if_neg (show ¬ (imgs.length : Int) < (C.length : Int) by omega), if_neg (show ¬ base = 0 by omega)]
    exact hr
  | succ d ih =>
    intro a ha L hL
    have hcl := hC.1
    have hdr := dis_rng imgs base.toNat (cnt base imgs (n / base.toNat)) 1000000000000000 (by omega) hcb (by decide) a
    obtain ⟨r, hr, hh⟩ := below_l2 M n C (cnt base imgs (n / base.toNat)) hC a (by omega) (hcb a) (fun b => by have := hdr b; omega) _ (fun L hL => ih (a + 1) (by omega) L hL) (imgs.getD a []).length 0 (by omega) L (hL.congr (fun b _ => by show _ = _ + _ * 0; omega))
    refine ⟨r, ?_, hh⟩
    refine Ev.step (fun k => by rw [evermoreref23_Below.l1]) ?_
    simp only [if_pos (show (a : Int) < (C.length : Int) by omega)]
    exact hr
theorem below_ev {base : Int} {imgs : List (List Int)} {cod : List Int} (M : MOk base imgs cod) : ∀ n : Nat, n ≤ 1000000000000000 → ∃ r, Ev (fun k => evermoreref23_Below.f k base imgs cod (n : Int)) r ∧ Holds r imgs.length (cnt base imgs n) := by
  intro n
  induction n using Nat.strongRecOn with
  | _ n ih =>
    intro hn
    have h2 := M.b2
    have h4 := M.b4
    have hn4 := M.n4
    have hn1 := M.n1
    have pre : ∀ (g : Nat → List Int → Option (List Int)) (r : List Int), Ev (fun k => g k (List.replicate imgs.length 0)) r → Ev (fun k => if 0 ≤ (imgs.length : Int) then (if ((imgs.length : Int) : Int).toNat ≤ 35184372088832 then ((some (List.replicate ((imgs.length : Int) : Int).toNat 0 : List Int)).bind fun y118 => g k y118) else none) else none) r := by
      intro g r h
      simp only [if_pos (show 0 ≤ (imgs.length : Int) by omega), Int.toNat_natCast, if_pos (show imgs.length ≤ 35184372088832 by omega), Option.bind_some]
      exact h
    by_cases h0 : n < 4
    · obtain ⟨r, hr, hh⟩ := rlet M n hn evermoreref23_Below.l0 (fun k x1 x5 x6 b im c => by rw [evermoreref23_Below.l0]) n 0 (by omega) (List.replicate imgs.length 0) (Holds.zeros _)
      refine ⟨r, ?_, hh⟩
      refine Ev.step (fun k => by rw [evermoreref23_Below.f]) ?_
      refine pre _ _ ?_
      simp only [if_pos (show (n : Int) < 4 by omega)]
      exact hr
    · have hlt : n / base.toNat < n := Nat.div_lt_self (by omega) (by omega)
      obtain ⟨C, hC, hH⟩ := ih (n / base.toNat) hlt (by omega)
      obtain ⟨r, hr, hh⟩ := below_l1 M n hn C hH imgs.length 0 (by omega) (List.replicate imgs.length 0) (Holds.zeros _)
      refine ⟨r, ?_, hh⟩
      refine Ev.step (fun k => by rw [evermoreref23_Below.f]) ?_
      refine pre _ _ ?_
      have e1 : Int.tdiv (n : Int) base = ((n / base.toNat : Nat) : Int) := by
        rw [Int.tdiv_eq_ediv_of_nonneg (by omega), Int.natCast_ediv, Int.toNat_of_nonneg (by omega)]
      have e3 : ((n / base.toNat : Nat) : Int) ≤ (n : Int) := Int.ofNat_le.2 (Nat.div_le_self _ _)
      have e4 : (0 : Int) ≤ ((n / base.toNat : Nat) : Int) := Int.natCast_nonneg _
      rw [e1, w64 (n := ((n / base.toNat : Nat) : Int)) (Int.le_trans (by decide) e4) (Int.le_trans e3 (by omega))]
      simp only [if_neg (show ¬ (n : Int) < 4 by omega), if_neg (show ¬ base = 0 by omega)]
      refine Ev.bind hC ?_
      exact hr
/-- what is told of the letters' marks -/
def tell (cod : List Int) (C : List Int) : Nat → List Int → List Int
  | 0, L => L
  | i + 1, L => (tell cod C i L).set (cod.getD i 0).toNat (wrap64 ((tell cod C i L).getD (cod.getD i 0).toNat 0 + C.getD i 0))
theorem tell_len (cod C : List Int) (L : List Int) : ∀ i, (tell cod C i L).length = L.length
  | 0 => rfl
  | i + 1 => by rw [tell, List.length_set, tell_len cod C L i]
theorem tell_l0 {base : Int} {imgs : List (List Int)} {cod : List Int} (M : MOk base imgs cod) (C : List Int) (hC : C.length = imgs.length) (Z : List Int) (hZ : Z.length = 10) : ∀ d i : Nat, i + d = imgs.length → Ev (fun k => seqs_Counts.l0 k (tell cod C i Z) C (C.length : Int) (i : Int) base imgs cod) (tell cod C imgs.length Z, 0) := by
  have h4 := M.n4
  have hcl := M.cl
  intro d
  induction d with
  | zero =>
    intro i hi
    refine Ev.step (fun k => by rw [seqs_Counts.l0]) ?_
    simp only [if_neg (show ¬ (i : Int) < (C.length : Int) by omega)]
    exact evc (Ev.now _) (by rw [show i = imgs.length by omega])
  | succ d ih =>
    intro i hi
    have hc := M.cb i (by omega)
    obtain ⟨t, ht⟩ := Int.eq_ofNat_of_zero_le hc.1
    have e := ih (i + 1) (by omega)
    have hl := tell_len cod C Z i
    rw [tell, ht, Int.toNat_natCast] at e
    refine Ev.step (fun k => by rw [seqs_Counts.l0]) ?_
    simp only [rdN, ht, Int.toNat_natCast, w1 i (by omega), if_pos (show (i : Int) < (C.length : Int) by omega), if_pos (show 0 ≤ (i : Int) by omega), if_pos (show (i : Int) < (cod.length : Int) by omega), if_pos (show 0 ≤ (t : Int) by omega), if_pos (show (t : Int) < ((tell cod C i Z).length : Int) by omega)]
    exact e
theorem rtell_l0 {base : Int} {imgs : List (List Int)} {cod : List Int} (M : MOk base imgs cod) (C : List Int) (hC : C.length = imgs.length) (Z : List Int) (hZ : Z.length = 10) : ∀ d i : Nat, i + d = imgs.length → Ev (fun k => evermorelaw_SeqsCounts.l0 k (tell cod C imgs.length Z) 0 (tell cod C i Z) C (i : Int) base imgs cod) true := by
  have h4 := M.n4
  have hcl := M.cl
  intro d
  induction d with
  | zero =>
    intro i hi
    refine Ev.step (fun k => by rw [evermorelaw_SeqsCounts.l0]) ?_
    simp only [if_neg (show ¬ (i : Int) < (C.length : Int) by omega)]
    refine Ev.bind (evermoreref1_Words_ev _ _ (by rw [tell_len]; omega)) ?_
    simp only [if_true]
    exact evc (Ev.now _) (by rw [show i = imgs.length by omega]; exact decide_eq_true rfl)
  | succ d ih =>
    intro i hi
    have hc := M.cb i (by omega)
    obtain ⟨t, ht⟩ := Int.eq_ofNat_of_zero_le hc.1
    have e := ih (i + 1) (by omega)
    have hl := tell_len cod C Z i
    rw [show tell cod C (i + 1) Z = (tell cod C i Z).set (cod.getD i 0).toNat (wrap64 ((tell cod C i Z).getD (cod.getD i 0).toNat 0 + C.getD i 0)) from rfl, ht, Int.toNat_natCast] at e
    refine Ev.step (fun k => by rw [evermorelaw_SeqsCounts.l0]) ?_
    simp only [rdN, ht, Int.toNat_natCast, w1 i (by omega), if_pos (show (i : Int) < (C.length : Int) by omega), if_pos (show 0 ≤ (i : Int) by omega), if_pos (show (i : Int) < (cod.length : Int) by omega), if_pos (show 0 ≤ (t : Int) by omega), if_pos (show (t : Int) < ((tell cod C i Z).length : Int) by omega)]
    exact e
theorem law (base : Int) (imgs : List (List Int)) (cod : List Int) (n : Int) : Ev (fun k => evermorelaw_SeqsCounts.f k base imgs cod n) true := by
  unfold evermorelaw_SeqsCounts.f
  by_cases h : seqs_Check.v base imgs cod = 0
  · have M := v_ok h
    by_cases h2 : n < 0 ∨ n > 1000000000000000
    · have hA : Ev (fun k => seqs_Counts.f k base imgs cod n) ([], 2) := by
        unfold seqs_Counts.f seqs_Check.f
        simp only [Option.bind_some, if_pos h]
        by_cases h3 : n < 0
        · simp only [if_pos h3]
          refine Ev.step (fun k => by rw [seqs_Counts.j0]) ?_
          simp only [if_true]
          exact Ev.now _
        · simp only [if_neg h3, decide_eq_true (show n > 1000000000000000 by omega)]
          refine Ev.step (fun k => by rw [seqs_Counts.j0]) ?_
          simp only [if_true]
          exact Ev.now _
      refine Ev.bind hA ?_
      refine Ev.bind (refCheck_ev base imgs cod) ?_
      simp only [if_pos h]
      have key : Ev (fun k => evermorelaw_SeqsCounts.j0 k n ([] : List Int) 2 (seqs_Check.v base imgs cod) true base imgs cod) true := by
        refine Ev.step (fun k => by rw [evermorelaw_SeqsCounts.j0]) ?_
        simp only [if_true]
        refine Ev.step (fun k => by rw [evermorelaw_SeqsCounts.j1]) ?_
        simp only [if_neg (show ¬ (2 : Int) = 0 by decide), if_true]
        exact evc (Ev.now _) rfl
      by_cases h3 : n < 0
      · simp only [if_pos h3]; exact key
      · simp only [if_neg h3, decide_eq_true (show n > 1000000000000000 by omega)]; exact key
    · obtain ⟨m, rfl⟩ := Int.eq_ofNat_of_zero_le (show 0 ≤ n by omega)
      obtain ⟨C, hC, hH⟩ := counts_ev M m (by omega)
      obtain ⟨C', hC', hH'⟩ := below_ev M m (by omega)
      obtain rfl := hH.ext hH'
      have hA : Ev (fun k => seqs_Counts.f k base imgs cod (m : Int)) (tell cod C imgs.length (List.replicate 10 0), 0) := by
        unfold seqs_Counts.f seqs_Check.f
        simp only [Option.bind_some, if_pos h, if_neg (show ¬ (m : Int) < 0 by omega), decide_eq_false (show ¬ (m : Int) > 1000000000000000 by omega)]
        refine Ev.step (fun k => by rw [seqs_Counts.j0]) ?_
        simp only [if_neg (show ¬ (false = true) by decide), if_pos (show 10 ≤ 35184372088832 by decide)]
        refine Ev.bind hC ?_
        exact tell_l0 M C hH.1 (List.replicate 10 0) rfl imgs.length 0 (by omega)
      refine Ev.bind hA ?_
      refine Ev.bind (refCheck_ev base imgs cod) ?_
      simp only [h, if_true, if_neg (show ¬ (m : Int) < 0 by omega), decide_eq_false (show ¬ (m : Int) > 1000000000000000 by omega)]
      refine Ev.step (fun k => by rw [evermorelaw_SeqsCounts.j0]) ?_
      simp only [if_neg (show ¬ (false = true) by decide)]
      refine Ev.step (fun k => by rw [evermorelaw_SeqsCounts.j1]) ?_
      simp only [if_true, if_pos (show 10 ≤ 35184372088832 by decide)]
      refine Ev.bind hC' ?_
      exact rtell_l0 M C hH.1 (List.replicate 10 0) rfl imgs.length 0 (by omega)
  · have hA : Ev (fun k => seqs_Counts.f k base imgs cod n) ([], seqs_Check.v base imgs cod) := by
      unfold seqs_Counts.f seqs_Check.f
      simp only [Option.bind_some, if_neg h]
      exact Ev.now _
    refine Ev.bind hA ?_
    refine Ev.bind (refCheck_ev base imgs cod) ?_
    simp only [if_neg h]
    refine Ev.step (fun k => by rw [evermorelaw_SeqsCounts.j0]) ?_
    simp only [if_neg (show ¬ (false = true) by decide)]
    refine Ev.step (fun k => by rw [evermorelaw_SeqsCounts.j1]) ?_
    simp only [if_neg h, if_true]
    exact evc (Ev.now _) rfl
theorem SeqsCounts : evermorelaw_SeqsCounts.PureH := by
  intro base imgs cod n _ _
  exact Ev.rounds (law base imgs cod n)

end Go.Proofs.Ythbdmfhobienaaa.Pure
