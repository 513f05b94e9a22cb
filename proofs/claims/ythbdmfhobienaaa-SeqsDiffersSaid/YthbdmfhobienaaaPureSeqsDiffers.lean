/- For every two morphisms the place that the program finds is the reference's, and it is the first one at which the two rows differ. No conditions beyond the statement's. -/
import Derived.Test.YthbdmfhobienaaaPSeqsDiffersx5
import Derived.Test.YthbdmfhobienaaaQSeqsDiffers
namespace Go.Proofs.Ythbdmfhobienaaa.Pure
open Go.RowKit Go.Proofs.Ythbdmfhobienaaa.PSeqsDiffers Go.Proofs.YthbdmfhobienaaaW.PrintWords Go.Proofs.YthbdmfhobienaaaW.PrintLast Go.Proofs.YthbdmfhobienaaaW.PrintMore Go.Proofs.YthbdmfhobienaaaW.PrintMap
set_option linter.unusedVariables false
set_option linter.unusedSimpArgs false
theorem w64 {n : Int} (h : -9223372036854775808 ≤ n) (h' : n ≤ 9223372036854775807) : wrap64 n = n := by unfold wrap64; omega
theorem rdn (l : List Int) (i : Nat) (h : i < l.length) : rd l (i : Int) = l[i] := by
  unfold rd; rw [Int.toNat_natCast, List.getD_eq_getElem?_getD, List.getElem?_eq_getElem h]; rfl
theorem rdOfn {α : Type} (d : α) (l : List α) (i : Nat) (h : i < l.length) : rdOf d l (i : Int) = l[i] := by
  unfold rdOf; rw [Int.toNat_natCast, List.getD_eq_getElem?_getD, List.getElem?_eq_getElem h]; rfl
theorem evc {α : Type} {g : Nat → Option α} {a b : α} (h : Ev g a) (e : a = b) : Ev g b := e ▸ h
theorem rdL (l : List (List Int)) (n : Nat) : rd_L1 l (n : Int) = l.getD n [] := by unfold rd_L1; rw [Int.toNat_natCast]
theorem rdN (l : List Int) (n : Nat) : rd l (n : Int) = l.getD n 0 := by unfold rd; rw [Int.toNat_natCast]
theorem w1 (i : Nat) (h : i ≤ 9223372036854775000) : wrap64 ((i : Int) + 1) = ((i + 1 : Nat) : Int) := by rw [w64 (by omega) (by omega)]; omega
theorem getD_mem {α : Type} (l : List α) (n : Nat) (d : α) (h : n < l.length) : l.getD n d ∈ l := by
  rw [List.getD_eq_getElem?_getD, List.getElem?_eq_getElem h]; exact List.getElem_mem h
theorem drop_getD {α : Type} (l : List α) (n : Nat) (d : α) (h : n < l.length) : l.drop n = l.getD n d :: l.drop (n + 1) := by
  rw [List.drop_eq_getElem_cons h, List.getD_eq_getElem?_getD, List.getElem?_eq_getElem h]; rfl
/-- what may be a morphism -/
structure MOk (base : Int) (imgs : List (List Int)) (cod : List Int) : Prop where
  b2 : 2 ≤ base
  b4 : base ≤ 4
  n1 : 1 ≤ imgs.length
  n4 : imgs.length ≤ 4
  cl : cod.length = imgs.length
  rl : ∀ r ∈ imgs, (r.length : Int) = base
  rb : ∀ r ∈ imgs, ∀ b ∈ r, 0 ≤ b ∧ b < (imgs.length : Int)
  cb : ∀ i, i < imgs.length → 0 ≤ cod.getD i 0 ∧ cod.getD i 0 ≤ 9
  z : (imgs.getD 0 []).getD 0 0 = 0
theorem anyrange (p : Nat → Bool) : ∀ d i n : Nat, i + d = n → ((List.range' i d).any p = true ↔ ∃ j, i ≤ j ∧ j < n ∧ p j = true) := by
  intro d i n h
  simp only [List.any_eq_true, List.mem_range'_1]
  constructor
  · rintro ⟨j, ⟨h1, h2⟩, h3⟩; exact ⟨j, h1, by omega, h3⟩
  · rintro ⟨j, h1, h2, h3⟩; exact ⟨j, ⟨h1, by omega⟩, h3⟩
theorem refCheck_l2 (base : Int) (imgs : List (List Int)) (cod : List Int) (hn : imgs.length ≤ 4) (hb : base ≤ 4) (hc : cod.length = imgs.length) (a : Nat) (ha : a < imgs.length) (hr : ((imgs.getD a []).length : Int) = base) (Z : Int)
    (cont : seqs_Check.rowBad imgs.length imgs cod a = false → Ev (fun k => evermoreref23_Check.l1 k (imgs.length : Int) ((a + 1 : Nat) : Int) base imgs cod) Z) :
    ∀ d i : Nat, i + d = (imgs.getD a []).length → ((imgs.getD a []).take i).any (seqs_Check.bad imgs.length) = false →
      Ev (fun k => evermoreref23_Check.l2 k (imgs.length : Int) (a : Int) (i : Int) base imgs cod) (if seqs_Check.rowBad imgs.length imgs cod a = true then 2 else Z) := by
  intro d
  induction d with
  | zero =>
    intro i hi hp
    refine Ev.step (fun k => by rw [evermoreref23_Check.l2]) ?_
    rw [w1 a (by omega)]
    simp only [rdL, rdN, if_neg (show ¬ ((i : Int) < base) by omega), if_pos (show 0 ≤ (a : Int) by omega), if_pos (show (a : Int) < (cod.length : Int) by omega)]
    rw [List.take_of_length_le (by omega)] at hp
    by_cases h1 : cod.getD a 0 < 0
    · simp only [if_pos h1]
      exact evc (Ev.now 2) (by rw [if_pos (by unfold seqs_Check.rowBad; rw [rdN, decide_eq_true h1, Bool.or_true, Bool.true_or])])
    · simp only [if_neg h1]
      by_cases h2 : cod.getD a 0 > 9
      · simp only [if_pos h2]
        exact evc (Ev.now 2) (by rw [if_pos (by unfold seqs_Check.rowBad; rw [rdN, decide_eq_true h2, Bool.or_true])])
      · simp only [if_neg h2]
        have hf : seqs_Check.rowBad imgs.length imgs cod a = false := by
          unfold seqs_Check.rowBad
          rw [rdN, hp, decide_eq_false h1, decide_eq_false h2]
          rfl
        exact evc (cont hf) (by rw [hf]; rfl)
  | succ d ih =>
    intro i hi hp
    refine Ev.step (fun k => by rw [evermoreref23_Check.l2]) ?_
    rw [w1 i (by omega)]
    have hil : i < (imgs.getD a []).length := by omega
    simp only [rdL, rdN, if_pos (show ((i : Int) < base) by omega), if_pos (show 0 ≤ (a : Int) by omega), if_pos (show (a : Int) < (imgs.length : Int) by omega), if_pos (show 0 ≤ (i : Int) by omega), if_pos (show (i : Int) < ((imgs.getD a []).length : Int) by omega)]
    have hb : seqs_Check.bad imgs.length ((imgs.getD a []).getD i 0) = true → seqs_Check.rowBad imgs.length imgs cod a = true := by
      intro h
      unfold seqs_Check.rowBad
      rw [show (imgs.getD a []).any (seqs_Check.bad imgs.length) = true from List.any_eq_true.2 ⟨_, getD_mem _ _ _ hil, h⟩]
      rfl
    by_cases h1 : (imgs.getD a []).getD i 0 < 0
    · simp only [if_pos h1]
      exact evc (Ev.now 2) (by rw [if_pos (hb (by unfold seqs_Check.bad; rw [decide_eq_true h1]; rfl))])
    · simp only [if_neg h1]
      by_cases h2 : (imgs.getD a []).getD i 0 ≥ (imgs.length : Int)
      · simp only [if_pos h2]
        exact evc (Ev.now 2) (by rw [if_pos (hb (by unfold seqs_Check.bad; rw [decide_eq_true h2, Bool.or_true]))])
      · simp only [if_neg h2]
        refine ih (i + 1) (by omega) ?_
        rw [List.take_succ_eq_append_getElem hil, List.any_append, hp]
        have : (imgs.getD a [])[i] = (imgs.getD a []).getD i 0 := by rw [List.getD_eq_getElem?_getD (l := imgs.getD a []), List.getElem?_eq_getElem hil]; rfl
        rw [List.any_cons, this]
        unfold seqs_Check.bad
        rw [decide_eq_false h1, decide_eq_false h2]
        rfl
theorem refCheck_l1 (base : Int) (imgs : List (List Int)) (cod : List Int) (hn : imgs.length ≤ 4) (hn1 : 1 ≤ imgs.length) (hb : base ≤ 4) (hb2 : 2 ≤ base) (hc : cod.length = imgs.length) (hr : ∀ a, a < imgs.length → ((imgs.getD a []).length : Int) = base) :
    ∀ d a : Nat, a + d = imgs.length → Ev (fun k => evermoreref23_Check.l1 k (imgs.length : Int) (a : Int) base imgs cod) (if (List.range' a d).any (seqs_Check.rowBad imgs.length imgs cod) = true then 2 else if rd (imgs.getD 0 []) 0 ≠ 0 then 3 else 0) := by
  intro d
  induction d with
  | zero =>
    intro a ha
    refine Ev.step (fun k => by rw [evermoreref23_Check.l1]) ?_
    have h0 := hr 0 (by omega)
    simp only [show rd_L1 imgs 0 = imgs.getD 0 [] from rdL imgs 0, if_neg (show ¬ ((a : Int) < (imgs.length : Int)) by omega), if_pos (show (0 : Int) < (imgs.length : Int) by omega), if_pos (show (0 : Int) < ((imgs.getD 0 []).length : Int) by omega)]
    by_cases h : rd (imgs.getD 0 []) 0 = 0
    · simp only [if_pos h]; exact evc (Ev.now 0) (by rw [if_neg (by simp), if_neg (fun x => x h)])
    · simp only [if_neg h]; exact evc (Ev.now 3) (by rw [if_neg (by simp), if_pos h])
  | succ d ih =>
    intro a ha
    refine Ev.step (fun k => by rw [evermoreref23_Check.l1]) ?_
    simp only [if_pos (show ((a : Int) < (imgs.length : Int)) by omega)]
    have := refCheck_l2 base imgs cod hn hb hc a (by omega) (hr a (by omega)) _ (fun _ => ih (a + 1) (by omega)) (imgs.getD a []).length 0 (by omega) (by simp)
    refine evc this ?_
    rw [List.range'_succ, List.any_cons]
    by_cases h : seqs_Check.rowBad imgs.length imgs cod a = true
    · rw [if_pos h, h]; rfl
    · have h' : seqs_Check.rowBad imgs.length imgs cod a = false := by simpa using h
      rw [if_neg h, h', Bool.false_or]
theorem refCheck_l0 (base : Int) (imgs : List (List Int)) (cod : List Int) (hn : imgs.length ≤ 4) (Z : Int)
    (cont : (∀ a, a < imgs.length → ((imgs.getD a []).length : Int) = base) → Ev (fun k => evermoreref23_Check.l1 k (imgs.length : Int) 0 base imgs cod) Z) :
    ∀ d i : Nat, i + d = imgs.length → (∀ a, a < i → ((imgs.getD a []).length : Int) = base) → Ev (fun k => evermoreref23_Check.l0 k (imgs.length : Int) (i : Int) base imgs cod) (if (imgs.drop i).any (fun x => decide ((x.length : Int) ≠ base)) = true then 3 else Z) := by
  intro d
  induction d with
  | zero =>
    intro i hi hp
    refine Ev.step (fun k => by rw [evermoreref23_Check.l0]) ?_
    simp only [if_neg (show ¬ ((i : Int) < (imgs.length : Int)) by omega)]
    rw [List.drop_of_length_le (by omega)]
    exact cont (fun a ha => hp a (by omega))
  | succ d ih =>
    intro i hi hp
    refine Ev.step (fun k => by rw [evermoreref23_Check.l0]) ?_
    rw [w1 i (by omega)]
    simp only [rdL, if_pos (show ((i : Int) < (imgs.length : Int)) by omega), if_pos (show 0 ≤ (i : Int) by omega)]
    rw [drop_getD imgs i [] (by omega)]
    by_cases h : ((imgs.getD i []).length : Int) = base
    · simp only [if_pos h]
      refine evc (ih (i + 1) (by omega) (fun a ha => ?_)) ?_
      · by_cases e : a = i
        · rw [e]; exact h
        · exact hp a (by omega)
      · rw [List.any_cons, decide_eq_false (show ¬ ((imgs.getD i []).length : Int) ≠ base from fun x => x h), Bool.false_or]
    · simp only [if_neg h]
      exact evc (Ev.now 3) (by rw [List.any_cons, decide_eq_true (show ((imgs.getD i []).length : Int) ≠ base from h), Bool.true_or]; rfl)
theorem refCheck_ev (base : Int) (imgs : List (List Int)) (cod : List Int) : Ev (fun k => evermoreref23_Check.f k base imgs cod) (seqs_Check.v base imgs cod) := by
  have j1 : ∀ b : Bool, (b = true ↔ (imgs.length < 1 ∨ imgs.length > 4)) → ¬ (base < 2 ∨ base > 4) → Ev (fun k => evermoreref23_Check.j1 k (imgs.length : Int) b base imgs cod) (seqs_Check.v base imgs cod) := by
    intro b hb h0
    refine Ev.step (fun k => by rw [evermoreref23_Check.j1]) ?_
    by_cases h : b = true
    · simp only [if_pos h]
      exact evc (Ev.now 1) (by unfold seqs_Check.v; rw [if_neg h0, if_pos (hb.1 h)])
    · simp only [if_neg h]
      have hn : ¬ (imgs.length < 1 ∨ imgs.length > 4) := fun x => h (hb.2 x)
      by_cases h2 : cod.length = imgs.length
      · simp only [if_pos (show (cod.length : Int) = (imgs.length : Int) by omega)]
        have := refCheck_l0 base imgs cod (by omega) _ (fun hr => refCheck_l1 base imgs cod (by omega) (by omega) (by omega) (by omega) h2 hr imgs.length 0 (by omega)) imgs.length 0 (by omega) (fun a ha => by omega)
        refine evc this ?_
        rw [List.drop_zero]
        unfold seqs_Check.v
        rw [if_neg h0, if_neg hn]
        by_cases h3 : imgs.any (fun x => decide ((x.length : Int) ≠ base)) = true
        · rw [if_pos h3, if_pos (.inr h3)]
        · have h4 : ¬ (cod.length ≠ imgs.length ∨ imgs.any (fun x => decide ((x.length : Int) ≠ base)) = true) := fun x => Or.elim x (fun x => x h2) h3
          rw [if_neg h3, if_neg h4, List.range_eq_range']
      · simp only [if_neg (show ¬ (cod.length : Int) = (imgs.length : Int) by omega)]
        exact evc (Ev.now 3) (by unfold seqs_Check.v; rw [if_neg h0, if_neg hn, if_pos (.inl h2)])
  have j0 : ∀ b : Bool, (b = true ↔ (base < 2 ∨ base > 4)) → Ev (fun k => evermoreref23_Check.j0 k b base imgs cod) (seqs_Check.v base imgs cod) := by
    intro b hb
    refine Ev.step (fun k => by rw [evermoreref23_Check.j0]) ?_
    by_cases h : b = true
    · simp only [if_pos h]
      exact evc (Ev.now 2) (by unfold seqs_Check.v; rw [if_pos (hb.1 h)])
    · simp only [if_neg h]
      have h0 : ¬ (base < 2 ∨ base > 4) := fun x => h (hb.2 x)
      by_cases h2 : (imgs.length : Int) < 1
      · simp only [if_pos h2]; exact j1 true ⟨fun _ => .inl (by omega), fun _ => rfl⟩ h0
      · simp only [if_neg h2]; exact j1 _ (by rw [decide_eq_true_iff]; omega) h0
  unfold evermoreref23_Check.f
  by_cases h : base < 2
  · simp only [if_pos h]; exact j0 true (by simp; omega)
  · simp only [if_neg h]; exact j0 _ (by simp; omega)
theorem v_ok {base : Int} {imgs : List (List Int)} {cod : List Int} (h : seqs_Check.v base imgs cod = 0) : MOk base imgs cod := by
  unfold seqs_Check.v at h
  by_cases h1 : base < 2 ∨ base > 4
  · rw [if_pos h1] at h; omega
  rw [if_neg h1] at h
  by_cases h2 : imgs.length < 1 ∨ imgs.length > 4
  · rw [if_pos h2] at h; omega
  rw [if_neg h2] at h
  by_cases h3 : cod.length ≠ imgs.length ∨ imgs.any (fun x => decide ((x.length : Int) ≠ base)) = true
  · rw [if_pos h3] at h; omega
  rw [if_neg h3] at h
  by_cases h4 : (List.range imgs.length).any (seqs_Check.rowBad imgs.length imgs cod) = true
  · rw [if_pos h4] at h; omega
  rw [if_neg h4] at h
  by_cases h5 : rd (imgs.getD 0 []) 0 ≠ 0
  · rw [if_pos h5] at h; omega
  have hrow : ∀ i, i < imgs.length → seqs_Check.rowBad imgs.length imgs cod i = false := fun i hi => by
    cases q : seqs_Check.rowBad imgs.length imgs cod i with
    | false => rfl
    | true => exact absurd (List.any_eq_true.2 ⟨i, List.mem_range.2 hi, q⟩) h4
  refine ⟨by omega, by omega, by omega, by omega, Decidable.of_not_not fun x => h3 (.inl x), fun r hr => Decidable.of_not_not fun x => h3 (.inr (List.any_eq_true.2 ⟨r, hr, decide_eq_true x⟩)), fun r hr b hb => ?_, fun i hi => ?_, ?_⟩
  · obtain ⟨i, hi, rfl⟩ := List.getElem_of_mem hr
    have := hrow i hi
    unfold seqs_Check.rowBad at this
    rw [Bool.or_eq_false_iff, Bool.or_eq_false_iff] at this
    have hb2 := List.any_eq_false.1 this.1.1 b (by rw [List.getD_eq_getElem?_getD, List.getElem?_eq_getElem hi]; exact hb)
    unfold seqs_Check.bad at hb2
    simp at hb2
    omega
  · have := hrow i hi
    unfold seqs_Check.rowBad at this
    rw [Bool.or_eq_false_iff, Bool.or_eq_false_iff, rdN] at this
    have h6 := of_decide_eq_false this.1.2
    have h7 := of_decide_eq_false this.2
    omega
  · have : rd (imgs.getD 0 []) ((0 : Nat) : Int) = 0 := Decidable.of_not_not h5
    rw [rdN] at this
    exact this
theorem wf64 {n : Int} (h : (Lit.int .i64 n).wf = true) : -9223372036854775808 ≤ n ∧ n ≤ 9223372036854775807 := by
  simp [Lit.wf, IntKind.min, IntKind.max, IntKind.signed, IntKind.bits] at h
  omega
/-- the letter at a place -/
def letS (base : Int) (imgs : List (List Int)) (n : Nat) : Int :=
  if h : n = 0 ∨ base.toNat < 2 then 0 else (imgs.getD (letS base imgs (n / base.toNat)).toNat []).getD (n % base.toNat) 0
termination_by n
decreasing_by exact Nat.div_lt_self (by omega) (by omega)
theorem letS_zero (base : Int) (imgs : List (List Int)) : letS base imgs 0 = 0 := by rw [letS, dif_pos (.inl rfl)]
theorem letS_succ {base : Int} {imgs : List (List Int)} {n : Nat} (hb : 2 ≤ base) (h : n ≠ 0) : letS base imgs n = (imgs.getD (letS base imgs (n / base.toNat)).toNat []).getD (n % base.toNat) 0 := by
  rw [letS, dif_neg (by omega)]
theorem cell_rng {base : Int} {imgs : List (List Int)} {cod : List Int} (M : MOk base imgs cod) {t d : Nat} (ht : t < imgs.length) (hd : (d : Int) < base) : 0 ≤ (imgs.getD t []).getD d 0 ∧ (imgs.getD t []).getD d 0 < (imgs.length : Int) := by
  have hm : imgs.getD t [] ∈ imgs := getD_mem _ _ _ ht
  have hl := M.rl _ hm
  exact M.rb _ hm _ (getD_mem _ _ _ (by omega))
theorem letS_rng {base : Int} {imgs : List (List Int)} {cod : List Int} (M : MOk base imgs cod) : ∀ n, 0 ≤ letS base imgs n ∧ letS base imgs n < (imgs.length : Int) := by
  intro n
  induction n using Nat.strongRecOn with
  | _ n ih =>
    have h2 := M.b2
    have h1 := M.n1
    by_cases h : n = 0
    · subst h; rw [letS_zero]; omega
    · rw [letS_succ h2 h]
      have := ih (n / base.toNat) (Nat.div_lt_self (by omega) (by omega))
      exact cell_rng M (by omega) (by have := Nat.mod_lt n (show 0 < base.toNat by omega); omega)
/-- the digits of a place, the last one first -/
def dg (b : Nat) (n : Nat) : List Int := if h : n = 0 ∨ b < 2 then [] else ((n % b : Nat) : Int) :: dg b (n / b)
termination_by n
decreasing_by exact Nat.div_lt_self (by omega) (by omega)
def fr (imgs : List (List Int)) (D : List Int) : Int := D.foldr (fun d x => (imgs.getD x.toNat []).getD d.toNat 0) 0
theorem letS_fr {base : Int} {imgs : List (List Int)} (hb : 2 ≤ base) : ∀ n, letS base imgs n = fr imgs (dg base.toNat n) := by
  intro n
  induction n using Nat.strongRecOn with
  | _ n ih =>
    by_cases h : n = 0
    · subst h; rw [letS_zero, dg, dif_pos (.inl rfl)]; rfl
    · rw [letS_succ hb h, dg, dif_neg (by omega), ih _ (Nat.div_lt_self (by omega) (by omega))]
      show _ = (imgs.getD (fr imgs (dg base.toNat (n / base.toNat))).toNat []).getD (((n % base.toNat : Nat) : Int)).toNat 0
      rw [Int.toNat_natCast]
theorem dg_rng {b : Nat} : ∀ n, ∀ d ∈ dg b n, 0 ≤ d ∧ d < (b : Int) := by
  intro n
  induction n using Nat.strongRecOn with
  | _ n ih =>
    intro d hd
    rw [dg] at hd
    by_cases h : n = 0 ∨ b < 2
    · rw [dif_pos h] at hd; cases hd
    · rw [dif_neg h] at hd
      rcases List.mem_cons.1 hd with rfl | hd
      · have := Nat.mod_lt n (show 0 < b by omega); omega
      · exact ih _ (Nat.div_lt_self (by omega) (by omega)) d hd
theorem dg_len {b : Nat} (hb : 2 ≤ b) : ∀ (m n : Nat), n < 2 ^ m → (dg b n).length ≤ m := by
  intro m
  induction m with
  | zero => intro n h; have : n = 0 := by omega
            subst this; rw [dg, dif_pos (.inl rfl)]; simp
  | succ m ih =>
    intro n h
    rw [dg]
    by_cases h0 : n = 0 ∨ b < 2
    · rw [dif_pos h0]; simp
    · rw [dif_neg h0, List.length_cons]
      have : n / b < 2 ^ m := by
        have : n / b ≤ n / 2 := Nat.div_le_div_left hb (by decide)
        have : n / 2 < 2 ^ m := by rw [Nat.div_lt_iff_lt_mul (by decide)]; rw [Nat.pow_succ] at h; exact h
        omega
      have := ih _ this
      omega
theorem fr_rng {base : Int} {imgs : List (List Int)} {cod : List Int} (M : MOk base imgs cod) : ∀ D : List Int, (∀ d ∈ D, 0 ≤ d ∧ d < base) → 0 ≤ fr imgs D ∧ fr imgs D < (imgs.length : Int) := by
  intro D
  induction D with
  | nil => intro _; have := M.n1; show (0 : Int) ≤ 0 ∧ (0 : Int) < _; omega
  | cons d D ih =>
    intro h
    have h1 := h d List.mem_cons_self
    have h2 := ih (fun x hx => h x (List.mem_cons_of_mem _ hx))
    show 0 ≤ (imgs.getD (fr imgs D).toNat []).getD d.toNat 0 ∧ (imgs.getD (fr imgs D).toNat []).getD d.toNat 0 < _
    exact cell_rng M (by omega) (by omega)
theorem refLetter_l1 {base : Int} {imgs : List (List Int)} {cod : List Int} (M : MOk base imgs cod) (D : List Int) (hD : ∀ d ∈ D, 0 ≤ d ∧ d < base) (hl : D.length ≤ 100) : ∀ j : Nat, j ≤ D.length → Ev (fun k => evermoreref23_Letter.l1 k D (fr imgs (D.drop j)) ((j : Int) - 1) base imgs cod) (fr imgs D) := by
  intro j
  induction j with
  | zero =>
    intro _
    refine Ev.step (fun k => by rw [evermoreref23_Letter.l1]) ?_
    simp only [if_neg (show ¬ (((0 : Nat) : Int) - 1 ≥ 0) by decide)]
    exact evc (Ev.now _) (by rw [List.drop_zero])
  | succ j ih =>
    intro hj
    refine Ev.step (fun k => by rw [evermoreref23_Letter.l1]) ?_
    rw [show ((j + 1 : Nat) : Int) - 1 = (j : Int) by omega, w64 (n := (j : Int) - 1) (by omega) (by omega)]
    have hr := fr_rng M (D.drop (j + 1)) (fun d hd => hD d (List.mem_of_mem_drop hd))
    obtain ⟨t, ht⟩ := Int.eq_ofNat_of_zero_le hr.1
    have hd := hD _ (getD_mem D j 0 (by omega))
    obtain ⟨q, hq⟩ := Int.eq_ofNat_of_zero_le hd.1
    rw [ht] at hr ⊢
    have hrl := M.rl _ (getD_mem imgs t [] (by omega))
    have e := ih (by omega)
    rw [drop_getD D j 0 (by omega)] at e
    simp only [rdN, rdL, hq, if_pos (show (j : Int) ≥ 0 by omega), if_pos (show 0 ≤ (t : Int) by omega), if_pos (show (t : Int) < (imgs.length : Int) by omega), if_pos (show 0 ≤ (j : Int) by omega), if_pos (show (j : Int) < (D.length : Int) by omega), if_pos (show 0 ≤ (q : Int) by omega),
      if_pos (show (q : Int) < ((imgs.getD t []).length : Int) by omega)]
    have : fr imgs (D.getD j 0 :: D.drop (j + 1)) = (imgs.getD t []).getD q 0 := by
      show (imgs.getD (fr imgs (D.drop (j + 1))).toNat []).getD (D.getD j 0).toNat 0 = _
      rw [ht, hq]; rfl
    rw [this] at e
    exact e
theorem refLetter_l0 {base : Int} {imgs : List (List Int)} {cod : List Int} (M : MOk base imgs cod) : ∀ (n : Nat) (D : List Int), n ≤ 9223372036854775807 → (∀ d ∈ D ++ dg base.toNat n, 0 ≤ d ∧ d < base) → (D ++ dg base.toNat n).length ≤ 100 →
    Ev (fun k => evermoreref23_Letter.l0 k (n : Int) D base imgs cod) (fr imgs (D ++ dg base.toNat n)) := by
  intro n
  induction n using Nat.strongRecOn with
  | _ n ih =>
    intro D hn hD hl
    have h2 := M.b2
    refine Ev.step (fun k => by rw [evermoreref23_Letter.l0]) ?_
    by_cases h : n = 0
    · subst h
      rw [dg, dif_pos (.inl rfl), List.append_nil] at hD hl ⊢
      simp only [if_neg (show ¬ (((0 : Nat) : Int) > 0) by decide)]
      rw [w64 (n := (D.length : Int) - 1) (by omega) (by omega)]
      have := refLetter_l1 M D hD hl D.length (Nat.le_refl _)
      rw [List.drop_length] at this
      exact this
    · have e1 : Int.tdiv (n : Int) base = ((n / base.toNat : Nat) : Int) := by
        rw [Int.tdiv_eq_ediv_of_nonneg (by omega), Int.natCast_ediv, Int.toNat_of_nonneg (by omega)]
      have e2 : Int.tmod (n : Int) base = ((n % base.toNat : Nat) : Int) := by
        rw [Int.tmod_eq_emod_of_nonneg (by omega), Int.natCast_emod, Int.toNat_of_nonneg (by omega)]
      have hlt : n / base.toNat < n := Nat.div_lt_self (by omega) (by omega)
      have hs : D ++ dg base.toNat n = (D ++ [((n % base.toNat : Nat) : Int)]) ++ dg base.toNat (n / base.toNat) := by
        rw [dg, dif_neg (by omega), List.append_assoc]; rfl
      have hDl : D.length ≤ 100 := by rw [List.length_append] at hl; omega
      simp only [if_pos (show (n : Int) > 0 by omega), if_neg (show ¬ base = 0 by omega), if_pos (show D.length < 17592186044416 by omega), e1, e2]
      have hnn : (0 : Int) ≤ ((n / base.toNat : Nat) : Int) := Int.natCast_nonneg _
      have hnu : ((n / base.toNat : Nat) : Int) ≤ 9223372036854775807 := by have : ((n / base.toNat : Nat) : Int) ≤ (n : Int) := Int.ofNat_le.2 (Nat.div_le_self _ _); omega
      rw [w64 (n := ((n / base.toNat : Nat) : Int)) (Int.le_trans (by decide) hnn) hnu]
      rw [hs] at hD hl ⊢
      exact ih _ hlt _ (by omega) hD hl
theorem refLetter_ev {base : Int} {imgs : List (List Int)} {cod : List Int} (M : MOk base imgs cod) (n : Nat) (hn : n ≤ 9223372036854775807) : Ev (fun k => evermoreref23_Letter.f k base imgs cod (n : Int)) (letS base imgs n) := by
  unfold evermoreref23_Letter.f
  have h2 := M.b2
  rw [letS_fr M.b2]
  have := refLetter_l0 M n [] hn (fun d hd => by have := dg_rng n d hd; omega) (by have := dg_len (b := base.toNat) (by omega) 63 n (by omega); simp; omega)
  exact this
theorem mget_mput {κ ν : Type} [DecidableEq κ] (k k' : κ) (v d : ν) : ∀ m : List (κ × ν), mget (mput m k v) k' d = if k' = k then v else mget m k' d := by
  have key : ∀ (m : List (κ × ν)) (i : Nat), (mfind k' (mput m k v) i).map (·.2) = if k' = k then some v else (mfind k' m i).map (·.2) := by
    intro m
    induction m with
    | nil =>
      intro i
      unfold mput mfind mfind
      by_cases h : k' = k
      · rw [if_pos h.symm, if_pos h]; rfl
      · rw [if_neg (fun e => h e.symm), if_neg h]
    | cons p r ih =>
      intro i
      unfold mput
      by_cases h1 : p.1 = k
      · rw [if_pos h1]
        unfold mfind
        by_cases h : k' = k
        · rw [if_pos (h1.trans h.symm), if_pos h]; rfl
        · rw [if_neg (fun e => h (e.symm.trans h1)), if_neg h, if_neg (fun e => h (e.symm.trans h1))]
      · rw [if_neg h1]
        unfold mfind
        by_cases h : p.1 = k'
        · rw [if_pos h, if_pos h, if_neg (fun e => h1 (h.trans e))]
        · rw [if_neg h, if_neg h]
          exact ih (i + 1)
  intro m
  unfold mget
  rw [key m 0]
  split <;> rfl
theorem mget_nil {κ ν : Type} [DecidableEq κ] (k : κ) (d : ν) : mget ([] : List (κ × ν)) k d = d := rfl
theorem nodup_len (N : Nat) : ∀ l : List Nat, l.Nodup → (∀ x ∈ l, x < N) → l.length ≤ N := by
  induction N with
  | zero =>
    intro l _ h
    cases l with
    | nil => simp
    | cons a r => have := h a List.mem_cons_self; omega
  | succ N ih =>
    intro l hn h
    by_cases hm : N ∈ l
    · have h1 := ih (l.erase N) (hn.erase N) (fun x hx => by
        have h2 := (hn.mem_erase_iff).1 hx
        have := h x h2.2
        have := h2.1
        omega)
      have h2 := List.length_erase_of_mem hm
      have : 0 < l.length := List.length_pos_of_mem hm
      omega
    · have := ih l hn (fun x hx => by
        have h1 := h x hx
        have : x ≠ N := fun e => hm (e ▸ hx)
        omega)
      omega
theorem letS_step {base : Int} {imgs : List (List Int)} {cod : List Int} (M : MOk base imgs cod) (n d : Nat) (hd : d < base.toNat) : letS base imgs (n * base.toNat + d) = (imgs.getD (letS base imgs n).toNat []).getD d 0 := by
  have h2 := M.b2
  by_cases h : n * base.toNat + d = 0
  · have hn : n * base.toNat = 0 := by omega
    have hd0 : d = 0 := by omega
    have hn0 : n = 0 := by
      rcases Nat.mul_eq_zero.1 hn with h | h
      · exact h
      · omega
    subst hn0; subst hd0
    rw [Nat.zero_mul, letS_zero]
    exact M.z.symm
  · rw [letS_succ h2 h]
    have e1 : (n * base.toNat + d) / base.toNat = n := by
      rw [Nat.mul_comm, Nat.mul_add_div (by omega), Nat.div_eq_of_lt hd, Nat.add_zero]
    have e2 : (n * base.toNat + d) % base.toNat = d := by
      rw [Nat.mul_comm, Nat.mul_add_mod, Nat.mod_eq_of_lt hd]
    rw [e1, e2]
/-- the next of the first places -/
def stp (c : Nat → Nat) (P : List Nat) (m : Nat) : List Nat := if c m ∈ P.map c then P else P ++ [m]
def inr (c : Nat → Nat) (n B : Nat) : Nat → List Nat → List Nat
  | 0, P => P
  | e + 1, P => inr c n B e (stp c P (n * B + (B - (e + 1))))
structure Good (c : Nat → Nat) (P : List Nat) (lo : Nat) : Prop where
  z : 0 ∈ P
  nd : (P.map c).Nodup
  so : P.Pairwise (· < ·)
  bd : ∀ n ∈ P, n + 1 ≤ 4 ^ P.length
  up : ∀ n ∈ P, n = 0 ∨ n < lo
theorem pre_stp (c : Nat → Nat) (P : List Nat) (m : Nat) : ∃ S, stp c P m = P ++ S := by
  unfold stp
  split
  · exact ⟨[], by simp⟩
  · exact ⟨[m], rfl⟩
theorem pre_inr (c : Nat → Nat) (n B : Nat) : ∀ e P, ∃ S, inr c n B e P = P ++ S
  | 0, P => ⟨[], by simp [inr]⟩
  | e + 1, P => by
    obtain ⟨S, hS⟩ := pre_stp c P (n * B + (B - (e + 1)))
    obtain ⟨S', hS'⟩ := pre_inr c n B e (stp c P (n * B + (B - (e + 1))))
    refine ⟨S ++ S', ?_⟩
    rw [inr, hS', hS, List.append_assoc]
theorem good_stp {c : Nat → Nat} {P : List Nat} {m n B : Nat} (h : Good c P m) (hn : n ∈ P) (hB : B ≤ 4) (hm : m < (n + 1) * B) : Good c (stp c P m) (m + 1) ∧ ∃ n' ∈ stp c P m, n' ≤ m ∧ c n' = c m := by
  unfold stp
  split
  · rename_i hc
    refine ⟨⟨h.z, h.nd, h.so, h.bd, fun x hx => ?_⟩, ?_⟩
    · rcases h.up x hx with h | h
      · exact .inl h
      · exact .inr (by omega)
    · obtain ⟨x, hx, he⟩ := List.mem_map.1 hc
      refine ⟨x, hx, ?_, he⟩
      rcases h.up x hx with h | h <;> omega
  · rename_i hc
    have hb := h.bd n hn
    have hm0 : m ≠ 0 := fun e => hc (by rw [e]; exact List.mem_map.2 ⟨0, h.z, rfl⟩)
    have hp : 4 ^ (P.length + 1) = 4 ^ P.length * 4 := Nat.pow_succ ..
    have hle : (n + 1) * B ≤ 4 ^ P.length * 4 := Nat.mul_le_mul hb hB
    refine ⟨⟨List.mem_append_left _ h.z, ?_, ?_, fun x hx => ?_, fun x hx => ?_⟩, m, List.mem_append_right _ List.mem_cons_self, Nat.le_refl _, rfl⟩
    · rw [List.map_append, List.nodup_append]
      refine ⟨h.nd, by simp, fun x hx y hy => ?_⟩
      simp only [List.map_cons, List.map_nil, List.mem_singleton] at hy
      subst hy
      exact fun e => hc (e ▸ hx)
    · rw [List.pairwise_append]
      refine ⟨h.so, by simp, fun x hx y hy => ?_⟩
      rw [List.mem_singleton.1 hy]
      rcases h.up x hx with h | h <;> omega
    · rw [List.length_append, List.length_singleton, hp]
      rcases List.mem_append.1 hx with hx | hx
      · have := h.bd x hx; omega
      · rw [List.mem_singleton.1 hx]; omega
    · rcases List.mem_append.1 hx with hx | hx
      · rcases h.up x hx with h | h
        · exact .inl h
        · exact .inr (by omega)
      · rw [List.mem_singleton.1 hx]; exact .inr (by omega)
theorem good_inr {c : Nat → Nat} {n B : Nat} (hB : B ≤ 4) : ∀ (e : Nat) (P : List Nat), e ≤ B → n ∈ P → Good c P (n * B + (B - e)) → Good c (inr c n B e P) (n * B + B) ∧ ∀ d, B - e ≤ d → d < B → ∃ n' ∈ inr c n B e P, n' ≤ n * B + d ∧ c n' = c (n * B + d)
  | 0, P, _, _, h => ⟨h, fun d h1 h2 => by omega⟩
  | e + 1, P, he, hn, h => by
    have hm : n * B + (B - (e + 1)) < (n + 1) * B := by rw [Nat.add_mul]; omega
    obtain ⟨g1, g2⟩ := good_stp h hn hB hm
    obtain ⟨S, hS⟩ := pre_stp c P (n * B + (B - (e + 1)))
    have e1 : n * B + (B - (e + 1)) + 1 = n * B + (B - e) := by omega
    rw [e1] at g1
    obtain ⟨k1, k2⟩ := good_inr hB e (stp c P (n * B + (B - (e + 1)))) (by omega) (by rw [hS]; exact List.mem_append_left _ hn) g1
    refine ⟨k1, fun d h1 h2 => ?_⟩
    by_cases hd : d = B - (e + 1)
    · subst hd
      obtain ⟨n', h3, h4, h5⟩ := g2
      obtain ⟨S', hS'⟩ := pre_inr c n B e (stp c P (n * B + (B - (e + 1))))
      refine ⟨n', ?_, h4, h5⟩
      rw [inr, hS']
      exact List.mem_append_left _ h3
    · exact k2 d (by omega) h2
section
variable {base : Int} {A A' : List (List Int)} {cA cA' : List Int}
/-- two letters as one number -/
def cod2 (base : Int) (A A' : List (List Int)) (n : Nat) : Nat := (letS base A n).toNat * 4 + (letS base A' n).toNat
theorem cod2_step (M : MOk base A cA) (M' : MOk base A' cA') {n n' d : Nat} (hd : d < base.toNat) (h : cod2 base A A' n = cod2 base A A' n') : cod2 base A A' (n * base.toNat + d) = cod2 base A A' (n' * base.toNat + d) := by
  unfold cod2 at h ⊢
  have r1 := letS_rng M n; have r2 := letS_rng M n'; have r3 := letS_rng M' n; have r4 := letS_rng M' n'
  have := M.n4; have := M'.n4
  have e1 : (letS base A n).toNat = (letS base A n').toNat := by omega
  have e2 : (letS base A' n).toNat = (letS base A' n').toNat := by omega
  rw [letS_step M n d hd, letS_step M n' d hd, letS_step M' n d hd, letS_step M' n' d hd, e1, e2]
theorem cod2_lt (M : MOk base A cA) (M' : MOk base A' cA') (n : Nat) : cod2 base A A' n < 16 := by
  unfold cod2
  have r1 := letS_rng M n; have r3 := letS_rng M' n
  have := M.n4; have := M'.n4
  omega
theorem good_len (M : MOk base A cA) (M' : MOk base A' cA') {P : List Nat} {lo : Nat} (g : Good (cod2 base A A') P lo) : P.length ≤ 16 := by
  have := nodup_len 16 _ g.nd (fun x hx => by
    obtain ⟨n, _, rfl⟩ := List.mem_map.1 hx
    exact cod2_lt M M' n)
  rwa [List.length_map] at this
/-- the numbers at a place of both are one -/
def Eqn (base : Int) (A A' : List (List Int)) (cA cA' : List Int) (n : Nat) : Prop := cA.getD (letS base A n).toNat 0 = cA'.getD (letS base A' n).toNat 0
theorem eqn_cod (M : MOk base A cA) (M' : MOk base A' cA') {n n' : Nat} (h : cod2 base A A' n = cod2 base A A' n') (e : Eqn base A A' cA cA' n) : Eqn base A A' cA cA' n' := by
  unfold cod2 at h
  unfold Eqn at e ⊢
  have r1 := letS_rng M n; have r2 := letS_rng M n'; have r3 := letS_rng M' n; have r4 := letS_rng M' n'
  have := M.n4; have := M'.n4
  have e1 : (letS base A n).toNat = (letS base A n').toNat := by omega
  have e2 : (letS base A' n).toNat = (letS base A' n').toNat := by omega
  rwa [e1, e2] at e
def MapInv (c : Nat → Nat) (n1 n2 : Nat) (Mp : List ((Int × Int) × Int)) (P : List Nat) : Prop := ∀ x y : Nat, x < n1 → y < n2 → mget Mp ((x : Int), (y : Int)) 0 = if x * 4 + y ∈ P.map c then 1 else 0
def SeenInv (c : Nat → Nat) (n1 n2 : Nat) (S : List Bool) (P : List Nat) : Prop := S.length = n1 * n2 ∧ ∀ x y : Nat, x < n1 → y < n2 → S.getD (x * n2 + y) false = decide (x * 4 + y ∈ P.map c)
def mkT (base : Int) (A A' : List (List Int)) (n : Nat) : S97 := ⟨letS base A n, letS base A' n, (n : Int)⟩
theorem map_stp {c : Nat → Nat} {n1 n2 : Nat} (h1 : n1 ≤ 4) (h2 : n2 ≤ 4) {Mp : List ((Int × Int) × Int)} {P : List Nat} {m x y : Nat} (hx : x < n1) (hy : y < n2) (hc : c m = x * 4 + y) (h : MapInv c n1 n2 Mp P) : MapInv c n1 n2 (mput Mp ((x : Int), (y : Int)) 1) (P ++ [m]) := by
  intro x' y' hx' hy'
  rw [mget_mput]
  by_cases e : (((x' : Int), (y' : Int)) : Int × Int) = ((x : Int), (y : Int))
  · simp only [Prod.mk.injEq] at e
    have e1 : x' = x := by omega
    have e2 : y' = y := by omega
    subst e1; subst e2
    rw [if_pos rfl, if_pos]
    rw [List.map_append, ← hc]
    exact List.mem_append_right _ List.mem_cons_self
  · rw [if_neg e, h x' y' hx' hy']
    have hne : x' * 4 + y' ≠ c m := by
      intro e2
      rw [hc] at e2
      apply e
      simp only [Prod.mk.injEq]
      omega
    simp [List.map_append, hne]
theorem idx_ne {x y x' y' n2 : Nat} (hy : y < n2) (hy' : y' < n2) (e : x * n2 + y = x' * n2 + y') : x = x' ∧ y = y' := by
  have h1 : (x * n2 + y) / n2 = x := by rw [Nat.mul_comm, Nat.mul_add_div (by omega), Nat.div_eq_of_lt hy, Nat.add_zero]
  have h2 : (x' * n2 + y') / n2 = x' := by rw [Nat.mul_comm, Nat.mul_add_div (by omega), Nat.div_eq_of_lt hy', Nat.add_zero]
  have : x = x' := by rw [← h1, e, h2]
  subst this
  exact ⟨rfl, by omega⟩
theorem idx_lt {x y n1 n2 : Nat} (hx : x < n1) (hy : y < n2) : x * n2 + y < n1 * n2 := by
  have : (x + 1) * n2 ≤ n1 * n2 := Nat.mul_le_mul_right _ hx
  rw [Nat.add_mul] at this
  omega
theorem seen_stp {c : Nat → Nat} {n1 n2 : Nat} (h1 : n1 ≤ 4) (h2 : n2 ≤ 4) {S : List Bool} {P : List Nat} {m x y : Nat} (hx : x < n1) (hy : y < n2) (hc : c m = x * 4 + y) (h : SeenInv c n1 n2 S P) : SeenInv c n1 n2 (S.set (x * n2 + y) true) (P ++ [m]) := by
  refine ⟨by rw [List.length_set]; exact h.1, fun x' y' hx' hy' => ?_⟩
  have hl := idx_lt hx hy
  rw [← h.1] at hl
  rw [List.getD_eq_getElem?_getD, List.getElem?_set]
  by_cases e : x * n2 + y = x' * n2 + y'
  · obtain ⟨rfl, rfl⟩ := idx_ne hy hy' e
    rw [if_pos rfl, if_pos hl]
    have : x * 4 + y ∈ (P ++ [m]).map c := by rw [List.map_append, ← hc]; exact List.mem_append_right _ List.mem_cons_self
    rw [decide_eq_true this]
    rfl
  · rw [if_neg e, ← List.getD_eq_getElem?_getD, h.2 x' y' hx' hy']
    have hne : x' * 4 + y' ≠ c m := by
      intro e2
      rw [hc] at e2
      have h3 : x = x' := by omega
      have h4 : y = y' := by omega
      subst h3; subst h4
      exact e rfl
    simp [List.map_append, hne]
end
theorem rdT (l : List S97) (h : 0 < l.length) : rd_T97 l 0 = l[0] := by
  unfold rd_T97
  rw [show (0 : Int).toNat = 0 from rfl, List.getD_eq_getElem?_getD, List.getElem?_eq_getElem h]; rfl
section
variable {base : Int} {A A' : List (List Int)} {cA cA' : List Int}
theorem p_l2 (M : MOk base A cA) (M' : MOk base A' cA') (n i : Nat) (hnb : n ≤ 4294967296) (Z : Int × Bool × Int) : ∀ (e : Nat) (P : List Nat) (Mp : List ((Int × Int) × Int)), e ≤ base.toNat → i < P.length → P.length ≤ 1000 - e → MapInv (cod2 base A A') A.length A'.length Mp P →
    (∀ Mp', MapInv (cod2 base A A') A.length A'.length Mp' (inr (cod2 base A A') n base.toNat e P) → Ev (fun k => seqs_Differ.l1 k (((inr (cod2 base A A') n base.toNat e P).drop (i + 1)).map (mkT base A A')) base A cA base A' cA' Mp') Z) →
    Ev (fun k => seqs_Differ.l2 k ((P.drop i).map (mkT base A A')) base ((base.toNat - e : Nat) : Int) base A cA base A' cA' Mp (letS base A n) (letS base A' n) (n : Int)) Z := by
  intro e
  have hb2 := M.b2
  have hb4 := M.b4
  induction e with
  | zero =>
    intro P Mp _ hi hl hM cont
    refine Ev.step (fun k => by rw [seqs_Differ.l2]) ?_
    simp only [if_neg (show ¬ ((base.toNat - 0 : Nat) : Int) < base by omega), if_pos (show (1 : Int) ≤ (((P.drop i).map (mkT base A A')).length : Int) by rw [List.length_map, List.length_drop]; omega)]
    have := cont Mp hM
    rw [inr] at this
    rw [show (1 : Int).toNat = 1 from rfl, ← List.map_drop, List.drop_drop]
    exact this
  | succ e ih =>
    intro P Mp he hi hl hM cont
    refine Ev.step (fun k => by rw [seqs_Differ.l2]) ?_
    obtain ⟨d, hd⟩ : ∃ d : Nat, d = base.toNat - (e + 1) := ⟨_, rfl⟩
    have hdlt : d < base.toNat := by omega
    rw [← hd]
    obtain ⟨s, hs⟩ := Int.eq_ofNat_of_zero_le (letS_rng M n).1
    obtain ⟨t, ht⟩ := Int.eq_ofNat_of_zero_le (letS_rng M' n).1
    have hs1 : s < A.length := by have := (letS_rng M n).2; omega
    have ht1 : t < A'.length := by have := (letS_rng M' n).2; omega
    have hsl := M.rl _ (getD_mem A s [] hs1)
    have htl := M'.rl _ (getD_mem A' t [] ht1)
    have hx := cell_rng M hs1 (show (d : Int) < base by omega)
    have hy := cell_rng M' ht1 (show (d : Int) < base by omega)
    have ex : letS base A (n * base.toNat + d) = (A.getD s []).getD d 0 := by rw [letS_step M n d hdlt, hs]; rfl
    have ey : letS base A' (n * base.toNat + d) = (A'.getD t []).getD d 0 := by rw [letS_step M' n d hdlt, ht]; rfl
    obtain ⟨x, hx1⟩ := Int.eq_ofNat_of_zero_le hx.1
    obtain ⟨y, hy1⟩ := Int.eq_ofNat_of_zero_le hy.1
    rw [hx1] at hx ex
    rw [hy1] at hy ey
    have hc : cod2 base A A' (n * base.toNat + d) = x * 4 + y := by unfold cod2; rw [ex, ey]; simp
    have hmul : n * base.toNat ≤ 4294967296 * 4 := Nat.mul_le_mul hnb (by omega)
    have w2 : wrap64 ((n : Int) * base) = ((n * base.toNat : Nat) : Int) := by
      have e0 : (n : Int) * base = ((n * base.toNat : Nat) : Int) := by rw [Int.natCast_mul, Int.toNat_of_nonneg (by omega)]
      rw [e0, w64 (by omega) (by omega)]
    have w3 : wrap64 (wrap64 ((n : Int) * base) + (d : Int)) = ((n * base.toNat + d : Nat) : Int) := by rw [w2, w64 (by omega) (by omega)]; omega
    have w4 : wrap64 ((d : Int) + 1) = ((base.toNat - e : Nat) : Int) := by rw [w1 d (by omega)]; omega
    have hstp : inr (cod2 base A A') n base.toNat (e + 1) P = inr (cod2 base A A') n base.toNat e (stp (cod2 base A A') P (n * base.toNat + d)) := by rw [inr, hd]
    rw [hstp] at cont
    simp only [hs, ht, rdL, rdN, w3, w4, hx1, hy1, if_pos (show (d : Int) < base by omega), if_pos (show 0 ≤ (s : Int) by omega), if_pos (show (s : Int) < (A.length : Int) by omega), if_pos (show 0 ≤ (d : Int) by omega), if_pos (show (d : Int) < ((A.getD s []).length : Int) by omega),
      if_pos (show 0 ≤ (t : Int) by omega), if_pos (show (t : Int) < (A'.length : Int) by omega), if_pos (show (d : Int) < ((A'.getD t []).length : Int) by omega), hM x y (by omega) (by omega)]
    unfold stp at cont
    rw [hc] at cont
    rw [hs, ht] at ih
    by_cases hin : x * 4 + y ∈ P.map (cod2 base A A')
    · rw [if_pos hin] at cont
      simp only [if_pos hin, if_neg (show ¬ (1 : Int) = 0 by decide)]
      exact ih P Mp (by omega) hi (by omega) hM cont
    · rw [if_neg hin] at cont
      simp only [if_neg hin, if_true, if_pos (show ((P.drop i).map (mkT base A A')).length < 5864062014805 by rw [List.length_map, List.length_drop]; omega)]
      have e1 : (P.drop i).map (mkT base A A') ++ [(⟨(x : Int), (y : Int), ((n * base.toNat + d : Nat) : Int)⟩ : S97)] = ((P ++ [n * base.toNat + d]).drop i).map (mkT base A A') := by
        rw [List.drop_append_of_le_length (by omega), List.map_append]
        simp [mkT, ex, ey]
      rw [e1]
      exact ih (P ++ [n * base.toNat + d]) _ (by omega) (by rw [List.length_append]; omega) (by rw [List.length_append, List.length_singleton]; omega) (map_stp M.n4 M'.n4 (by omega) (by omega) hc hM) cont
end
section
variable {base : Int} {A A' : List (List Int)} {cA cA' : List Int}
theorem r_l1 (M : MOk base A cA) (M' : MOk base A' cA') (n i : Nat) (hnb : n ≤ 4294967296) (Z : Int × Bool) : ∀ (e : Nat) (P : List Nat) (S : List Bool), e ≤ base.toNat → i < 1000 → P.length ≤ 1000 - e → SeenInv (cod2 base A A') A.length A'.length S P →
    (∀ S', SeenInv (cod2 base A A') A.length A'.length S' (inr (cod2 base A A') n base.toNat e P) → Ev (fun k => evermoreref23_Differ.l0 k S' ((inr (cod2 base A A') n base.toNat e P).map Int.ofNat) ((i + 1 : Nat) : Int) base A cA base A' cA') Z) →
    Ev (fun k => evermoreref23_Differ.l1 k S (P.map Int.ofNat) (i : Int) (n : Int) (letS base A n) (letS base A' n) ((base.toNat - e : Nat) : Int) base A cA base A' cA') Z := by
  intro e
  have hb2 := M.b2
  have hb4 := M.b4
  induction e with
  | zero =>
    intro P S _ hi hl hM cont
    refine Ev.step (fun k => by rw [evermoreref23_Differ.l1]) ?_
    simp only [if_neg (show ¬ ((base.toNat - 0 : Nat) : Int) < base by omega)]
    have := cont S hM
    rw [inr] at this
    rw [w1 i (by omega)]
    exact this
  | succ e ih =>
    intro P S he hi hl hM cont
    refine Ev.step (fun k => by rw [evermoreref23_Differ.l1]) ?_
    obtain ⟨d, hd⟩ : ∃ d : Nat, d = base.toNat - (e + 1) := ⟨_, rfl⟩
    have hdlt : d < base.toNat := by omega
    rw [← hd]
    obtain ⟨s, hs⟩ := Int.eq_ofNat_of_zero_le (letS_rng M n).1
    obtain ⟨t, ht⟩ := Int.eq_ofNat_of_zero_le (letS_rng M' n).1
    have hs1 : s < A.length := by have := (letS_rng M n).2; omega
    have ht1 : t < A'.length := by have := (letS_rng M' n).2; omega
    have hsl := M.rl _ (getD_mem A s [] hs1)
    have htl := M'.rl _ (getD_mem A' t [] ht1)
    have hx := cell_rng M hs1 (show (d : Int) < base by omega)
    have hy := cell_rng M' ht1 (show (d : Int) < base by omega)
    have ex : letS base A (n * base.toNat + d) = (A.getD s []).getD d 0 := by rw [letS_step M n d hdlt, hs]; rfl
    have ey : letS base A' (n * base.toNat + d) = (A'.getD t []).getD d 0 := by rw [letS_step M' n d hdlt, ht]; rfl
    obtain ⟨x, hx1⟩ := Int.eq_ofNat_of_zero_le hx.1
    obtain ⟨y, hy1⟩ := Int.eq_ofNat_of_zero_le hy.1
    rw [hx1] at hx ex
    rw [hy1] at hy ey
    have hxA : x < A.length := by omega
    have hyA : y < A'.length := by omega
    have hSl := hM.1
    have hil := idx_lt hxA hyA
    have hi0 : 0 ≤ ((x * A'.length + y : Nat) : Int) := Int.natCast_nonneg _
    have hi1 : ((x * A'.length + y : Nat) : Int) < (S.length : Int) := by rw [hSl]; exact Int.ofNat_lt.2 hil
    have hc : cod2 base A A' (n * base.toNat + d) = x * 4 + y := by unfold cod2; rw [ex, ey]; simp
    have hmul : n * base.toNat ≤ 4294967296 * 4 := Nat.mul_le_mul hnb (by omega)
    have w2 : wrap64 ((n : Int) * base) = ((n * base.toNat : Nat) : Int) := by
      have e0 : (n : Int) * base = ((n * base.toNat : Nat) : Int) := by rw [Int.natCast_mul, Int.toNat_of_nonneg (by omega)]
      rw [e0, w64 (by omega) (by omega)]
    have w3 : wrap64 (wrap64 ((n : Int) * base) + (d : Int)) = ((n * base.toNat + d : Nat) : Int) := by rw [w2, w64 (by omega) (by omega)]; omega
    have w4 : wrap64 ((d : Int) + 1) = ((base.toNat - e : Nat) : Int) := by rw [w1 d (by omega)]; omega
    have h44 := M.n4
    have h45 := M'.n4
    have hm16 : A.length * A'.length ≤ 4 * 4 := Nat.mul_le_mul h44 h45
    have w5 : wrap64 (wrap64 ((x : Int) * (A'.length : Int)) + (y : Int)) = ((x * A'.length + y : Nat) : Int) := by
      have e0 : (x : Int) * (A'.length : Int) = ((x * A'.length : Nat) : Int) := by rw [Int.natCast_mul]
      rw [e0, w64 (n := ((x * A'.length : Nat) : Int)) (by omega) (by omega), w64 (by omega) (by omega)]; omega
    have hsd : rdOf false S ((x * A'.length + y : Nat) : Int) = decide (x * 4 + y ∈ P.map (cod2 base A A')) := by
      unfold rdOf; rw [Int.toNat_natCast]; exact hM.2 x y hxA hyA
    have hstp : inr (cod2 base A A') n base.toNat (e + 1) P = inr (cod2 base A A') n base.toNat e (stp (cod2 base A A') P (n * base.toNat + d)) := by rw [inr, hd]
    rw [hstp] at cont
    simp only [hs, ht, rdL, rdN, w3, w4, hx1, hy1, w5, hsd, if_pos (show (d : Int) < base by omega), if_pos (show 0 ≤ (s : Int) by omega), if_pos (show (s : Int) < (A.length : Int) by omega), if_pos (show 0 ≤ (d : Int) by omega), if_pos (show (d : Int) < ((A.getD s []).length : Int) by omega),
      if_pos (show 0 ≤ (t : Int) by omega), if_pos (show (t : Int) < (A'.length : Int) by omega), if_pos (show (d : Int) < ((A'.getD t []).length : Int) by omega), if_pos hi0, if_pos hi1]
    unfold stp at cont
    rw [hc] at cont
    rw [hs, ht] at ih
    by_cases hin : x * 4 + y ∈ P.map (cod2 base A A')
    · rw [if_pos hin] at cont
      simp only [decide_eq_true hin, if_true]
      exact ih P S (by omega) hi (by omega) hM cont
    · rw [if_neg hin] at cont
      simp only [decide_eq_false hin, if_neg (show ¬ (false = true) by decide), if_pos (show (P.map Int.ofNat).length < 17592186044416 by rw [List.length_map]; omega)]
      have e1 : P.map Int.ofNat ++ [((n * base.toNat + d : Nat) : Int)] = (P ++ [n * base.toNat + d]).map Int.ofNat := by simp
      rw [e1, Int.toNat_natCast]
      exact ih (P ++ [n * base.toNat + d]) _ (by omega) hi (by rw [List.length_append, List.length_singleton]; omega) (seen_stp M.n4 M'.n4 hxA hyA hc hM) cont
/-- what the answer says -/
def Post (base : Int) (A A' : List (List Int)) (cA cA' : List Int) (r : Int × Bool) : Prop :=
  (r.2 = true ∧ ∃ N : Nat, r.1 = (N : Int) ∧ ¬ Eqn base A A' cA cA' N ∧ ∀ m, m < N → Eqn base A A' cA cA' m) ∨ (r = (0, false) ∧ ∀ m, Eqn base A A' cA cA' m)
/-- what is known when place i is looked at -/
structure St (base : Int) (A A' : List (List Int)) (cA cA' : List Int) (i : Nat) (P : List Nat) : Prop where
  le : i ≤ P.length
  p0 : P.getD 0 0 = 0
  good : ∃ lo, Good (cod2 base A A') P lo
  up : ∀ n ∈ P, n = 0 ∨ ∃ j, j < i ∧ n < (P.getD j 0 + 1) * base.toNat
  done : ∀ j, j < i → ∀ d, d < base.toNat → ∃ n' ∈ P, n' ≤ P.getD j 0 * base.toNat + d ∧ cod2 base A A' n' = cod2 base A A' (P.getD j 0 * base.toNat + d)
  eq : ∀ j, j < i → Eqn base A A' cA cA' (P.getD j 0)
theorem so_lt {P : List Nat} (h : P.Pairwise (· < ·)) {i j : Nat} (hj : j < i) (hi : i < P.length) : P.getD j 0 < P.getD i 0 := by
  have := List.pairwise_iff_getElem.1 h j i (by omega) hi hj
  rw [List.getD_eq_getElem?_getD, List.getD_eq_getElem?_getD, List.getElem?_eq_getElem (by omega), List.getElem?_eq_getElem hi]
  exact this
/-- every place is led back to one of the first -/
theorem back (M : MOk base A cA) (M' : MOk base A' cA') {i : Nat} {P : List Nat} (s : St base A A' cA cA' i P) (top : Nat) (hi : 0 < i) (htop : ∀ j, j < P.length → P.getD j 0 < top → j < i) : ∀ m, m < top → ∃ j, j < i ∧ P.getD j 0 ≤ m ∧ cod2 base A A' (P.getD j 0) = cod2 base A A' m := by
  intro m
  induction m using Nat.strongRecOn with
  | _ m ih =>
    intro hm
    have h2 := M.b2
    by_cases h0 : m = 0
    · subst h0
      exact ⟨0, hi, by rw [s.p0]; exact Nat.le_refl _, by rw [s.p0]⟩
    · have hq : m / base.toNat < m := Nat.div_lt_self (by omega) (by omega)
      have hd : m % base.toNat < base.toNat := Nat.mod_lt _ (by omega)
      have hdm : m / base.toNat * base.toNat + m % base.toNat = m := by rw [Nat.mul_comm]; exact Nat.div_add_mod _ _
      obtain ⟨j, hj, hle, hc⟩ := ih _ hq (by omega)
      obtain ⟨n', hn', hle', hc'⟩ := s.done j hj _ hd
      have hmul : P.getD j 0 * base.toNat ≤ m / base.toNat * base.toNat := Nat.mul_le_mul_right _ hle
      obtain ⟨q, hq1, rfl⟩ := List.getElem_of_mem hn'
      have eq1 : P.getD q 0 = P[q] := by rw [List.getD_eq_getElem?_getD, List.getElem?_eq_getElem hq1]; rfl
      refine ⟨q, htop q hq1 (by rw [eq1]; omega), by rw [eq1]; omega, ?_⟩
      rw [eq1, hc', cod2_step M M' hd hc, hdm]
theorem both (M : MOk base A cA) (M' : MOk base A' cA') : ∀ (u i : Nat) (P : List Nat), i + u = 17 → St base A A' cA cA' i P →
    ∃ r : Int × Bool, (∀ Mp, MapInv (cod2 base A A') A.length A'.length Mp P → Ev (fun k => seqs_Differ.l1 k ((P.drop i).map (mkT base A A')) base A cA base A' cA' Mp) (r.1, r.2, 0)) ∧ (∀ S, SeenInv (cod2 base A A') A.length A'.length S P → Ev (fun k => evermoreref23_Differ.l0 k S (P.map Int.ofNat) (i : Int) base A cA base A' cA') r) ∧ Post base A A' cA cA' r := by
  intro u
  have hb2 := M.b2
  have hb4 := M.b4
  induction u with
  | zero =>
    intro i P hu s
    obtain ⟨lo, g⟩ := s.good
    have := good_len M M' g
    have := s.le
    omega
  | succ u ih =>
    intro i P hu s
    obtain ⟨lo, g⟩ := s.good
    have hl := good_len M M' g
    by_cases hi : i < P.length
    · obtain ⟨n, hn⟩ : ∃ n, n = P.getD i 0 := ⟨_, rfl⟩
      have hnm : n ∈ P := by rw [hn]; exact getD_mem _ _ _ hi
      have hnb : n ≤ 4294967296 := by
        have h1 := g.bd n hnm
        have h2 : 4 ^ P.length ≤ 4 ^ 16 := Nat.pow_le_pow_right (by decide) hl
        have h3 : (4 : Nat) ^ 16 = 4294967296 := by decide
        omega
      obtain ⟨x, hx⟩ := Int.eq_ofNat_of_zero_le (letS_rng M n).1
      obtain ⟨y, hy⟩ := Int.eq_ofNat_of_zero_le (letS_rng M' n).1
      have hx1 : x < A.length := by have := (letS_rng M n).2; omega
      have hy1 : y < A'.length := by have := (letS_rng M' n).2; omega
      have hcl := M.cl
      have hcl' := M'.cl
      have hlen : ((P.drop i).map (mkT base A A')).length = P.length - i := by rw [List.length_map, List.length_drop]
      have hhd : rd_T97 ((P.drop i).map (mkT base A A')) 0 = mkT base A A' n := by
        rw [rdT _ (by omega)]
        rw [List.getElem_map, List.getElem_drop, hn, List.getD_eq_getElem?_getD, List.getElem?_eq_getElem (by omega)]
        rfl
      have hri : rd (P.map Int.ofNat) (i : Int) = (n : Int) := by
        rw [rdN, hn, List.getD_eq_getElem?_getD, List.getD_eq_getElem?_getD, List.getElem?_map, List.getElem?_eq_getElem hi]; rfl
      have ep : ∀ Mp Z, (if cA.getD x 0 = cA'.getD y 0 then Ev (fun k => seqs_Differ.l2 k ((P.drop i).map (mkT base A A')) base 0 base A cA base A' cA' Mp (letS base A n) (letS base A' n) (n : Int)) Z else Z = ((n : Int), true, 0)) → Ev (fun k => seqs_Differ.l1 k ((P.drop i).map (mkT base A A')) base A cA base A' cA' Mp) Z := by
        intro Mp Z hZ
        refine Ev.step (fun k => by rw [seqs_Differ.l1]) ?_
        rw [hhd]
        simp only [mkT, hx, hy, rdN, if_pos (show (((P.drop i).map (mkT base A A')).length : Int) > 0 by omega), if_pos (show (0 : Int) < (((P.drop i).map (mkT base A A')).length : Int) by omega), if_pos (show 0 ≤ (x : Int) by omega), if_pos (show 0 ≤ (y : Int) by omega), if_pos (show (x : Int) < (cA.length : Int) by omega), if_pos (show (y : Int) < (cA'.length : Int) by omega)]
        by_cases he : cA.getD x 0 = cA'.getD y 0
        · rw [if_pos he] at hZ
          simp only [if_pos he]
          rw [hx, hy] at hZ
          exact hZ
        · rw [if_neg he] at hZ
          simp only [if_neg he]
          exact evc (Ev.now _) hZ.symm
      have er : ∀ S Z, (if cA.getD x 0 = cA'.getD y 0 then Ev (fun k => evermoreref23_Differ.l1 k S (P.map Int.ofNat) (i : Int) (n : Int) (letS base A n) (letS base A' n) 0 base A cA base A' cA') Z else Z = ((n : Int), true)) → Ev (fun k => evermoreref23_Differ.l0 k S (P.map Int.ofNat) (i : Int) base A cA base A' cA') Z := by
        intro S Z hZ
        refine Ev.step (fun k => by rw [evermoreref23_Differ.l0]) ?_
        rw [hri]
        simp only [if_pos (show (i : Int) < ((P.map Int.ofNat).length : Int) by rw [List.length_map]; omega), if_pos (show 0 ≤ (i : Int) by omega)]
        refine Ev.bind (refLetter_ev M n (by omega)) ?_
        refine Ev.bind (refLetter_ev M' n (by omega)) ?_
        simp only [hx, hy, rdN, if_pos (show 0 ≤ (x : Int) by omega), if_pos (show 0 ≤ (y : Int) by omega), if_pos (show (x : Int) < (cA.length : Int) by omega), if_pos (show (y : Int) < (cA'.length : Int) by omega)]
        by_cases he : cA.getD x 0 = cA'.getD y 0
        · rw [if_pos he] at hZ
          simp only [if_pos he]
          rw [hx, hy] at hZ
          exact hZ
        · rw [if_neg he] at hZ
          simp only [if_neg he]
          exact evc (Ev.now _) hZ.symm
      have hEq : Eqn base A A' cA cA' n ↔ cA.getD x 0 = cA'.getD y 0 := by unfold Eqn; rw [hx, hy]; simp
      by_cases he : cA.getD x 0 = cA'.getD y 0
      · -- the next round
        have hup : ∀ z ∈ P, z = 0 ∨ z < n * base.toNat + (base.toNat - base.toNat) := by
          intro z hz
          rcases s.up z hz with h | ⟨j, hj, hlt⟩
          · exact .inl h
          · have h1 := so_lt g.so hj hi
            rw [← hn] at h1
            have h2 : (P.getD j 0 + 1) * base.toNat ≤ n * base.toNat := Nat.mul_le_mul_right _ h1
            exact .inr (by omega)
        have g0 : Good (cod2 base A A') P (n * base.toNat + (base.toNat - base.toNat)) := ⟨g.z, g.nd, g.so, g.bd, hup⟩
        obtain ⟨g1, g2⟩ := good_inr (c := cod2 base A A') (n := n) (B := base.toNat) (by omega) base.toNat P (Nat.le_refl _) hnm g0
        obtain ⟨T, hT⟩ := pre_inr (cod2 base A A') n base.toNat base.toNat P
        have hg : ∀ j, j < P.length → (inr (cod2 base A A') n base.toNat base.toNat P).getD j 0 = P.getD j 0 := by
          intro j hj
          rw [hT, List.getD_eq_getElem?_getD, List.getElem?_append_left hj, ← List.getD_eq_getElem?_getD]
        have hmem : ∀ z, z ∈ P → z ∈ inr (cod2 base A A') n base.toNat base.toNat P := fun z hz => by rw [hT]; exact List.mem_append_left _ hz
        have hl2 := good_len M M' g1
        have s' : St base A A' cA cA' (i + 1) (inr (cod2 base A A') n base.toNat base.toNat P) := by
          refine ⟨by rw [hT, List.length_append]; omega, by rw [hg 0 (by omega)]; exact s.p0, ⟨_, g1⟩, fun z hz => ?_, fun j hj d hd => ?_, fun j hj => ?_⟩
          · rcases g1.up z hz with h | h
            · exact .inl h
            · refine .inr ⟨i, by omega, ?_⟩
              rw [hg i hi, ← hn, Nat.add_mul]
              omega
          · by_cases hji : j = i
            · subst hji
              rw [hg j hi, ← hn]
              exact g2 d (by omega) hd
            · rw [hg j (by omega)]
              obtain ⟨n', h1, h2, h3⟩ := s.done j (by omega) d hd
              exact ⟨n', hmem _ h1, h2, h3⟩
          · by_cases hji : j = i
            · subst hji
              rw [hg j hi, ← hn]
              exact hEq.2 he
            · rw [hg j (by omega)]
              exact s.eq j (by omega)
        obtain ⟨r, k1, k2, k3⟩ := ih (i + 1) _ (by omega) s'
        refine ⟨r, fun Mp hM => ep Mp _ ?_, fun S hS => er S _ ?_, k3⟩
        · rw [if_pos he]
          have := p_l2 M M' n i hnb (r.1, r.2, 0) base.toNat P Mp (Nat.le_refl _) hi (by omega) hM (fun Mp' hM' => k1 Mp' hM')
          rw [Nat.sub_self] at this
          exact this
        · rw [if_pos he]
          have := r_l1 M M' n i hnb r base.toNat P S (Nat.le_refl _) (by omega) (by omega) hS (fun S' hS' => k2 S' hS')
          rw [Nat.sub_self] at this
          exact this
      · refine ⟨((n : Int), true), fun Mp _ => ep Mp _ (by rw [if_neg he]), fun S _ => er S _ (by rw [if_neg he]), .inl ⟨rfl, n, rfl, fun h => he (hEq.1 h), fun m hm => ?_⟩⟩
        have hi0 : 0 < i := by
          rcases Nat.eq_zero_or_pos i with h | h
          · subst h
            rw [s.p0] at hn
            omega
          · exact h
        obtain ⟨j, hj, _, hc⟩ := back M M' s n hi0 (fun j hj hlt => by
          rcases Nat.lt_or_ge j i with h | h
          · exact h
          · exfalso
            rcases Nat.eq_or_lt_of_le h with h | h
            · subst h; omega
            · have := so_lt g.so h hj
              omega) m hm
        exact eqn_cod M M' hc (s.eq j hj)
    · have hiP : i = P.length := by have := s.le; omega
      have hi0 : 0 < i := by rw [hiP]; exact List.length_pos_of_mem g.z
      refine ⟨(0, false), ?_, ?_, .inr ⟨rfl, fun m => ?_⟩⟩
      · intro Mp _
        refine Ev.step (fun k => by rw [seqs_Differ.l1]) ?_
        simp only [if_neg (show ¬ (((P.drop i).map (mkT base A A')).length : Int) > 0 by rw [List.length_map, List.length_drop]; omega)]
        exact Ev.now _
      · intro S _
        refine Ev.step (fun k => by rw [evermoreref23_Differ.l0]) ?_
        simp only [if_neg (show ¬ (i : Int) < ((P.map Int.ofNat).length : Int) by rw [List.length_map]; omega)]
        exact Ev.now _
      · obtain ⟨j, hj, _, hc⟩ := back M M' s (m + 1) hi0 (fun j hj _ => by omega) m (by omega)
        exact eqn_cod M M' hc (s.eq j hj)
end
theorem cods {base base' : Int} {A A' : List (List Int)} {cA cA' : List Int} (e : base = base') (M : MOk base A cA) (M' : MOk base' A' cA') : ∃ r : Int × Bool, Ev (fun k => seqs_Differ.l1 k ([(⟨0, 0, 0⟩ : S97)]) base A cA base' A' cA' (mput ([] : List ((Int × Int) × Int)) (0, 0) 1)) (r.1, r.2, 0) ∧ Ev (fun k => evermoreref23_Differ.f k base A cA base' A' cA') r ∧ Post base A A' cA cA' r := by
  subst e
  have z1 : letS base A 0 = 0 := letS_zero _ _
  have z2 : letS base A' 0 = 0 := letS_zero _ _
  have hc0 : cod2 base A A' 0 = 0 := by unfold cod2; rw [z1, z2]; rfl
  have s0 : St base A A' cA cA' 0 [0] := by
    refine ⟨by simp, rfl, ⟨1, ⟨by simp, by simp, by simp, fun n hn => ?_, fun n hn => ?_⟩⟩, fun n hn => ?_, fun j hj => by omega, fun j hj => by omega⟩
    · rw [List.mem_singleton.1 hn]; decide
    · exact .inl (List.mem_singleton.1 hn)
    · exact .inl (List.mem_singleton.1 hn)
  obtain ⟨r, k1, k2, k3⟩ := both M M' 17 0 [0] rfl s0
  have h1 := M.n1; have h2 := M'.n1; have h3 := M.n4; have h4 := M'.n4
  have hm : A.length * A'.length ≤ 4 * 4 := Nat.mul_le_mul h3 h4
  have hm0 : 0 < A.length * A'.length := Nat.mul_pos h1 h2
  refine ⟨r, ?_, ?_, k3⟩
  · have := k1 (mput ([] : List ((Int × Int) × Int)) (0, 0) 1) (fun x y hx hy => by
      rw [mget_mput, mget_nil]
      by_cases e : (((x : Int), (y : Int)) : Int × Int) = (0, 0)
      · simp only [Prod.mk.injEq] at e
        rw [if_pos (by simp only [Prod.mk.injEq]; exact e), if_pos]
        simp [hc0]
        omega
      · rw [if_neg e, if_neg]
        intro h5
        apply e
        simp [hc0] at h5
        simp only [Prod.mk.injEq]
        omega)
    have e1 : ([0] : List Nat).map (mkT base A A') = [(⟨0, 0, 0⟩ : S97)] := by simp [mkT, z1, z2]
    rw [List.drop_zero, e1] at this
    exact this
  · unfold evermoreref23_Differ.f
    have e0 : wrap64 ((A.length : Int) * (A'.length : Int)) = ((A.length * A'.length : Nat) : Int) := by
      have e0 : (A.length : Int) * (A'.length : Int) = ((A.length * A'.length : Nat) : Int) := by rw [Int.natCast_mul]
      rw [e0, w64 (by omega) (by omega)]
    rw [e0, Int.toNat_natCast]
    simp only [if_pos (Int.natCast_nonneg _), if_pos (show A.length * A'.length ≤ 281474976710656 by omega), Option.bind_some, List.length_replicate, if_pos (show (0 : Int) < ((A.length * A'.length : Nat) : Int) by omega)]
    have := k2 ((List.replicate (A.length * A'.length) false).set 0 true) ⟨by simp, fun x y hx hy => by
      have hl := idx_lt hx hy
      rw [List.getD_eq_getElem?_getD, List.getElem?_set]
      by_cases e : 0 = x * A'.length + y
      · have hy0 : y = 0 := by omega
        have hx0 : x = 0 := by
          have : x * A'.length = 0 := by omega
          rcases Nat.mul_eq_zero.1 this with h | h <;> omega
        subst hx0; subst hy0
        rw [if_pos e, if_pos (by simp; omega)]
        simp [hc0]
      · rw [if_neg e, List.getElem?_replicate, if_pos hl]
        have : ¬ x * 4 + y ∈ [0].map (cod2 base A A') := by
          simp [hc0]
          intro h5
          have hx0 : x = 0 := by omega
          subst hx0
          omega
        rw [decide_eq_false this]
        rfl⟩
    exact this
/-- the program's answer -/
theorem p_ev (base base' : Int) (A A' : List (List Int)) (cA cA' : List Int) (r : Int × Bool × Int)
    (h : if seqs_Check.v base A cA = 0 then (if seqs_Check.v base' A' cA' = 0 then (if base = base' then Ev (fun k => seqs_Differ.l1 k ([(⟨0, 0, 0⟩ : S97)]) base A cA base' A' cA' (mput ([] : List ((Int × Int) × Int)) (0, 0) 1)) r else r = (0, false, 3)) else r = (0, false, seqs_Check.v base' A' cA')) else r = (0, false, seqs_Check.v base A cA)) :
    Ev (fun k => seqs_Differ.f k base A cA base' A' cA') r := by
  unfold seqs_Differ.f
  simp only [Option.bind_some]
  refine Ev.step (fun k => by rw [seqs_Differ.l0]) ?_
  have e0 : rd_T47 [(⟨base, A, cA⟩ : S47), ⟨base', A', cA'⟩] 0 = ⟨base, A, cA⟩ := rfl
  have e1 : rd_T47 [(⟨base, A, cA⟩ : S47), ⟨base', A', cA'⟩] 1 = ⟨base', A', cA'⟩ := rfl
  have el : (([(⟨base, A, cA⟩ : S47), ⟨base', A', cA'⟩] : List S47).length : Int) = 2 := rfl
  rw [el]
  simp only [e0, if_pos (show (0 : Int) < 2 by decide), if_pos (show (0 : Int) ≤ 0 by decide)]
  unfold seqs_Check.f
  simp only [Option.bind_some]
  by_cases h0 : seqs_Check.v base A cA = 0
  · rw [if_pos h0] at h
    simp only [if_pos h0]
    rw [show wrap64 ((0 : Int) + 1) = 1 from by rw [w64 (by decide) (by decide)]; rfl]
    refine Ev.step (fun k => by rw [seqs_Differ.l0]) ?_
    rw [el]
    simp only [e1, if_pos (show (1 : Int) < 2 by decide), if_pos (show (0 : Int) ≤ 1 by decide)]
    unfold seqs_Check.f
    simp only [Option.bind_some]
    by_cases h1 : seqs_Check.v base' A' cA' = 0
    · rw [if_pos h1] at h
      simp only [if_pos h1]
      rw [show wrap64 ((1 : Int) + 1) = 2 from by rw [w64 (by decide) (by decide)]; rfl]
      refine Ev.step (fun k => by rw [seqs_Differ.l0]) ?_
      simp only [if_neg (show ¬ (2 : Int) < 2 by decide)]
      by_cases h2 : base = base'
      · rw [if_pos h2] at h
        simp only [if_pos h2]
        exact h
      · rw [if_neg h2] at h
        simp only [if_neg h2]
        exact evc (Ev.now _) h.symm
    · rw [if_neg h1] at h
      simp only [if_neg h1]
      exact evc (Ev.now _) h.symm
  · rw [if_neg h0] at h
    simp only [if_neg h0]
    exact evc (Ev.now _) h.symm
theorem law_ev (base base' : Int) (A A' : List (List Int)) (cA cA' : List Int) (p : Int) (hp : p ≤ 9223372036854775807) : Ev (fun k => evermorelaw_SeqsDiffers.f k base A cA base' A' cA' p) true := by
  unfold evermorelaw_SeqsDiffers.f
  have no : ∀ (w : Int) (k2 : Int), w ≠ 0 → k2 = w → Ev (fun k => evermorelaw_SeqsDiffers.j2 k p 0 false w k2 base A cA base' A' cA') true := by
    intro w k2 hw e
    subst e
    refine Ev.step (fun k => by rw [evermorelaw_SeqsDiffers.j2]) ?_
    simp only [if_neg hw, if_true, if_neg (show ¬ (false = true) by decide)]
    exact Ev.now _
  by_cases h0 : seqs_Check.v base A cA = 0
  · by_cases h1 : seqs_Check.v base' A' cA' = 0
    · have M := v_ok h0
      have M' := v_ok h1
      by_cases h2 : base = base'
      · obtain ⟨r, k1, k2, k3⟩ := cods h2 M M'
        refine Ev.bind (p_ev base base' A A' cA cA' (r.1, r.2, 0) (by rw [if_pos h0, if_pos h1, if_pos h2]; exact k1)) ?_
        refine Ev.bind (refCheck_ev base A cA) ?_
        simp only [if_pos h0]
        refine Ev.bind (refCheck_ev base' A' cA') ?_
        rw [h1]
        refine Ev.step (fun k => by rw [evermorelaw_SeqsDiffers.j0]) ?_
        simp only [if_true]
        refine Ev.step (fun k => by rw [evermorelaw_SeqsDiffers.j1]) ?_
        simp only [if_neg (show ¬ ((base != base') = true) by simp [h2])]
        refine Ev.step (fun k => by rw [evermorelaw_SeqsDiffers.j2]) ?_
        simp only [if_true]
        refine Ev.bind k2 ?_
        simp only [if_true, if_neg (show ¬ ((r.2 != r.2) = true) by simp)]
        refine Ev.step (fun k => by rw [evermorelaw_SeqsDiffers.j3]) ?_
        simp only [if_neg (show ¬ ((r.1 != r.1) = true) by simp)]
        by_cases hp0 : p < 0
        · simp only [if_pos hp0]
          exact Ev.now _
        · simp only [if_neg hp0]
          obtain ⟨m, rfl⟩ := Int.eq_ofNat_of_zero_le (show 0 ≤ p by omega)
          refine Ev.bind (refLetter_ev M m (by omega)) ?_
          refine Ev.bind (refLetter_ev M' m (by omega)) ?_
          obtain ⟨x, hx⟩ := Int.eq_ofNat_of_zero_le (letS_rng M m).1
          obtain ⟨y, hy⟩ := Int.eq_ofNat_of_zero_le (letS_rng M' m).1
          have hx1 := (letS_rng M m).2
          have hy1 := (letS_rng M' m).2
          have hcl := M.cl
          have hcl' := M'.cl
          rw [hx] at hx1
          rw [hy] at hy1
          simp only [hx, hy, rdN, if_pos (show 0 ≤ (x : Int) by omega), if_pos (show 0 ≤ (y : Int) by omega), if_pos (show (x : Int) < (cA.length : Int) by omega), if_pos (show (y : Int) < (cA'.length : Int) by omega)]
          subst h2
          have hEq : Eqn base A A' cA cA' m ↔ cA.getD x 0 = cA'.getD y 0 := by unfold Eqn; rw [hx, hy]; simp
          by_cases he : cA.getD x 0 = cA'.getD y 0
          · simp only [if_pos he]
            exact Ev.now _
          · simp only [if_neg he]
            rcases k3 with ⟨hr, N, hN, hne, hlt⟩ | ⟨hr, hall⟩
            · simp only [hr, if_true]
              refine evc (Ev.now _) ?_
              rw [hN]
              refine decide_eq_true ?_
              have : ¬ m < N := fun h => he (hEq.1 (hlt m h))
              omega
            · exact absurd (hEq.1 (hall m)) he
      · refine Ev.bind (p_ev base base' A A' cA cA' (0, false, 3) (by rw [if_pos h0, if_pos h1, if_neg h2])) ?_
        refine Ev.bind (refCheck_ev base A cA) ?_
        simp only [if_pos h0]
        refine Ev.bind (refCheck_ev base' A' cA') ?_
        rw [h1]
        refine Ev.step (fun k => by rw [evermorelaw_SeqsDiffers.j0]) ?_
        simp only [if_true]
        refine Ev.step (fun k => by rw [evermorelaw_SeqsDiffers.j1]) ?_
        simp only [if_pos (show (base != base') = true by simp [h2])]
        exact no 3 3 (by decide) rfl
    · refine Ev.bind (p_ev base base' A A' cA cA' (0, false, seqs_Check.v base' A' cA') (by rw [if_pos h0, if_neg h1])) ?_
      refine Ev.bind (refCheck_ev base A cA) ?_
      simp only [if_pos h0]
      refine Ev.bind (refCheck_ev base' A' cA') ?_
      refine Ev.step (fun k => by rw [evermorelaw_SeqsDiffers.j0]) ?_
      simp only [if_neg h1]
      refine Ev.step (fun k => by rw [evermorelaw_SeqsDiffers.j1]) ?_
      simp only [if_neg (show ¬ (false = true) by decide)]
      exact no _ _ h1 rfl
  · refine Ev.bind (p_ev base base' A A' cA cA' (0, false, seqs_Check.v base A cA) (by rw [if_neg h0])) ?_
    refine Ev.bind (refCheck_ev base A cA) ?_
    simp only [if_neg h0]
    refine Ev.step (fun k => by rw [evermorelaw_SeqsDiffers.j0]) ?_
    simp only [if_neg h0]
    refine Ev.step (fun k => by rw [evermorelaw_SeqsDiffers.j1]) ?_
    simp only [if_neg (show ¬ (false = true) by decide)]
    exact no _ _ h0 rfl
theorem SeqsDiffers : evermorelaw_SeqsDiffers.PureH := by
  intro base A cA base' A' cA' p _ _ hp
  refine Ev.rounds (law_ev base base' A A' cA cA' p ?_)
  have := wf64 hp
  omega

end Go.Proofs.Ythbdmfhobienaaa.Pure
