/- For every automaton with marks and every lasso the program's answer is the reference's. No conditions beyond the statement's. -/
import Derived.Test.YtaaibckhpbmbeaaPSafraAcceptsx5
import Derived.Test.YtaaibckhpbmbeaaQSafraAccepts
namespace Go.Proofs.Ytaaibckhpbmbeaa.Pure
open Go.RowKit Go.Proofs.Ytaaibckhpbmbeaa.PSafraAccepts Go.Proofs.YtaaibckhpbmbeaaW.PrintWords Go.Proofs.YtaaibckhpbmbeaaW.PrintLast Go.Proofs.YtaaibckhpbmbeaaW.PrintMore
set_option linter.unusedVariables false
set_option linter.unusedSimpArgs false
theorem w64 {n : Int} (h : -9223372036854775808 ≤ n) (h' : n ≤ 9223372036854775807) : wrap64 n = n := by unfold wrap64; omega
theorem rdn (l : List Int) (i : Nat) (h : i < l.length) : rd l (i : Int) = l[i] := by
  unfold rd; rw [Int.toNat_natCast, List.getD_eq_getElem?_getD, List.getElem?_eq_getElem h]; rfl
theorem rdOfn {α : Type} (d : α) (l : List α) (i : Nat) (h : i < l.length) : rdOf d l (i : Int) = l[i] := by
  unfold rdOf; rw [Int.toNat_natCast, List.getD_eq_getElem?_getD, List.getElem?_eq_getElem h]; rfl
theorem evc {α : Type} {g : Nat → Option α} {a b : α} (h : Ev g a) (e : a = b) : Ev g b := e ▸ h
theorem rdL (l : List (List Int)) (n : Nat) : rd_L1 l (n : Int) = l.getD n [] := by unfold rd_L1; rw [Int.toNat_natCast]
theorem rdN (l : List Int) (n : Nat) : rd l (n : Int) = l.getD n 0 := by unfold rd; rw [Int.toNat_natCast]
theorem w1 (i : Nat) (h : i ≤ 9223372036854775000) : wrap64 ((i : Int) + 1) = ((i + 1 : Nat) : Int) := by rw [w64 (by omega) (by omega)]; omega
theorem getD_mem {α : Type} (l : List α) (n : Nat) (d : α) (h : n < l.length) : l.getD n d ∈ l := by
  rw [List.getD_eq_getElem?_getD, List.getElem?_eq_getElem h]; exact List.getElem_mem h
theorem drop_getD {α : Type} (l : List α) (n : Nat) (d : α) (h : n < l.length) : l.drop n = l.getD n d :: l.drop (n + 1) := by
  rw [List.drop_eq_getElem_cons h, List.getD_eq_getElem?_getD, List.getElem?_eq_getElem h]; rfl
/-- what may be an automaton that knows its way -/
structure DOk (a s : Int) (next : List (List Int)) (mark : List Int) : Prop where
  a1 : 1 ≤ a
  a4 : a ≤ 4
  n1 : 1 ≤ next.length
  nm : next.length ≤ 20000
  ml : mark.length = next.length
  rl : ∀ q, q < next.length → ((next.getD q []).length : Int) = a
  s0 : 0 ≤ s
  sn : s < (next.length : Int)
  rb : ∀ q, q < next.length → ∀ i : Nat, (i : Int) < a → 0 ≤ (next.getD q []).getD i 0 ∧ (next.getD q []).getD i 0 < (next.length : Int)
  mb : ∀ q, q < next.length → 0 ≤ mark.getD q 0 ∧ mark.getD q 0 ≤ 9
theorem chk_l3 (a s : Int) (next : List (List Int)) (mark : List Int) (hn : next.length ≤ 20000) (hm : mark.length = next.length) : ∀ d i : Nat, i + d = next.length → Ev (fun k => evermoreref9_Check.l3 k (next.length : Int) (i : Int) a s next mark) (if (mark.drop i).any safra_Check.badm = true then 2 else 0) := by
  intro d
  induction d with
  | zero =>
    intro i hi
    refine Ev.step (fun k => by rw [evermoreref9_Check.l3]) ?_
    simp only [if_neg (show ¬ (i : Int) < (next.length : Int) by omega)]
    exact evc (Ev.now _) (by rw [List.drop_of_length_le (by omega)]; rfl)
  | succ d ih =>
    intro i hi
    refine Ev.step (fun k => by rw [evermoreref9_Check.l3]) ?_
    simp only [rdN, w1 i (by omega), if_pos (show (i : Int) < (next.length : Int) by omega), if_pos (show 0 ≤ (i : Int) by omega), if_pos (show (i : Int) < (mark.length : Int) by omega)]
    rw [drop_getD mark i 0 (by omega), List.any_cons]
    by_cases h1 : mark.getD i 0 < 0
    · simp only [if_pos h1]
      exact evc (Ev.now _) (by unfold safra_Check.badm; rw [decide_eq_true h1]; rfl)
    · simp only [if_neg h1]
      by_cases h2 : mark.getD i 0 > 9
      · simp only [if_pos h2]
        exact evc (Ev.now _) (by rw [show safra_Check.badm (mark.getD i 0) = true by unfold safra_Check.badm; rw [decide_eq_true h2, Bool.or_true]]; rfl)
      · simp only [if_neg h2]
        exact evc (ih (i + 1) (by omega)) (by rw [show safra_Check.badm (mark.getD i 0) = false by unfold safra_Check.badm; rw [decide_eq_false h1, decide_eq_false h2]; rfl, Bool.false_or])
theorem chk_l2 (a s : Int) (next : List (List Int)) (mark : List Int) (hn : next.length ≤ 20000) (ha : a ≤ 4) (q : Nat) (hq : q < next.length) (hl : ((next.getD q []).length : Int) = a) (Z : Int)
    (cont : Ev (fun k => evermoreref9_Check.l1 k (next.length : Int) ((q + 1 : Nat) : Int) a s next mark) Z) :
    ∀ d i : Nat, i + d = (next.getD q []).length → Ev (fun k => evermoreref9_Check.l2 k (next.length : Int) (q : Int) (i : Int) a s next mark) (if ((next.getD q []).drop i).any (safra_Check.bad next.length) = true then 2 else Z) := by
  intro d
  induction d with
  | zero =>
    intro i hi
    refine Ev.step (fun k => by rw [evermoreref9_Check.l2]) ?_
    simp only [w1 q (by omega), if_neg (show ¬ (i : Int) < a by omega)]
    rw [List.drop_of_length_le (by omega)]
    exact cont
  | succ d ih =>
    intro i hi
    refine Ev.step (fun k => by rw [evermoreref9_Check.l2]) ?_
    simp only [rdL, rdN, w1 i (by omega), if_pos (show (i : Int) < a by omega), if_pos (show 0 ≤ (q : Int) by omega), if_pos (show (q : Int) < (next.length : Int) by omega), if_pos (show 0 ≤ (i : Int) by omega), if_pos (show (i : Int) < ((next.getD q []).length : Int) by omega)]
    rw [drop_getD (next.getD q []) i 0 (by omega), List.any_cons]
    by_cases h1 : (next.getD q []).getD i 0 < 0
    · simp only [if_pos h1]
      exact evc (Ev.now _) (by unfold safra_Check.bad; rw [decide_eq_true h1]; rfl)
    · simp only [if_neg h1]
      by_cases h2 : (next.getD q []).getD i 0 ≥ (next.length : Int)
      · simp only [if_pos h2]
        exact evc (Ev.now _) (by rw [show safra_Check.bad (next.length : Int) ((next.getD q []).getD i 0) = true by unfold safra_Check.bad; rw [decide_eq_true h2, Bool.or_true]]; rfl)
      · simp only [if_neg h2]
        exact evc (ih (i + 1) (by omega)) (by rw [show safra_Check.bad (next.length : Int) ((next.getD q []).getD i 0) = false by unfold safra_Check.bad; rw [decide_eq_false h1, decide_eq_false h2]; rfl, Bool.false_or])
theorem chk_l1 (a s : Int) (next : List (List Int)) (mark : List Int) (hn : next.length ≤ 20000) (hm : mark.length = next.length) (ha : a ≤ 4) (hl : ∀ q, q < next.length → ((next.getD q []).length : Int) = a) :
    ∀ d q : Nat, q + d = next.length → Ev (fun k => evermoreref9_Check.l1 k (next.length : Int) (q : Int) a s next mark) (if (next.drop q).any (fun x => x.any (safra_Check.bad next.length)) = true then 2 else if mark.any safra_Check.badm = true then 2 else 0) := by
  intro d
  induction d with
  | zero =>
    intro q hq
    refine Ev.step (fun k => by rw [evermoreref9_Check.l1]) ?_
    simp only [if_neg (show ¬ (q : Int) < (next.length : Int) by omega)]
    rw [List.drop_of_length_le (by omega)]
    exact chk_l3 a s next mark hn hm next.length 0 (by omega)
  | succ d ih =>
    intro q hq
    refine Ev.step (fun k => by rw [evermoreref9_Check.l1]) ?_
    simp only [if_pos (show (q : Int) < (next.length : Int) by omega)]
    refine evc (chk_l2 a s next mark hn ha q (by omega) (hl q (by omega)) _ (ih (q + 1) (by omega)) (next.getD q []).length 0 (by omega)) ?_
    rw [drop_getD next q [] (by omega), List.any_cons, List.drop_zero]
    cases h : (next.getD q []).any (safra_Check.bad next.length) with
    | true => simp only [if_true, Bool.true_or]
    | false => simp only [if_neg (show ¬ (false = true) by decide), Bool.false_or]
theorem chk_l0 (a s : Int) (next : List (List Int)) (mark : List Int) (hn : next.length ≤ 20000) (hm : mark.length = next.length) (ha : a ≤ 4) :
    ∀ d q : Nat, q + d = next.length → (∀ p, p < q → ((next.getD p []).length : Int) = a) → Ev (fun k => evermoreref9_Check.l0 k (next.length : Int) (q : Int) a s next mark)
      (if (next.drop q).any (fun x => decide ((x.length : Int) ≠ a)) = true then 3 else if safra_Check.bad next.length s = true ∨ next.any (fun x => x.any (safra_Check.bad next.length)) = true then 2 else if mark.any safra_Check.badm = true then 2 else 0) := by
  intro d
  induction d with
  | zero =>
    intro q hq hp
    refine Ev.step (fun k => by rw [evermoreref9_Check.l0]) ?_
    simp only [if_neg (show ¬ (q : Int) < (next.length : Int) by omega)]
    rw [List.drop_of_length_le (by omega)]
    have j3 : ∀ b : Bool, b = safra_Check.bad next.length s → Ev (fun k => evermoreref9_Check.j3 k (next.length : Int) b a s next mark) (if ([] : List (List Int)).any (fun x => decide ((x.length : Int) ≠ a)) = true then 3 else if safra_Check.bad next.length s = true ∨ next.any (fun x => x.any (safra_Check.bad next.length)) = true then 2 else if mark.any safra_Check.badm = true then 2 else 0) := by
      intro b hb
      refine Ev.step (fun k => by rw [evermoreref9_Check.j3]) ?_
      rw [List.any_nil, if_neg (show ¬ (false = true) by decide), ← hb]
      cases b with
      | true => simp only [if_true, true_or]; exact Ev.now _
      | false =>
        simp only [if_neg (show ¬ (false = true) by decide), show (false = true) = False from by simp, false_or]
        have := chk_l1 a s next mark hn hm ha (fun p hp' => hp p (by omega)) next.length 0 (by omega)
        rw [List.drop_zero] at this
        exact this
    by_cases h : s < 0
    · simp only [if_pos h]; exact j3 true (by unfold safra_Check.bad; rw [decide_eq_true h]; rfl)
    · simp only [if_neg h]; exact j3 _ (by unfold safra_Check.bad; rw [decide_eq_false h]; rfl)
  | succ d ih =>
    intro q hq hp
    refine Ev.step (fun k => by rw [evermoreref9_Check.l0]) ?_
    simp only [rdL, w1 q (by omega), if_pos (show (q : Int) < (next.length : Int) by omega), if_pos (show 0 ≤ (q : Int) by omega)]
    rw [drop_getD next q [] (by omega), List.any_cons]
    by_cases h : ((next.getD q []).length : Int) = a
    · simp only [if_pos h]
      refine evc (ih (q + 1) (by omega) (fun p hp' => ?_)) ?_
      · by_cases e : p = q
        · rw [e]; exact h
        · exact hp p (by omega)
      · rw [decide_eq_false (show ¬ ((next.getD q []).length : Int) ≠ a from fun x => x h), Bool.false_or]
    · simp only [if_neg h]
      exact evc (Ev.now 3) (by rw [decide_eq_true (show ((next.getD q []).length : Int) ≠ a from h), Bool.true_or]; rfl)
theorem chk_ev (a s : Int) (next : List (List Int)) (mark : List Int) : Ev (fun k => evermoreref9_Check.f k a s next mark) (safra_Check.v a s next mark) := by
  have j1 : ∀ b : Bool, (b = true ↔ (next.length < 1 ∨ next.length > 20000)) → ¬ (a < 1 ∨ a > 4) → Ev (fun k => evermoreref9_Check.j1 k (next.length : Int) b a s next mark) (safra_Check.v a s next mark) := by
    intro b hb h0
    refine Ev.step (fun k => by rw [evermoreref9_Check.j1]) ?_
    unfold safra_Check.v
    rw [if_neg h0]
    by_cases h : b = true
    · simp only [if_pos h, if_pos (hb.1 h)]
      exact Ev.now 1
    · have hn : ¬ (next.length < 1 ∨ next.length > 20000) := fun x => h (hb.2 x)
      simp only [if_neg h, if_neg hn]
      by_cases h2 : mark.length = next.length
      · simp only [if_pos (show (mark.length : Int) = (next.length : Int) by omega)]
        refine evc (chk_l0 a s next mark (by omega) h2 (by omega) next.length 0 (by omega) (fun p hp => by omega)) ?_
        rw [List.drop_zero]
        by_cases h3 : next.any (fun x => decide ((x.length : Int) ≠ a)) = true
        · rw [if_pos h3, if_pos (.inr h3)]
        · have h4 : ¬ (mark.length ≠ next.length ∨ next.any (fun x => decide ((x.length : Int) ≠ a)) = true) := fun x => Or.elim x (fun x => x h2) h3
          rw [if_neg h3, if_neg h4]
      · simp only [if_neg (show ¬ (mark.length : Int) = (next.length : Int) by omega)]
        exact evc (Ev.now 3) (by rw [if_pos (.inl h2)])
  have j0 : ∀ b : Bool, (b = true ↔ (a < 1 ∨ a > 4)) → Ev (fun k => evermoreref9_Check.j0 k b a s next mark) (safra_Check.v a s next mark) := by
    intro b hb
    refine Ev.step (fun k => by rw [evermoreref9_Check.j0]) ?_
    by_cases h : b = true
    · simp only [if_pos h]
      exact evc (Ev.now 2) (by unfold safra_Check.v; rw [if_pos (hb.1 h)])
    · simp only [if_neg h]
      have h0 : ¬ (a < 1 ∨ a > 4) := fun x => h (hb.2 x)
      by_cases h2 : (next.length : Int) < 1
      · simp only [if_pos h2]; exact j1 true ⟨fun _ => .inl (by omega), fun _ => rfl⟩ h0
      · simp only [if_neg h2]; exact j1 _ (by rw [decide_eq_true_iff]; omega) h0
  unfold evermoreref9_Check.f
  by_cases h : a < 1
  · simp only [if_pos h]; exact j0 true ⟨fun _ => .inl h, fun _ => rfl⟩
  · simp only [if_neg h]; exact j0 _ (by rw [decide_eq_true_iff]; omega)
theorem chk_ok {a s : Int} {next : List (List Int)} {mark : List Int} (h : safra_Check.v a s next mark = 0) : DOk a s next mark := by
  unfold safra_Check.v at h
  by_cases h1 : a < 1 ∨ a > 4
  · rw [if_pos h1] at h; omega
  rw [if_neg h1] at h
  by_cases h2 : next.length < 1 ∨ next.length > 20000
  · rw [if_pos h2] at h; omega
  rw [if_neg h2] at h
  by_cases h3 : mark.length ≠ next.length ∨ next.any (fun x => decide ((x.length : Int) ≠ a)) = true
  · rw [if_pos h3] at h; omega
  rw [if_neg h3] at h
  by_cases h4 : safra_Check.bad next.length s = true ∨ next.any (fun x => x.any (safra_Check.bad next.length)) = true
  · rw [if_pos h4] at h; omega
  rw [if_neg h4] at h
  by_cases h5 : mark.any safra_Check.badm = true
  · rw [if_pos h5] at h; omega
  have hrow : ∀ q, q < next.length → next.getD q [] ∈ next := fun q hq => getD_mem _ _ _ hq
  have hlen : ∀ q, q < next.length → ((next.getD q []).length : Int) = a := fun q hq => Decidable.of_not_not fun x => h3 (.inr (List.any_eq_true.2 ⟨_, hrow q hq, decide_eq_true x⟩))
  have hml : mark.length = next.length := Decidable.of_not_not fun x => h3 (.inl x)
  have hs : safra_Check.bad next.length s = false := by cases e : safra_Check.bad next.length s with | false => rfl | true => exact absurd (.inl e) h4
  unfold safra_Check.bad at hs
  rw [Bool.or_eq_false_iff] at hs
  have hs1 := of_decide_eq_false hs.1
  have hs2 := of_decide_eq_false hs.2
  refine ⟨by omega, by omega, by omega, by omega, hml, hlen, by omega, by omega, fun q hq i hi => ?_, fun q hq => ?_⟩
  · have hlq := hlen q hq
    have hb : safra_Check.bad next.length ((next.getD q []).getD i 0) = false := by
      cases e : safra_Check.bad next.length ((next.getD q []).getD i 0) with
      | false => rfl
      | true => exact absurd (.inr (List.any_eq_true.2 ⟨_, hrow q hq, List.any_eq_true.2 ⟨_, getD_mem _ i 0 (by omega), e⟩⟩)) h4
    unfold safra_Check.bad at hb
    rw [Bool.or_eq_false_iff] at hb
    have e1 := of_decide_eq_false hb.1
    have e2 := of_decide_eq_false hb.2
    omega
  · have hb : safra_Check.badm (mark.getD q 0) = false := by
      cases e : safra_Check.badm (mark.getD q 0) with
      | false => rfl
      | true => exact absurd (List.any_eq_true.2 ⟨_, getD_mem _ _ _ (by omega), e⟩) h5
    unfold safra_Check.badm at hb
    rw [Bool.or_eq_false_iff] at hb
    have e1 := of_decide_eq_false hb.1
    have e2 := of_decide_eq_false hb.2
    omega
def okB (n : Int) (l : List Int) : Bool := l.all (fun a => decide (0 ≤ a) && decide (a < n))
theorem okB_cons (n a : Int) (l : List Int) : okB n (a :: l) = (decide (0 ≤ a) && decide (a < n) && okB n l) := rfl
def mayS (n : Int) (l : List Int) : Int := if n < 1 ∨ n > 4 then 2 else if l.length > 60 then 1 else if okB n l = true then 0 else 2
theorem mayS_ok {n : Int} {l : List Int} (h : mayS n l = 0) : 1 ≤ n ∧ n ≤ 4 ∧ l.length ≤ 60 ∧ ∀ a ∈ l, 0 ≤ a ∧ a < n := by
  unfold mayS at h
  by_cases h1 : n < 1 ∨ n > 4
  · rw [if_pos h1] at h; omega
  · rw [if_neg h1] at h
    by_cases h2 : l.length > 60
    · rw [if_pos h2] at h; omega
    · rw [if_neg h2] at h
      by_cases h3 : okB n l = true
      · refine ⟨by omega, by omega, by omega, ?_⟩
        simpa [okB] using h3
      · rw [if_neg h3] at h; omega
theorem evermoreref1_May_l0 (n : Int) (l : List Int) (hl : l.length ≤ 60) : ∀ d i : Nat, i + d = l.length → Ev (fun k => evermoreref1_May.l0 k n l (i : Int)) (if okB n (l.drop i) = true then 0 else 2) := by
  intro d
  induction d with
  | zero =>
    intro i hi
    refine Ev.step (fun k => by rw [evermoreref1_May.l0]) ?_
    simp only [if_neg (show ¬ ((i : Int) < (l.length : Int)) by omega)]
    rw [List.drop_of_length_le (by omega)]
    exact Ev.now _
  | succ d ih =>
    intro i hi
    refine Ev.step (fun k => by rw [evermoreref1_May.l0]) ?_
    have h1 : i < l.length := by omega
    simp only [if_pos (show ((i : Int) < (l.length : Int)) by omega), if_pos (show (0 ≤ (i : Int)) by omega), rdn l i h1]
    rw [List.drop_eq_getElem_cons h1]
    have := ih (i + 1) (by omega)
    rw [show wrap64 ((i : Int) + 1) = ((i + 1 : Nat) : Int) from by rw [w64 (by omega) (by omega)]; omega]
    by_cases e : l[i] < 0
    · simp only [if_pos e]
      exact evc (Ev.now 2) (by rw [okB_cons, decide_eq_false (show ¬ (0 ≤ l[i]) by omega)]; rfl)
    · simp only [if_neg e]
      by_cases e' : l[i] ≥ n
      · simp only [if_pos e']
        exact evc (Ev.now 2) (by rw [okB_cons, decide_eq_false (show ¬ (l[i] < n) by omega), Bool.and_false]; rfl)
      · simp only [if_neg e']
        exact evc this (by rw [okB_cons, decide_eq_true (show (0 ≤ l[i]) by omega), decide_eq_true (show (l[i] < n) by omega), Bool.true_and, Bool.true_and])
theorem evermoreref1_May_ev (n : Int) (l : List Int) : Ev (fun k => evermoreref1_May.f k n l) (mayS n l) := by
  have key : ∀ b : Bool, (b = true ↔ (n < 1 ∨ n > 4)) → Ev (fun k => evermoreref1_May.j0 k n l b) (mayS n l) := by
    intro b hb
    refine Ev.step (fun k => by rw [evermoreref1_May.j0]) ?_
    unfold mayS
    by_cases h : b = true
    · simp only [if_pos h, if_pos (hb.1 h)]; exact Ev.now _
    · simp only [if_neg h, if_neg (fun x => h (hb.2 x))]
      by_cases h2 : l.length > 60
      · simp only [if_pos h2, if_pos (show (l.length : Int) > 60 by omega)]; exact Ev.now _
      · simp only [if_neg h2, if_neg (show ¬ (l.length : Int) > 60 by omega)]
        exact evermoreref1_May_l0 n l (by omega) l.length 0 (by omega)
  unfold evermoreref1_May.f
  by_cases h : n < 1
  · simp only [if_pos h]; exact key true (by simp; omega)
  · simp only [if_neg h]; exact key _ (by simp; omega)
theorem word_May_l0 (n : Int) (l : List Int) (hl : l.length ≤ 60) : ∀ d i : Nat, i + d = l.length → Ev (fun k => word_May.l0 k n l (l.length : Int) (i : Int)) (if okB n (l.drop i) = true then 0 else 2) := by
  intro d
  induction d with
  | zero =>
    intro i hi
    refine Ev.step (fun k => by rw [word_May.l0]) ?_
    simp only [if_neg (show ¬ ((i : Int) < (l.length : Int)) by omega)]
    rw [List.drop_of_length_le (by omega)]
    exact Ev.now _
  | succ d ih =>
    intro i hi
    refine Ev.step (fun k => by rw [word_May.l0]) ?_
    have h1 : i < l.length := by omega
    simp only [if_pos (show ((i : Int) < (l.length : Int)) by omega), if_pos (show (0 ≤ (i : Int)) by omega), rdn l i h1]
    rw [List.drop_eq_getElem_cons h1]
    have := ih (i + 1) (by omega)
    rw [show wrap64 ((i : Int) + 1) = ((i + 1 : Nat) : Int) from by rw [w64 (by omega) (by omega)]; omega]
    by_cases e : l[i] < 0
    · simp only [if_pos e]
      exact evc (Ev.now 2) (by rw [okB_cons, decide_eq_false (show ¬ (0 ≤ l[i]) by omega)]; rfl)
    · simp only [if_neg e]
      by_cases e' : l[i] ≥ n
      · simp only [if_pos e']
        exact evc (Ev.now 2) (by rw [okB_cons, decide_eq_false (show ¬ (l[i] < n) by omega), Bool.and_false]; rfl)
      · simp only [if_neg e']
        exact evc this (by rw [okB_cons, decide_eq_true (show (0 ≤ l[i]) by omega), decide_eq_true (show (l[i] < n) by omega), Bool.true_and, Bool.true_and])
theorem word_May_ev (n : Int) (l : List Int) : Ev (fun k => word_May.f k n l) (mayS n l) := by
  have key : ∀ b : Bool, (b = true ↔ (n < 1 ∨ n > 4)) → Ev (fun k => word_May.j0 k n l b) (mayS n l) := by
    intro b hb
    refine Ev.step (fun k => by rw [word_May.j0]) ?_
    unfold mayS
    by_cases h : b = true
    · simp only [if_pos h, if_pos (hb.1 h)]; exact Ev.now _
    · simp only [if_neg h, if_neg (fun x => h (hb.2 x))]
      by_cases h2 : l.length > 60
      · simp only [if_pos h2, if_pos (show (l.length : Int) > 60 by omega)]; exact Ev.now _
      · simp only [if_neg h2, if_neg (show ¬ (l.length : Int) > 60 by omega)]
        exact word_May_l0 n l (by omega) l.length 0 (by omega)
  unfold word_May.f
  by_cases h : n < 1
  · simp only [if_pos h]; exact key true (by simp; omega)
  · simp only [if_neg h]; exact key _ (by simp; omega)
/-! runs -/
def dl (next : List (List Int)) (q : Nat) (a : Int) : Nat := ((next.getD q []).getD a.toNat 0).toNat
def aft (next : List (List Int)) (q : Nat) (w : List Int) : Nat := w.foldl (dl next) q
/-- the states that a word comes to, one behind each letter -/
def vis (next : List (List Int)) : Nat → List Int → List Nat
  | _, [] => []
  | q, a :: w => dl next q a :: vis next (dl next q a) w
def lm (mark : List Int) (l : List Nat) (m : Int) : Int := l.foldl (fun m q => mn m (mark.getD q 0)) m
theorem lm_le (mark : List Int) : ∀ (l : List Nat) (m c : Int), lm mark l m ≤ c ↔ m ≤ c ∨ ∃ q, q ∈ l ∧ mark.getD q 0 ≤ c
  | [], m, c => by simp [lm]
  | q :: l, m, c => by
    have ih := lm_le mark l (mn m (mark.getD q 0)) c
    show lm mark l (mn m (mark.getD q 0)) ≤ c ↔ _
    rw [ih]
    constructor
    · rintro (h | ⟨p, hp, h⟩)
      · unfold mn at h
        split at h
        · exact .inr ⟨q, List.mem_cons_self, h⟩
        · exact .inl h
      · exact .inr ⟨p, List.mem_cons_of_mem _ hp, h⟩
    · rintro (h | ⟨p, hp, h⟩)
      · left; unfold mn; split <;> omega
      · rcases List.mem_cons.1 hp with rfl | hp
        · left; unfold mn; split <;> omega
        · exact .inr ⟨p, hp, h⟩
theorem lm_eq (mark : List Int) {l l' : List Nat} (m : Int) (h : ∀ q, q ∈ l ↔ q ∈ l') : lm mark l m = lm mark l' m := by
  apply Int.le_antisymm
  · rw [lm_le]
    rcases (lm_le mark l' m _).1 (Int.le_refl (lm mark l' m)) with x | ⟨q, hq, x⟩
    · exact .inl x
    · exact .inr ⟨q, (h q).2 hq, x⟩
  · rw [lm_le]
    rcases (lm_le mark l m _).1 (Int.le_refl (lm mark l m)) with x | ⟨q, hq, x⟩
    · exact .inl x
    · exact .inr ⟨q, (h q).1 hq, x⟩
theorem lm_append (mark : List Int) (l l' : List Nat) (m : Int) : lm mark (l ++ l') m = lm mark l' (lm mark l m) := by unfold lm; rw [List.foldl_append]
theorem dl_rng {a s : Int} {next : List (List Int)} {mark : List Int} (D : DOk a s next mark) {q : Nat} (hq : q < next.length) {x : Int} (h0 : 0 ≤ x) (hx : x < a) : dl next q x < next.length ∧ (next.getD q []).getD x.toNat 0 = (dl next q x : Int) ∧ x < ((next.getD q []).length : Int) := by
  have h := D.rb q hq x.toNat (by omega)
  have hl := D.rl q hq
  unfold dl
  refine ⟨by omega, by omega, by omega⟩
theorem aft_rng {a s : Int} {next : List (List Int)} {mark : List Int} (D : DOk a s next mark) : ∀ (w : List Int) (q : Nat), q < next.length → (∀ x ∈ w, 0 ≤ x ∧ x < a) → aft next q w < next.length
  | [], q, hq, _ => hq
  | x :: w, q, hq, h => aft_rng D w _ (dl_rng D hq (h x List.mem_cons_self).1 (h x List.mem_cons_self).2).1 (fun y hy => h y (List.mem_cons_of_mem _ hy))
theorem getD_word {w : List Int} {a : Int} (h : ∀ x ∈ w, 0 ≤ x ∧ x < a) {i : Nat} (hi : i < w.length) : 0 ≤ w.getD i 0 ∧ w.getD i 0 < a := h _ (getD_mem _ _ _ hi)
theorem after_l0 {a s : Int} {next : List (List Int)} {mark : List Int} (D : DOk a s next mark) (w : List Int) (hw : ∀ x ∈ w, 0 ≤ x ∧ x < a) (hl : w.length ≤ 60) : ∀ d i q : Nat, i + d = w.length → q < next.length → Ev (fun k => det_After.l0 k (q : Int) w (w.length : Int) (i : Int) a s next mark) ((aft next q (w.drop i) : Nat) : Int) := by
  intro d
  induction d with
  | zero =>
    intro i q hi hq
    refine Ev.step (fun k => by rw [det_After.l0]) ?_
    simp only [if_neg (show ¬ (i : Int) < (w.length : Int) by omega)]
    exact evc (Ev.now _) (by rw [List.drop_of_length_le (by omega)]; rfl)
  | succ d ih =>
    intro i q hi hq
    refine Ev.step (fun k => by rw [det_After.l0]) ?_
    obtain ⟨h0, hx⟩ := getD_word hw (show i < w.length by omega)
    obtain ⟨h1, h2, h3⟩ := dl_rng D hq h0 hx
    have e := ih (i + 1) (dl next q (w.getD i 0)) (by omega) h1
    rw [drop_getD w i 0 (by omega)]
    obtain ⟨x, hx'⟩ := Int.eq_ofNat_of_zero_le h0
    rw [hx'] at h1 h2 h3 e hx ⊢
    rw [Int.toNat_natCast] at h2
    simp only [rdL, rdN, hx', h2, w1 i (by omega), if_pos (show (i : Int) < (w.length : Int) by omega), if_pos (show 0 ≤ (i : Int) by omega), if_pos (show 0 ≤ (q : Int) by omega), if_pos (show (q : Int) < (next.length : Int) by omega), if_pos (show 0 ≤ (x : Int) by omega), if_pos h3]
    exact e
theorem det_After_ev {a s : Int} {next : List (List Int)} {mark : List Int} (D : DOk a s next mark) (w : List Int) (hw : ∀ x ∈ w, 0 ≤ x ∧ x < a) (hl : w.length ≤ 60) (q : Nat) (hq : q < next.length) : Ev (fun k => det_After.f k a s next mark (q : Int) w) ((aft next q w : Nat) : Int) :=
  after_l0 D w hw hl w.length 0 q (by omega) hq
theorem rafter_l0 {a s : Int} {next : List (List Int)} {mark : List Int} (D : DOk a s next mark) (w : List Int) (hw : ∀ x ∈ w, 0 ≤ x ∧ x < a) (hl : w.length ≤ 60) : ∀ d i q : Nat, i + d = w.length → q < next.length → Ev (fun k => evermoreref3_After.l0 k (q : Int) w (i : Int) a s next mark) ((aft next q (w.drop i) : Nat) : Int) := by
  intro d
  induction d with
  | zero =>
    intro i q hi hq
    refine Ev.step (fun k => by rw [evermoreref3_After.l0]) ?_
    simp only [if_neg (show ¬ (i : Int) < (w.length : Int) by omega)]
    exact evc (Ev.now _) (by rw [List.drop_of_length_le (by omega)]; rfl)
  | succ d ih =>
    intro i q hi hq
    refine Ev.step (fun k => by rw [evermoreref3_After.l0]) ?_
    obtain ⟨h0, hx⟩ := getD_word hw (show i < w.length by omega)
    obtain ⟨h1, h2, h3⟩ := dl_rng D hq h0 hx
    have e := ih (i + 1) (dl next q (w.getD i 0)) (by omega) h1
    rw [drop_getD w i 0 (by omega)]
    obtain ⟨x, hx'⟩ := Int.eq_ofNat_of_zero_le h0
    rw [hx'] at h1 h2 h3 e hx ⊢
    rw [Int.toNat_natCast] at h2
    simp only [rdL, rdN, hx', h2, w1 i (by omega), if_pos (show (i : Int) < (w.length : Int) by omega), if_pos (show 0 ≤ (i : Int) by omega), if_pos (show 0 ≤ (q : Int) by omega), if_pos (show (q : Int) < (next.length : Int) by omega), if_pos (show 0 ≤ (x : Int) by omega), if_pos h3]
    exact e
theorem ref_After_ev {a s : Int} {next : List (List Int)} {mark : List Int} (D : DOk a s next mark) (w : List Int) (hw : ∀ x ∈ w, 0 ≤ x ∧ x < a) (hl : w.length ≤ 60) (q : Nat) (hq : q < next.length) : Ev (fun k => evermoreref3_After.f k a s next mark (q : Int) w) ((aft next q w : Nat) : Int) :=
  rafter_l0 D w hw hl w.length 0 q (by omega) hq
/-- n rounds -/
def itr (F : Nat → Nat) : Nat → Nat → Nat
  | 0, q => q
  | n + 1, q => itr F n (F q)
theorem itr_succ (F : Nat → Nat) : ∀ n q, itr F (n + 1) q = F (itr F n q)
  | 0, _ => rfl
  | n + 1, q => itr_succ F n (F q)
theorem itr_add (F : Nat → Nat) : ∀ m n q, itr F (m + n) q = itr F n (itr F m q)
  | 0, n, q => by rw [Nat.zero_add]; rfl
  | m + 1, n, q => by rw [Nat.succ_add]; exact itr_add F m n (F q)
theorem pigeon : ∀ (N : Nat) (f : Nat → Nat), (∀ i, i ≤ N → f i < N) → ∃ i j, i < j ∧ j ≤ N ∧ f i = f j := by
  intro N
  induction N with
  | zero => intro f h; exact absurd (h 0 (Nat.le_refl _)) (Nat.not_lt_zero _)
  | succ N ih =>
    intro f h
    by_cases hv : ∃ i, i ≤ N ∧ f i = f (N + 1)
    · obtain ⟨i, hi, e⟩ := hv
      exact ⟨i, N + 1, by omega, Nat.le_refl _, e⟩
    · have hne : ∀ i, i ≤ N → f i ≠ f (N + 1) := fun i hi e => hv ⟨i, hi, e⟩
      obtain ⟨i, j, h1, h2, e⟩ := ih (fun i => if f i = N then f (N + 1) else f i) (fun i hi => by
        have a1 := h i (by omega)
        have a2 := h (N + 1) (Nat.le_refl _)
        have a3 := hne i hi
        show (if f i = N then f (N + 1) else f i) < N
        split <;> omega)
      have a3 := hne i (by omega)
      have a4 := hne j (by omega)
      refine ⟨i, j, h1, by omega, ?_⟩
      have e' : (if f i = N then f (N + 1) else f i) = (if f j = N then f (N + 1) else f j) := e
      split at e' <;> split at e' <;> omega
theorem returns (F : Nat → Nat) (N : Nat) (hF : ∀ q, q < N → F q < N) (q : Nat) (hq : q < N) : ∃ c, 1 ≤ c ∧ c ≤ N ∧ itr F c (itr F N q) = itr F N q := by
  have hr : ∀ i, itr F i q < N := by
    intro i
    induction i with
    | zero => exact hq
    | succ i ih => rw [itr_succ]; exact hF _ ih
  obtain ⟨i, j, h1, h2, e⟩ := pigeon N (fun i => itr F i q) (fun i _ => hr i)
  refine ⟨j - i, by omega, by omega, ?_⟩
  have e' : itr F i q = itr F j q := e
  rw [← itr_add, show N + (j - i) = j + (N - i) by omega, itr_add, ← e', ← itr_add]
  congr 1; omega
/-- the first return -/
theorem first_return (F : Nat → Nat) (x : Nat) : ∀ c, 1 ≤ c → itr F c x = x → ∃ d, 1 ≤ d ∧ d ≤ c ∧ itr F d x = x ∧ ∀ e, 1 ≤ e → e < d → itr F e x ≠ x := by
  intro c
  induction c using Nat.strongRecOn with
  | _ c ih =>
    intro h1 h2
    by_cases h : ∃ e, 1 ≤ e ∧ e < c ∧ itr F e x = x
    · obtain ⟨e, e1, e2, e3⟩ := h
      obtain ⟨d, d1, d2, d3, d4⟩ := ih e e2 e1 e3
      exact ⟨d, d1, by omega, d3, d4⟩
    · exact ⟨c, h1, Nat.le_refl _, h2, fun e e1 e2 e3 => h ⟨e, e1, e2, e3⟩⟩
/-- what n rounds come to -/
def visN (next : List (List Int)) (w : List Int) : Nat → Nat → List Nat
  | 0, _ => []
  | n + 1, q => vis next q w ++ visN next w n (aft next q w)
theorem mem_visN (next : List (List Int)) (w : List Int) : ∀ (n q p : Nat), p ∈ visN next w n q ↔ ∃ i, i < n ∧ p ∈ vis next (itr (fun q => aft next q w) i q) w
  | 0, q, p => by simp [visN]
  | n + 1, q, p => by
    have ih := mem_visN next w n (aft next q w) p
    rw [visN, List.mem_append, ih]
    constructor
    · rintro (h | ⟨i, hi, h⟩)
      · exact ⟨0, by omega, h⟩
      · exact ⟨i + 1, by omega, h⟩
    · rintro ⟨i, hi, h⟩
      cases i with
      | zero => exact .inl h
      | succ i => exact .inr ⟨i, by omega, h⟩
theorem itr_mod (F : Nat → Nat) (x c : Nat) (hc : 1 ≤ c) (h : itr F c x = x) : ∀ i, itr F i x = itr F (i % c) x := by
  intro i
  induction i using Nat.strongRecOn with
  | _ i ih =>
    by_cases hi : i < c
    · rw [Nat.mod_eq_of_lt hi]
    · rw [Nat.mod_eq_sub_mod (by omega), ← ih (i - c) (by omega)]
      have := itr_add F c (i - c) x
      rw [h, show c + (i - c) = i by omega] at this
      exact this
theorem visN_cycle (next : List (List Int)) (w : List Int) (x c N : Nat) (hc : 1 ≤ c) (hcN : c ≤ N) (h : itr (fun q => aft next q w) c x = x) (p : Nat) : p ∈ visN next w N x ↔ p ∈ visN next w c x := by
  rw [mem_visN, mem_visN]
  constructor
  · rintro ⟨i, _, hp⟩
    rw [itr_mod _ x c hc h i] at hp
    exact ⟨i % c, Nat.mod_lt _ (by omega), hp⟩
  · rintro ⟨i, hi, hp⟩
    exact ⟨i, by omega, hp⟩
theorem acc_l2 {a s : Int} {next : List (List Int)} {mark : List Int} (D : DOk a s next mark) (hd u : List Int) (hu : ∀ x ∈ u, 0 ≤ x ∧ x < a) (hl : u.length ≤ 60) (f : Nat) (Z : Bool × Int) :
    ∀ d i q : Nat, ∀ m : Int, i + d = u.length → q < next.length →
      (Ev (fun k => if ((aft next q (u.drop i) : Nat) : Int) = (f : Int) then some ((Int.tmod (lm mark (vis next q (u.drop i)) m) 2) == 0, (0 : Int)) else safra_Accepts.l1 k ((aft next q (u.drop i) : Nat) : Int) (lm mark (vis next q (u.drop i)) m) (f : Int) a s next mark hd u) Z) →
      Ev (fun k => safra_Accepts.l2 k (q : Int) m (f : Int) u (u.length : Int) (i : Int) a s next mark hd u) Z := by
  intro d
  induction d with
  | zero =>
    intro i q m hi hq cont
    refine Ev.step (fun k => by rw [safra_Accepts.l2]) ?_
    simp only [if_neg (show ¬ (i : Int) < (u.length : Int) by omega)]
    rw [List.drop_of_length_le (by omega)] at cont
    exact cont
  | succ d ih =>
    intro i q m hi hq cont
    refine Ev.step (fun k => by rw [safra_Accepts.l2]) ?_
    obtain ⟨h0, hx⟩ := getD_word hu (show i < u.length by omega)
    obtain ⟨h1, h2, h3⟩ := dl_rng D hq h0 hx
    rw [drop_getD u i 0 (by omega)] at cont
    have e := ih (i + 1) (dl next q (u.getD i 0)) (mn m (mark.getD (dl next q (u.getD i 0)) 0)) (by omega) h1 cont
    have hm := D.ml
    obtain ⟨x, hx'⟩ := Int.eq_ofNat_of_zero_le h0
    rw [hx'] at h1 h2 h3 e hx
    rw [Int.toNat_natCast] at h2
    simp only [rdL, rdN, hx', h2, w1 i (by omega), if_pos (show (i : Int) < (u.length : Int) by omega), if_pos (show 0 ≤ (i : Int) by omega), if_pos (show 0 ≤ (q : Int) by omega), if_pos (show (q : Int) < (next.length : Int) by omega), if_pos (show 0 ≤ (x : Int) by omega), if_pos h3,
      if_pos (show 0 ≤ ((dl next q (x : Int) : Nat) : Int) by omega), if_pos (show ((dl next q (x : Int) : Nat) : Int) < (mark.length : Int) by omega)]
    exact e
theorem acc_l1 {a s : Int} {next : List (List Int)} {mark : List Int} (D : DOk a s next mark) (hd u : List Int) (hu : ∀ x ∈ u, 0 ≤ x ∧ x < a) (hl : u.length ≤ 60) (f : Nat) :
    ∀ c q : Nat, ∀ m : Int, 1 ≤ c → q < next.length → itr (fun q => aft next q u) c q = f → (∀ e, 1 ≤ e → e < c → itr (fun q => aft next q u) e q ≠ f) →
      Ev (fun k => safra_Accepts.l1 k (q : Int) m (f : Int) a s next mark hd u) ((Int.tmod (lm mark (visN next u c q) m) 2) == 0, 0) := by
  intro c
  induction c with
  | zero => intro q m h; omega
  | succ c ih =>
    intro q m _ hq hc hne
    refine Ev.step (fun k => by rw [safra_Accepts.l1]) ?_
    refine acc_l2 D hd u hu hl f _ u.length 0 q m (by omega) hq ?_
    rw [List.drop_zero]
    by_cases h0 : c = 0
    · subst h0
      have e : aft next q u = f := hc
      simp only [if_pos (show ((aft next q u : Nat) : Int) = (f : Int) by omega)]
      exact evc (Ev.now _) (by rw [visN, visN, List.append_nil])
    · have e : aft next q u ≠ f := hne 1 (Nat.le_refl _) (by omega)
      simp only [if_neg (show ¬ ((aft next q u : Nat) : Int) = (f : Int) by omega)]
      refine evc (ih (aft next q u) _ (by omega) (aft_rng D u q hq hu) hc (fun e h1 h2 => hne (e + 1) (by omega) (by omega))) ?_
      rw [visN, lm_append]
theorem acc_l0 {a s : Int} {next : List (List Int)} {mark : List Int} (D : DOk a s next mark) (hd u : List Int) (hu : ∀ x ∈ u, 0 ≤ x ∧ x < a) (hl : u.length ≤ 60) (Z : Bool × Int) (q0 : Nat)
    (cont : Ev (fun k => safra_Accepts.l1 k ((itr (fun q => aft next q u) next.length q0 : Nat) : Int) 10 ((itr (fun q => aft next q u) next.length q0 : Nat) : Int) a s next mark hd u) Z) :
    ∀ d i q : Nat, i + d = next.length → q < next.length → itr (fun q => aft next q u) d q = itr (fun q => aft next q u) next.length q0 → Ev (fun k => safra_Accepts.l0 k (q : Int) (next.length : Int) (i : Int) a s next mark hd u) Z := by
  intro d
  induction d with
  | zero =>
    intro i q hi hq he
    refine Ev.step (fun k => by rw [safra_Accepts.l0]) ?_
    simp only [if_neg (show ¬ (i : Int) < (next.length : Int) by omega)]
    rw [← he] at cont
    exact cont
  | succ d ih =>
    intro i q hi hq he
    refine Ev.step (fun k => by rw [safra_Accepts.l0]) ?_
    have := D.nm
    simp only [if_pos (show (i : Int) < (next.length : Int) by omega), w1 i (by omega)]
    refine Ev.bind (det_After_ev D u hu hl q hq) ?_
    exact ih (i + 1) _ (by omega) (aft_rng D u q hq hu) he
theorem racc_l2 {a s : Int} {next : List (List Int)} {mark : List Int} (D : DOk a s next mark) (hd u : List Int) (hu : ∀ x ∈ u, 0 ≤ x ∧ x < a) (hl : u.length ≤ 60) (n : Nat) (hn : n ≤ 20000) (Z : Bool) :
    ∀ d i q : Nat, ∀ m : Int, i + d = u.length → q < next.length →
      Ev (fun k => evermoreref9_Accepts.l1 k ((aft next q (u.drop i) : Nat) : Int) (lm mark (vis next q (u.drop i)) m) ((n + 1 : Nat) : Int) a s next mark hd u) Z →
      Ev (fun k => evermoreref9_Accepts.l2 k (q : Int) m (n : Int) (i : Int) a s next mark hd u) Z := by
  intro d
  induction d with
  | zero =>
    intro i q m hi hq cont
    refine Ev.step (fun k => by rw [evermoreref9_Accepts.l2]) ?_
    simp only [if_neg (show ¬ (i : Int) < (u.length : Int) by omega), w1 n (by omega)]
    rw [List.drop_of_length_le (by omega)] at cont
    exact cont
  | succ d ih =>
    intro i q m hi hq cont
    refine Ev.step (fun k => by rw [evermoreref9_Accepts.l2]) ?_
    obtain ⟨h0, hx⟩ := getD_word hu (show i < u.length by omega)
    obtain ⟨h1, h2, h3⟩ := dl_rng D hq h0 hx
    rw [drop_getD u i 0 (by omega)] at cont
    have e := ih (i + 1) (dl next q (u.getD i 0)) (mn m (mark.getD (dl next q (u.getD i 0)) 0)) (by omega) h1 cont
    have hm := D.ml
    obtain ⟨x, hx'⟩ := Int.eq_ofNat_of_zero_le h0
    rw [hx'] at h1 h2 h3 e hx
    rw [Int.toNat_natCast] at h2
    simp only [rdL, rdN, hx', h2, w1 i (by omega), if_pos (show (i : Int) < (u.length : Int) by omega), if_pos (show 0 ≤ (i : Int) by omega), if_pos (show 0 ≤ (q : Int) by omega), if_pos (show (q : Int) < (next.length : Int) by omega), if_pos (show 0 ≤ (x : Int) by omega), if_pos h3,
      if_pos (show 0 ≤ ((dl next q (x : Int) : Nat) : Int) by omega), if_pos (show ((dl next q (x : Int) : Nat) : Int) < (mark.length : Int) by omega)]
    unfold mn at e
    by_cases hlt : mark.getD (dl next q (x : Int)) 0 < m
    · simp only [if_pos hlt]; simp only [if_pos hlt] at e; exact e
    · simp only [if_neg hlt]; simp only [if_neg hlt] at e; exact e
theorem racc_l1 {a s : Int} {next : List (List Int)} {mark : List Int} (D : DOk a s next mark) (hd u : List Int) (hu : ∀ x ∈ u, 0 ≤ x ∧ x < a) (hl : u.length ≤ 60) :
    ∀ d n q : Nat, ∀ m : Int, n + d = next.length → q < next.length → Ev (fun k => evermoreref9_Accepts.l1 k (q : Int) m (n : Int) a s next mark hd u) ((Int.tmod (lm mark (visN next u d q) m) 2) == 0) := by
  intro d
  induction d with
  | zero =>
    intro n q m hn hq
    refine Ev.step (fun k => by rw [evermoreref9_Accepts.l1]) ?_
    simp only [if_neg (show ¬ (n : Int) < (next.length : Int) by omega)]
    exact Ev.now _
  | succ d ih =>
    intro n q m hn hq
    refine Ev.step (fun k => by rw [evermoreref9_Accepts.l1]) ?_
    have := D.nm
    simp only [if_pos (show (n : Int) < (next.length : Int) by omega)]
    refine racc_l2 D hd u hu hl n (by omega) _ u.length 0 q m (by omega) hq ?_
    rw [List.drop_zero]
    refine evc (ih (n + 1) _ _ (by omega) (aft_rng D u q hq hu)) ?_
    rw [visN, lm_append]
theorem racc_l0 {a s : Int} {next : List (List Int)} {mark : List Int} (D : DOk a s next mark) (hd u : List Int) (hu : ∀ x ∈ u, 0 ≤ x ∧ x < a) (hl : u.length ≤ 60) (Z : Bool) (q0 : Nat)
    (cont : Ev (fun k => evermoreref9_Accepts.l1 k ((itr (fun q => aft next q u) next.length q0 : Nat) : Int) 10 0 a s next mark hd u) Z) :
    ∀ d i q : Nat, i + d = next.length → q < next.length → itr (fun q => aft next q u) d q = itr (fun q => aft next q u) next.length q0 → Ev (fun k => evermoreref9_Accepts.l0 k (q : Int) (i : Int) a s next mark hd u) Z := by
  intro d
  induction d with
  | zero =>
    intro i q hi hq he
    refine Ev.step (fun k => by rw [evermoreref9_Accepts.l0]) ?_
    simp only [if_neg (show ¬ (i : Int) < (next.length : Int) by omega)]
    rw [← he] at cont
    exact cont
  | succ d ih =>
    intro i q hi hq he
    refine Ev.step (fun k => by rw [evermoreref9_Accepts.l0]) ?_
    have := D.nm
    simp only [if_pos (show (i : Int) < (next.length : Int) by omega), w1 i (by omega)]
    refine Ev.bind (ref_After_ev D u hu hl q hq) ?_
    exact ih (i + 1) _ (by omega) (aft_rng D u q hq hu) he
/-- what is wrong with a lasso -/
def lasS (a : Int) (h u : List Int) : Int := if mayS a h = 0 then (if mayS a u = 0 then (if (u.length : Int) = 0 then 1 else 0) else mayS a u) else mayS a h
theorem word_Lasso_ev (a : Int) (h u : List Int) : Ev (fun k => word_Lasso.f k a h u) (lasS a h u) := by
  unfold word_Lasso.f lasS
  refine Ev.bind (word_May_ev a h) ?_
  by_cases h1 : mayS a h = 0
  · simp only [if_pos h1]
    refine Ev.bind (word_May_ev a u) ?_
    by_cases h2 : mayS a u = 0
    · simp only [if_pos h2]
      by_cases h3 : (u.length : Int) = 0
      · simp only [if_pos h3]; exact Ev.now _
      · simp only [if_neg h3]; exact Ev.now _
    · simp only [if_neg h2]; exact Ev.now _
  · simp only [if_neg h1]; exact Ev.now _
theorem ref_Lasso_ev (a : Int) (h u : List Int) : Ev (fun k => evermoreref1_Lasso.f k a h u) (lasS a h u) := by
  unfold evermoreref1_Lasso.f lasS
  refine Ev.bind (evermoreref1_May_ev a h) ?_
  by_cases h1 : mayS a h = 0
  · simp only [if_pos h1]
    refine Ev.bind (evermoreref1_May_ev a u) ?_
    by_cases h2 : mayS a u = 0
    · simp only [if_pos h2]
      by_cases h3 : (u.length : Int) = 0
      · simp only [if_pos h3]; exact Ev.now _
      · simp only [if_neg h3]; exact Ev.now _
    · simp only [if_neg h2]; exact Ev.now _
  · simp only [if_neg h1]; exact Ev.now _
theorem law (a s : Int) (next : List (List Int)) (mark : List Int) (h u : List Int) : Ev (fun k => evermorelaw_SafraAccepts.f k a s next mark h u) true := by
  unfold evermorelaw_SafraAccepts.f safra_Check.f
  simp only [Option.bind_some]
  refine Ev.bind (chk_ev a s next mark) ?_
  by_cases hc : safra_Check.v a s next mark = 0
  · have D := chk_ok hc
    by_cases hl : lasS a h u = 0
    · obtain ⟨hm1, hm2⟩ : mayS a h = 0 ∧ mayS a u = 0 := by
        unfold lasS at hl
        by_cases h1 : mayS a h = 0
        · rw [if_pos h1] at hl
          by_cases h2 : mayS a u = 0
          · exact ⟨h1, h2⟩
          · rw [if_neg h2] at hl; exact absurd hl h2
        · rw [if_neg h1] at hl; exact absurd hl h1
      have o1 := mayS_ok hm1
      have o2 := mayS_ok hm2
      obtain ⟨q0, hq0⟩ := Int.eq_ofNat_of_zero_le D.s0
      have hs : q0 < next.length := by have := D.sn; omega
      have hq1 := aft_rng D h q0 hs o1.2.2.2
      obtain ⟨c0, c1, c2, c3⟩ := returns (fun q => aft next q u) next.length (fun q hq => aft_rng D u q hq o2.2.2.2) _ hq1
      obtain ⟨c, d1, d2, d3, d4⟩ := first_return _ _ c0 c1 c3
      have hx : itr (fun q => aft next q u) next.length (aft next q0 h) < next.length := by
        have : ∀ i, itr (fun q => aft next q u) i (aft next q0 h) < next.length := by
          intro i
          induction i with
          | zero => exact hq1
          | succ i ih => rw [itr_succ]; exact aft_rng D u _ ih o2.2.2.2
        exact this _
      have hA : Ev (fun k => safra_Accepts.f k a s next mark h u) ((Int.tmod (lm mark (visN next u c (itr (fun q => aft next q u) next.length (aft next q0 h))) 10) 2) == 0, 0) := by
        unfold safra_Accepts.f safra_Check.f
        simp only [Option.bind_some, if_pos hc]
        refine Ev.bind (word_Lasso_ev a h u) ?_
        simp only [if_pos hl]
        rw [hq0]
        rw [hq0] at D
        refine Ev.bind (det_After_ev D h o1.2.2.2 o1.2.2.1 q0 hs) ?_
        exact acc_l0 D h u o2.2.2.2 o2.2.2.1 _ _ (acc_l1 D h u o2.2.2.2 o2.2.2.1 _ c _ 10 d1 hx d3 d4) next.length 0 _ (by omega) hq1 rfl
      have hB : Ev (fun k => evermoreref9_Accepts.f k a s next mark h u) ((Int.tmod (lm mark (visN next u next.length (itr (fun q => aft next q u) next.length (aft next q0 h))) 10) 2) == 0) := by
        unfold evermoreref9_Accepts.f
        rw [hq0]
        rw [hq0] at D
        refine Ev.bind (ref_After_ev D h o1.2.2.2 o1.2.2.1 q0 hs) ?_
        exact racc_l0 D h u o2.2.2.2 o2.2.2.1 _ _ (racc_l1 D h u o2.2.2.2 o2.2.2.1 next.length 0 _ 10 (by omega) hx) next.length 0 _ (by omega) hq1 rfl
      refine Ev.bind hA ?_
      simp only [if_true, if_pos hc]
      refine Ev.bind (ref_Lasso_ev a h u) ?_
      simp only [if_pos hl]
      refine Ev.bind hB ?_
      refine evc (Ev.now _) ?_
      rw [lm_eq mark 10 (visN_cycle next u _ c next.length d1 (by omega) d3)]
      simp
    · have hA : Ev (fun k => safra_Accepts.f k a s next mark h u) (false, lasS a h u) := by
        unfold safra_Accepts.f safra_Check.f
        simp only [Option.bind_some, if_pos hc]
        refine Ev.bind (word_Lasso_ev a h u) ?_
        simp only [if_neg hl]
        exact Ev.now _
      refine Ev.bind hA ?_
      simp only [if_true, if_pos hc]
      refine Ev.bind (ref_Lasso_ev a h u) ?_
      simp only [if_neg hl, if_true]
      exact Ev.now _
  · have hA : Ev (fun k => safra_Accepts.f k a s next mark h u) (false, safra_Check.v a s next mark) := by
      unfold safra_Accepts.f safra_Check.f
      simp only [Option.bind_some, if_neg hc]
      exact Ev.now _
    refine Ev.bind hA ?_
    simp only [if_true, if_neg hc]
    exact Ev.now _
theorem SafraAccepts : evermorelaw_SafraAccepts.PureH := by
  intro a s next mark h u _ _
  exact Ev.rounds (law a s next mark h u)

end Go.Proofs.Ytaaibckhpbmbeaa.Pure
