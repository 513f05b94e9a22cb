/- For every automaton with good sets and every lasso the program's answer is the reference's. No conditions beyond the statement's. -/
import Derived.Test.YtaaibckhpbmbeaaPMullerAcceptsx6
import Derived.Test.YtaaibckhpbmbeaaQMullerAccepts
namespace Go.Proofs.Ytaaibckhpbmbeaa.Pure
open Go.RowKit Go.Proofs.Ytaaibckhpbmbeaa.PMullerAccepts Go.Proofs.YtaaibckhpbmbeaaW.PrintWords Go.Proofs.YtaaibckhpbmbeaaW.PrintLast Go.Proofs.YtaaibckhpbmbeaaW.PrintMore
set_option linter.unusedVariables false
set_option linter.unusedSimpArgs false
theorem w64 {n : Int} (h : -9223372036854775808 ≤ n) (h' : n ≤ 9223372036854775807) : wrap64 n = n := by unfold wrap64; omega
theorem rdn (l : List Int) (i : Nat) (h : i < l.length) : rd l (i : Int) = l[i] := by
  unfold rd; rw [Int.toNat_natCast, List.getD_eq_getElem?_getD, List.getElem?_eq_getElem h]; rfl
theorem rdOfn {α : Type} (d : α) (l : List α) (i : Nat) (h : i < l.length) : rdOf d l (i : Int) = l[i] := by
  unfold rdOf; rw [Int.toNat_natCast, List.getD_eq_getElem?_getD, List.getElem?_eq_getElem h]; rfl
theorem evc {α : Type} {g : Nat → Option α} {a b : α} (h : Ev g a) (e : a = b) : Ev g b := e ▸ h
theorem rdL (l : List (List Int)) (n : Nat) : rd_L1 l (n : Int) = l.getD n [] := by unfold rd_L1; rw [Int.toNat_natCast]
theorem rdN (l : List Int) (n : Nat) : rd l (n : Int) = l.getD n 0 := by unfold rd; rw [Int.toNat_natCast]
theorem w1 (i : Nat) (h : i ≤ 9223372036854775000) : wrap64 ((i : Int) + 1) = ((i + 1 : Nat) : Int) := by rw [w64 (by omega) (by omega)]; omega
theorem getD_mem {α : Type} (l : List α) (n : Nat) (d : α) (h : n < l.length) : l.getD n d ∈ l := by
  rw [List.getD_eq_getElem?_getD, List.getElem?_eq_getElem h]; exact List.getElem_mem h
theorem drop_getD {α : Type} (l : List α) (n : Nat) (d : α) (h : n < l.length) : l.drop n = l.getD n d :: l.drop (n + 1) := by
  rw [List.drop_eq_getElem_cons h, List.getD_eq_getElem?_getD, List.getElem?_eq_getElem h]; rfl
/-! runs -/
def dl (next : List (List Int)) (q : Nat) (a : Int) : Nat := ((next.getD q []).getD a.toNat 0).toNat
def aft (next : List (List Int)) (q : Nat) (w : List Int) : Nat := w.foldl (dl next) q
/-- the states that a word comes to, one behind each letter -/
def vis (next : List (List Int)) : Nat → List Int → List Nat
  | _, [] => []
  | q, a :: w => dl next q a :: vis next (dl next q a) w
/-- n rounds -/
def itr (F : Nat → Nat) : Nat → Nat → Nat
  | 0, q => q
  | n + 1, q => itr F n (F q)
theorem itr_succ (F : Nat → Nat) : ∀ n q, itr F (n + 1) q = F (itr F n q)
  | 0, _ => rfl
  | n + 1, q => itr_succ F n (F q)
theorem itr_add (F : Nat → Nat) : ∀ m n q, itr F (m + n) q = itr F n (itr F m q)
  | 0, n, q => by rw [Nat.zero_add]; rfl
  | m + 1, n, q => by rw [Nat.succ_add]; exact itr_add F m n (F q)
theorem pigeon : ∀ (N : Nat) (f : Nat → Nat), (∀ i, i ≤ N → f i < N) → ∃ i j, i < j ∧ j ≤ N ∧ f i = f j := by
  intro N
  induction N with
  | zero => intro f h; exact absurd (h 0 (Nat.le_refl _)) (Nat.not_lt_zero _)
  | succ N ih =>
    intro f h
    by_cases hv : ∃ i, i ≤ N ∧ f i = f (N + 1)
    · obtain ⟨i, hi, e⟩ := hv
      exact ⟨i, N + 1, by omega, Nat.le_refl _, e⟩
    · have hne : ∀ i, i ≤ N → f i ≠ f (N + 1) := fun i hi e => hv ⟨i, hi, e⟩
      obtain ⟨i, j, h1, h2, e⟩ := ih (fun i => if f i = N then f (N + 1) else f i) (fun i hi => by
        have a1 := h i (by omega)
        have a2 := h (N + 1) (Nat.le_refl _)
        have a3 := hne i hi
        show (if f i = N then f (N + 1) else f i) < N
        split <;> omega)
      have a3 := hne i (by omega)
      have a4 := hne j (by omega)
      refine ⟨i, j, h1, by omega, ?_⟩
      have e' : (if f i = N then f (N + 1) else f i) = (if f j = N then f (N + 1) else f j) := e
      split at e' <;> split at e' <;> omega
theorem returns (F : Nat → Nat) (N : Nat) (hF : ∀ q, q < N → F q < N) (q : Nat) (hq : q < N) : ∃ c, 1 ≤ c ∧ c ≤ N ∧ itr F c (itr F N q) = itr F N q := by
  have hr : ∀ i, itr F i q < N := by
    intro i
    induction i with
    | zero => exact hq
    | succ i ih => rw [itr_succ]; exact hF _ ih
  obtain ⟨i, j, h1, h2, e⟩ := pigeon N (fun i => itr F i q) (fun i _ => hr i)
  refine ⟨j - i, by omega, by omega, ?_⟩
  have e' : itr F i q = itr F j q := e
  rw [← itr_add, show N + (j - i) = j + (N - i) by omega, itr_add, ← e', ← itr_add]
  congr 1; omega
/-- the first return -/
theorem first_return (F : Nat → Nat) (x : Nat) : ∀ c, 1 ≤ c → itr F c x = x → ∃ d, 1 ≤ d ∧ d ≤ c ∧ itr F d x = x ∧ ∀ e, 1 ≤ e → e < d → itr F e x ≠ x := by
  intro c
  induction c using Nat.strongRecOn with
  | _ c ih =>
    intro h1 h2
    by_cases h : ∃ e, 1 ≤ e ∧ e < c ∧ itr F e x = x
    · obtain ⟨e, e1, e2, e3⟩ := h
      obtain ⟨d, d1, d2, d3, d4⟩ := ih e e2 e1 e3
      exact ⟨d, d1, by omega, d3, d4⟩
    · exact ⟨c, h1, Nat.le_refl _, h2, fun e e1 e2 e3 => h ⟨e, e1, e2, e3⟩⟩
/-- what n rounds come to -/
def visN (next : List (List Int)) (w : List Int) : Nat → Nat → List Nat
  | 0, _ => []
  | n + 1, q => vis next q w ++ visN next w n (aft next q w)
theorem mem_visN (next : List (List Int)) (w : List Int) : ∀ (n q p : Nat), p ∈ visN next w n q ↔ ∃ i, i < n ∧ p ∈ vis next (itr (fun q => aft next q w) i q) w
  | 0, q, p => by simp [visN]
  | n + 1, q, p => by
    have ih := mem_visN next w n (aft next q w) p
    rw [visN, List.mem_append, ih]
    constructor
    · rintro (h | ⟨i, hi, h⟩)
      · exact ⟨0, by omega, h⟩
      · exact ⟨i + 1, by omega, h⟩
    · rintro ⟨i, hi, h⟩
      cases i with
      | zero => exact .inl h
      | succ i => exact .inr ⟨i, by omega, h⟩
theorem itr_mod (F : Nat → Nat) (x c : Nat) (hc : 1 ≤ c) (h : itr F c x = x) : ∀ i, itr F i x = itr F (i % c) x := by
  intro i
  induction i using Nat.strongRecOn with
  | _ i ih =>
    by_cases hi : i < c
    · rw [Nat.mod_eq_of_lt hi]
    · rw [Nat.mod_eq_sub_mod (by omega), ← ih (i - c) (by omega)]
      have := itr_add F c (i - c) x
      rw [h, show c + (i - c) = i by omega] at this
      exact this
theorem visN_cycle (next : List (List Int)) (w : List Int) (x c N : Nat) (hc : 1 ≤ c) (hcN : c ≤ N) (h : itr (fun q => aft next q w) c x = x) (p : Nat) : p ∈ visN next w N x ↔ p ∈ visN next w c x := by
  rw [mem_visN, mem_visN]
  constructor
  · rintro ⟨i, _, hp⟩
    rw [itr_mod _ x c hc h i] at hp
    exact ⟨i % c, Nat.mod_lt _ (by omega), hp⟩
  · rintro ⟨i, hi, hp⟩
    exact ⟨i, by omega, hp⟩
/-- rows that know their way -/
structure ROk (a : Int) (next : List (List Int)) : Prop where
  a1 : 1 ≤ a
  a4 : a ≤ 4
  n1 : 1 ≤ next.length
  nm : next.length ≤ 20000
  rl : ∀ q, q < next.length → ((next.getD q []).length : Int) = a
  rb : ∀ q, q < next.length → ∀ i : Nat, (i : Int) < a → 0 ≤ (next.getD q []).getD i 0 ∧ (next.getD q []).getD i 0 < (next.length : Int)
theorem dl_rng {a : Int} {next : List (List Int)} (D : ROk a next) {q : Nat} (hq : q < next.length) {x : Int} (h0 : 0 ≤ x) (hx : x < a) : dl next q x < next.length ∧ (next.getD q []).getD x.toNat 0 = (dl next q x : Int) ∧ x < ((next.getD q []).length : Int) := by
  have h := D.rb q hq x.toNat (by omega)
  have hl := D.rl q hq
  unfold dl
  refine ⟨by omega, by omega, by omega⟩
theorem aft_rng {a : Int} {next : List (List Int)} (D : ROk a next) : ∀ (w : List Int) (q : Nat), q < next.length → (∀ x ∈ w, 0 ≤ x ∧ x < a) → aft next q w < next.length
  | [], q, hq, _ => hq
  | x :: w, q, hq, h => aft_rng D w _ (dl_rng D hq (h x List.mem_cons_self).1 (h x List.mem_cons_self).2).1 (fun y hy => h y (List.mem_cons_of_mem _ hy))
theorem getD_word {w : List Int} {a : Int} (h : ∀ x ∈ w, 0 ≤ x ∧ x < a) {i : Nat} (hi : i < w.length) : 0 ≤ w.getD i 0 ∧ w.getD i 0 < a := h _ (getD_mem _ _ _ hi)
/-- what may be a Muller automaton -/
structure UOk (a s : Int) (next : List (List Int)) (good : List Int) : Prop where
  r : ROk a next
  n4 : next.length ≤ 4
  s0 : 0 ≤ s
  sn : s < (next.length : Int)
theorem chk_l4 (a s : Int) (next : List (List Int)) (good : List Int) (hl : good.length ≤ 9223372036854775000) : ∀ d i : Nat, i + d = good.length → 1 ≤ i → (∀ j, j < i → muller_Check.fall good j = false) → Ev (fun k => evermoreref34_Check.l4 k (i : Int) a s next good) (if (List.range good.length).any (muller_Check.fall good) = true then 3 else 0) := by
  intro d
  induction d with
  | zero =>
    intro i hi h1 hp
    refine Ev.step (fun k => by rw [evermoreref34_Check.l4]) ?_
    simp only [if_neg (show ¬ (i : Int) < (good.length : Int) by omega)]
    refine evc (Ev.now _) ?_
    rw [if_neg]
    intro ha
    obtain ⟨j, hj, hb⟩ := List.any_eq_true.1 ha
    rw [hp j (by have := List.mem_range.1 hj; omega)] at hb
    cases hb
  | succ d ih =>
    intro i hi h1 hp
    refine Ev.step (fun k => by rw [evermoreref34_Check.l4]) ?_
    have hw : wrap64 ((i : Int) - 1) = (i : Int) - 1 := by rw [w64 (by omega) (by omega)]
    simp only [hw, w1 i (by omega), if_pos (show (i : Int) < (good.length : Int) by omega), if_pos (show 0 ≤ (i : Int) by omega), if_pos (show 0 ≤ (i : Int) - 1 by omega), if_pos (show (i : Int) - 1 < (good.length : Int) by omega)]
    have hf : muller_Check.fall good i = decide (rd good ((i : Int) - 1) ≥ rd good (i : Int)) := by unfold muller_Check.fall; rw [decide_eq_true (show 0 < i by omega), Bool.true_and]
    by_cases h : rd good ((i : Int) - 1) ≥ rd good (i : Int)
    · simp only [if_pos h]
      refine evc (Ev.now 3) ?_
      rw [if_pos (List.any_eq_true.2 ⟨i, List.mem_range.2 (by omega), by rw [hf]; exact decide_eq_true h⟩)]
    · simp only [if_neg h]
      refine ih (i + 1) (by omega) (by omega) (fun j hj => ?_)
      by_cases e : j = i
      · rw [e, hf]; exact decide_eq_false h
      · exact hp j (by omega)
theorem chk_l4' (a s : Int) (next : List (List Int)) (good : List Int) (hl : good.length ≤ 9223372036854775000) : Ev (fun k => evermoreref34_Check.l4 k 1 a s next good) (if (List.range good.length).any (muller_Check.fall good) = true then 3 else 0) := by
  by_cases h : 1 ≤ good.length
  · exact chk_l4 a s next good hl (good.length - 1) 1 (by omega) (by omega) (fun j hj => by
      have : j = 0 := by omega
      subst this; rfl)
  · refine Ev.step (fun k => by rw [evermoreref34_Check.l4]) ?_
    simp only [if_neg (show ¬ (1 : Int) < (good.length : Int) by omega)]
    have h0 : good.length = 0 := by omega
    exact evc (Ev.now _) (by rw [h0]; rfl)
theorem shl1 (n : Nat) (h : n ≤ 4) : shl .i64 1 (n : Int) = 2 ^ n := by
  rcases (show n = 0 ∨ n = 1 ∨ n = 2 ∨ n = 3 ∨ n = 4 by omega) with h | h | h | h | h <;> subst h <;> decide
theorem chk_l3 (a s : Int) (next : List (List Int)) (good : List Int) (hl : good.length ≤ 9223372036854775000) (hn : next.length ≤ 4) : ∀ d i : Nat, i + d = good.length → Ev (fun k => evermoreref34_Check.l3 k (next.length : Int) (i : Int) a s next good) (if (good.drop i).any (muller_Check.badm next.length) = true then 2 else if (List.range good.length).any (muller_Check.fall good) = true then 3 else 0) := by
  intro d
  induction d with
  | zero =>
    intro i hi
    refine Ev.step (fun k => by rw [evermoreref34_Check.l3]) ?_
    simp only [if_neg (show ¬ (i : Int) < (good.length : Int) by omega)]
    exact evc (chk_l4' a s next good hl) (by rw [List.drop_of_length_le (by omega), List.any_nil, if_neg (show ¬ (false = true) by decide)])
  | succ d ih =>
    intro i hi
    refine Ev.step (fun k => by rw [evermoreref34_Check.l3]) ?_
    simp only [rdN, shl1 next.length hn, w1 i (by omega), if_pos (show (i : Int) < (good.length : Int) by omega), if_pos (show 0 ≤ (i : Int) by omega), if_pos (show 0 ≤ (next.length : Int) by omega)]
    rw [drop_getD good i 0 (by omega), List.any_cons]
    by_cases h1 : good.getD i 0 < 1
    · simp only [if_pos h1]
      exact evc (Ev.now _) (by unfold muller_Check.badm; rw [decide_eq_true h1]; rfl)
    · simp only [if_neg h1]
      by_cases h2 : good.getD i 0 ≥ 2 ^ next.length
      · simp only [if_pos h2]
        exact evc (Ev.now _) (by rw [show muller_Check.badm (next.length : Int) (good.getD i 0) = true by unfold muller_Check.badm; rw [Int.toNat_natCast, decide_eq_true h2, Bool.or_true]]; rfl)
      · simp only [if_neg h2]
        exact evc (ih (i + 1) (by omega)) (by rw [show muller_Check.badm (next.length : Int) (good.getD i 0) = false by unfold muller_Check.badm; rw [Int.toNat_natCast, decide_eq_false h1, decide_eq_false h2]; rfl, Bool.false_or])
theorem chk_l2 (a s : Int) (next : List (List Int)) (good : List Int) (hn : next.length ≤ 4) (ha : a ≤ 4) (q : Nat) (hq : q < next.length) (hl : ((next.getD q []).length : Int) = a) (Z : Int)
    (cont : Ev (fun k => evermoreref34_Check.l1 k (next.length : Int) ((q + 1 : Nat) : Int) a s next good) Z) :
    ∀ d i : Nat, i + d = (next.getD q []).length → Ev (fun k => evermoreref34_Check.l2 k (next.length : Int) (q : Int) (i : Int) a s next good) (if ((next.getD q []).drop i).any (muller_Check.bad next.length) = true then 2 else Z) := by
  intro d
  induction d with
  | zero =>
    intro i hi
    refine Ev.step (fun k => by rw [evermoreref34_Check.l2]) ?_
    simp only [w1 q (by omega), if_neg (show ¬ (i : Int) < a by omega)]
    rw [List.drop_of_length_le (by omega)]
    exact cont
  | succ d ih =>
    intro i hi
    refine Ev.step (fun k => by rw [evermoreref34_Check.l2]) ?_
    simp only [rdL, rdN, w1 i (by omega), if_pos (show (i : Int) < a by omega), if_pos (show 0 ≤ (q : Int) by omega), if_pos (show (q : Int) < (next.length : Int) by omega), if_pos (show 0 ≤ (i : Int) by omega), if_pos (show (i : Int) < ((next.getD q []).length : Int) by omega)]
    rw [drop_getD (next.getD q []) i 0 (by omega), List.any_cons]
    by_cases h1 : (next.getD q []).getD i 0 < 0
    · simp only [if_pos h1]
      exact evc (Ev.now _) (by unfold muller_Check.bad; rw [decide_eq_true h1]; rfl)
    · simp only [if_neg h1]
      by_cases h2 : (next.getD q []).getD i 0 ≥ (next.length : Int)
      · simp only [if_pos h2]
        exact evc (Ev.now _) (by rw [show muller_Check.bad (next.length : Int) ((next.getD q []).getD i 0) = true by unfold muller_Check.bad; rw [decide_eq_true h2, Bool.or_true]]; rfl)
      · simp only [if_neg h2]
        exact evc (ih (i + 1) (by omega)) (by rw [show muller_Check.bad (next.length : Int) ((next.getD q []).getD i 0) = false by unfold muller_Check.bad; rw [decide_eq_false h1, decide_eq_false h2]; rfl, Bool.false_or])
theorem chk_l1 (a s : Int) (next : List (List Int)) (good : List Int) (hn : next.length ≤ 4) (hg : good.length ≤ 9223372036854775000) (ha : a ≤ 4) (hl : ∀ q, q < next.length → ((next.getD q []).length : Int) = a) :
    ∀ d q : Nat, q + d = next.length → Ev (fun k => evermoreref34_Check.l1 k (next.length : Int) (q : Int) a s next good) (if (next.drop q).any (fun x => x.any (muller_Check.bad next.length)) = true then 2 else if good.any (muller_Check.badm next.length) = true then 2 else if (List.range good.length).any (muller_Check.fall good) = true then 3 else 0) := by
  intro d
  induction d with
  | zero =>
    intro q hq
    refine Ev.step (fun k => by rw [evermoreref34_Check.l1]) ?_
    simp only [if_neg (show ¬ (q : Int) < (next.length : Int) by omega)]
    rw [List.drop_of_length_le (by omega)]
    have e := chk_l3 a s next good hg hn good.length 0 (by omega)
    rw [List.drop_zero] at e
    exact e
  | succ d ih =>
    intro q hq
    refine Ev.step (fun k => by rw [evermoreref34_Check.l1]) ?_
    simp only [if_pos (show (q : Int) < (next.length : Int) by omega)]
    refine evc (chk_l2 a s next good hn ha q (by omega) (hl q (by omega)) _ (ih (q + 1) (by omega)) (next.getD q []).length 0 (by omega)) ?_
    rw [drop_getD next q [] (by omega), List.any_cons, List.drop_zero]
    cases h : (next.getD q []).any (muller_Check.bad next.length) with
    | true => simp only [if_true, Bool.true_or]
    | false => simp only [if_neg (show ¬ (false = true) by decide), Bool.false_or]
theorem chk_l0 (a s : Int) (next : List (List Int)) (good : List Int) (hn : next.length ≤ 4) (hg : good.length ≤ 9223372036854775000) (ha : a ≤ 4) :
    ∀ d q : Nat, q + d = next.length → (∀ p, p < q → ((next.getD p []).length : Int) = a) → Ev (fun k => evermoreref34_Check.l0 k (next.length : Int) (q : Int) a s next good)
      (if (next.drop q).any (fun x => decide ((x.length : Int) ≠ a)) = true then 3 else if muller_Check.bad next.length s = true ∨ next.any (fun x => x.any (muller_Check.bad next.length)) = true then 2 else if good.any (muller_Check.badm next.length) = true then 2 else if (List.range good.length).any (muller_Check.fall good) = true then 3 else 0) := by
  intro d
  induction d with
  | zero =>
    intro q hq hp
    refine Ev.step (fun k => by rw [evermoreref34_Check.l0]) ?_
    simp only [if_neg (show ¬ (q : Int) < (next.length : Int) by omega)]
    rw [List.drop_of_length_le (by omega)]
    have j3 : ∀ b : Bool, b = muller_Check.bad next.length s → Ev (fun k => evermoreref34_Check.j3 k (next.length : Int) b a s next good) (if ([] : List (List Int)).any (fun x => decide ((x.length : Int) ≠ a)) = true then 3 else if muller_Check.bad next.length s = true ∨ next.any (fun x => x.any (muller_Check.bad next.length)) = true then 2 else if good.any (muller_Check.badm next.length) = true then 2 else if (List.range good.length).any (muller_Check.fall good) = true then 3 else 0) := by
      intro b hb
      refine Ev.step (fun k => by rw [evermoreref34_Check.j3]) ?_
      rw [List.any_nil, if_neg (show ¬ (false = true) by decide), ← hb]
      cases b with
      | true => simp only [if_true, true_or]; exact Ev.now _
      | false =>
        simp only [if_neg (show ¬ (false = true) by decide), show (false = true) = False from by simp, false_or]
        have := chk_l1 a s next good hn hg ha (fun p hp' => hp p (by omega)) next.length 0 (by omega)
        rw [List.drop_zero] at this
        exact this
    by_cases h : s < 0
    · simp only [if_pos h]; exact j3 true (by unfold muller_Check.bad; rw [decide_eq_true h]; rfl)
    · simp only [if_neg h]; exact j3 _ (by unfold muller_Check.bad; rw [decide_eq_false h]; rfl)
  | succ d ih =>
    intro q hq hp
    refine Ev.step (fun k => by rw [evermoreref34_Check.l0]) ?_
    simp only [rdL, w1 q (by omega), if_pos (show (q : Int) < (next.length : Int) by omega), if_pos (show 0 ≤ (q : Int) by omega)]
    rw [drop_getD next q [] (by omega), List.any_cons]
    by_cases h : ((next.getD q []).length : Int) = a
    · simp only [if_pos h]
      refine evc (ih (q + 1) (by omega) (fun p hp' => ?_)) ?_
      · by_cases e : p = q
        · rw [e]; exact h
        · exact hp p (by omega)
      · rw [decide_eq_false (show ¬ ((next.getD q []).length : Int) ≠ a from fun x => x h), Bool.false_or]
    · simp only [if_neg h]
      exact evc (Ev.now 3) (by rw [decide_eq_true (show ((next.getD q []).length : Int) ≠ a from h), Bool.true_or]; rfl)
theorem chk_ev (a s : Int) (next : List (List Int)) (good : List Int) (hg : good.length ≤ 9223372036854775000) : Ev (fun k => evermoreref34_Check.f k a s next good) (muller_Check.v a s next good) := by
  have j1 : ∀ b : Bool, (b = true ↔ (next.length < 1 ∨ next.length > 4)) → ¬ (a < 1 ∨ a > 4) → Ev (fun k => evermoreref34_Check.j1 k (next.length : Int) b a s next good) (muller_Check.v a s next good) := by
    intro b hb h0
    refine Ev.step (fun k => by rw [evermoreref34_Check.j1]) ?_
    unfold muller_Check.v
    rw [if_neg h0]
    by_cases h : b = true
    · simp only [if_pos h, if_pos (hb.1 h)]
      exact Ev.now 1
    · have hn : ¬ (next.length < 1 ∨ next.length > 4) := fun x => h (hb.2 x)
      simp only [if_neg h, if_neg hn]
      refine evc (chk_l0 a s next good (by omega) hg (by omega) next.length 0 (by omega) (fun p hp => by omega)) ?_
      rw [List.drop_zero]
  have j0 : ∀ b : Bool, (b = true ↔ (a < 1 ∨ a > 4)) → Ev (fun k => evermoreref34_Check.j0 k b a s next good) (muller_Check.v a s next good) := by
    intro b hb
    refine Ev.step (fun k => by rw [evermoreref34_Check.j0]) ?_
    by_cases h : b = true
    · simp only [if_pos h]
      exact evc (Ev.now 2) (by unfold muller_Check.v; rw [if_pos (hb.1 h)])
    · simp only [if_neg h]
      have h0 : ¬ (a < 1 ∨ a > 4) := fun x => h (hb.2 x)
      by_cases h2 : (next.length : Int) < 1
      · simp only [if_pos h2]; exact j1 true ⟨fun _ => .inl (by omega), fun _ => rfl⟩ h0
      · simp only [if_neg h2]; exact j1 _ (by rw [decide_eq_true_iff]; omega) h0
  unfold evermoreref34_Check.f
  by_cases h : a < 1
  · simp only [if_pos h]; exact j0 true ⟨fun _ => .inl h, fun _ => rfl⟩
  · simp only [if_neg h]; exact j0 _ (by rw [decide_eq_true_iff]; omega)
theorem chk_ok {a s : Int} {next : List (List Int)} {good : List Int} (h : muller_Check.v a s next good = 0) : UOk a s next good := by
  unfold muller_Check.v at h
  by_cases h1 : a < 1 ∨ a > 4
  · rw [if_pos h1] at h; omega
  rw [if_neg h1] at h
  by_cases h2 : next.length < 1 ∨ next.length > 4
  · rw [if_pos h2] at h; omega
  rw [if_neg h2] at h
  by_cases h3 : next.any (fun x => decide ((x.length : Int) ≠ a)) = true
  · rw [if_pos h3] at h; omega
  rw [if_neg h3] at h
  by_cases h4 : muller_Check.bad next.length s = true ∨ next.any (fun x => x.any (muller_Check.bad next.length)) = true
  · rw [if_pos h4] at h; omega
  have hrow : ∀ q, q < next.length → next.getD q [] ∈ next := fun q hq => getD_mem _ _ _ hq
  have hlen : ∀ q, q < next.length → ((next.getD q []).length : Int) = a := fun q hq => Decidable.of_not_not fun x => h3 (List.any_eq_true.2 ⟨_, hrow q hq, decide_eq_true x⟩)
  have hs : muller_Check.bad next.length s = false := by cases e : muller_Check.bad next.length s with | false => rfl | true => exact absurd (.inl e) h4
  unfold muller_Check.bad at hs
  rw [Bool.or_eq_false_iff] at hs
  have hs1 := of_decide_eq_false hs.1
  have hs2 := of_decide_eq_false hs.2
  refine ⟨⟨by omega, by omega, by omega, by omega, hlen, fun q hq i hi => ?_⟩, by omega, by omega, by omega⟩
  have hlq := hlen q hq
  have hb : muller_Check.bad next.length ((next.getD q []).getD i 0) = false := by
    cases e : muller_Check.bad next.length ((next.getD q []).getD i 0) with
    | false => rfl
    | true => exact absurd (.inr (List.any_eq_true.2 ⟨_, hrow q hq, List.any_eq_true.2 ⟨_, getD_mem _ i 0 (by omega), e⟩⟩)) h4
  unfold muller_Check.bad at hb
  rw [Bool.or_eq_false_iff] at hb
  have e1 := of_decide_eq_false hb.1
  have e2 := of_decide_eq_false hb.2
  omega
theorem after_l0 {a : Int} {next : List (List Int)} (D : ROk a next) (a' s : Int) (mark : List Int) (w : List Int) (hw : ∀ x ∈ w, 0 ≤ x ∧ x < a) (hl : w.length ≤ 60) : ∀ d i q : Nat, i + d = w.length → q < next.length → Ev (fun k => det_After.l0 k (q : Int) w (w.length : Int) (i : Int) a' s next mark) ((aft next q (w.drop i) : Nat) : Int) := by
  intro d
  induction d with
  | zero =>
    intro i q hi hq
    refine Ev.step (fun k => by rw [det_After.l0]) ?_
    simp only [if_neg (show ¬ (i : Int) < (w.length : Int) by omega)]
    exact evc (Ev.now _) (by rw [List.drop_of_length_le (by omega)]; rfl)
  | succ d ih =>
    intro i q hi hq
    refine Ev.step (fun k => by rw [det_After.l0]) ?_
    obtain ⟨h0, hx⟩ := getD_word hw (show i < w.length by omega)
    obtain ⟨h1, h2, h3⟩ := dl_rng D hq h0 hx
    have e := ih (i + 1) (dl next q (w.getD i 0)) (by omega) h1
    rw [drop_getD w i 0 (by omega)]
    obtain ⟨x, hx'⟩ := Int.eq_ofNat_of_zero_le h0
    rw [hx'] at h1 h2 h3 e hx ⊢
    rw [Int.toNat_natCast] at h2
    simp only [rdL, rdN, hx', h2, w1 i (by omega), if_pos (show (i : Int) < (w.length : Int) by omega), if_pos (show 0 ≤ (i : Int) by omega), if_pos (show 0 ≤ (q : Int) by omega), if_pos (show (q : Int) < (next.length : Int) by omega), if_pos (show 0 ≤ (x : Int) by omega), if_pos h3]
    exact e
theorem det_After_ev {a : Int} {next : List (List Int)} (D : ROk a next) (a' s : Int) (mark : List Int) (w : List Int) (hw : ∀ x ∈ w, 0 ≤ x ∧ x < a) (hl : w.length ≤ 60) (q : Nat) (hq : q < next.length) : Ev (fun k => det_After.f k a' s next mark (q : Int) w) ((aft next q w : Nat) : Int) :=
  after_l0 D a' s mark w hw hl w.length 0 q (by omega) hq
def okB (n : Int) (l : List Int) : Bool := l.all (fun a => decide (0 ≤ a) && decide (a < n))
theorem okB_cons (n a : Int) (l : List Int) : okB n (a :: l) = (decide (0 ≤ a) && decide (a < n) && okB n l) := rfl
def mayS (n : Int) (l : List Int) : Int := if n < 1 ∨ n > 4 then 2 else if l.length > 60 then 1 else if okB n l = true then 0 else 2
theorem mayS_ok {n : Int} {l : List Int} (h : mayS n l = 0) : 1 ≤ n ∧ n ≤ 4 ∧ l.length ≤ 60 ∧ ∀ a ∈ l, 0 ≤ a ∧ a < n := by
  unfold mayS at h
  by_cases h1 : n < 1 ∨ n > 4
  · rw [if_pos h1] at h; omega
  · rw [if_neg h1] at h
    by_cases h2 : l.length > 60
    · rw [if_pos h2] at h; omega
    · rw [if_neg h2] at h
      by_cases h3 : okB n l = true
      · refine ⟨by omega, by omega, by omega, ?_⟩
        simpa [okB] using h3
      · rw [if_neg h3] at h; omega
theorem evermoreref1_May_l0 (n : Int) (l : List Int) (hl : l.length ≤ 60) : ∀ d i : Nat, i + d = l.length → Ev (fun k => evermoreref1_May.l0 k n l (i : Int)) (if okB n (l.drop i) = true then 0 else 2) := by
  intro d
  induction d with
  | zero =>
    intro i hi
    refine Ev.step (fun k => by rw [evermoreref1_May.l0]) ?_
    simp only [if_neg (show ¬ ((i : Int) < (l.length : Int)) by omega)]
    rw [List.drop_of_length_le (by omega)]
    exact Ev.now _
  | succ d ih =>
    intro i hi
    refine Ev.step (fun k => by rw [evermoreref1_May.l0]) ?_
    have h1 : i < l.length := by omega
    simp only [if_pos (show ((i : Int) < (l.length : Int)) by omega), if_pos (show (0 ≤ (i : Int)) by omega), rdn l i h1]
    rw [List.drop_eq_getElem_cons h1]
    have := ih (i + 1) (by omega)
    rw [show wrap64 ((i : Int) + 1) = ((i + 1 : Nat) : Int) from by rw [w64 (by omega) (by omega)]; omega]
    by_cases e : l[i] < 0
    · simp only [if_pos e]
      exact evc (Ev.now 2) (by rw [okB_cons, decide_eq_false (show ¬ (0 ≤ l[i]) by omega)]; rfl)
    · simp only [if_neg e]
      by_cases e' : l[i] ≥ n
      · simp only [if_pos e']
        exact evc (Ev.now 2) (by rw [okB_cons, decide_eq_false (show ¬ (l[i] < n) by omega), Bool.and_false]; rfl)
      · simp only [if_neg e']
        exact evc this (by rw [okB_cons, decide_eq_true (show (0 ≤ l[i]) by omega), decide_eq_true (show (l[i] < n) by omega), Bool.true_and, Bool.true_and])
theorem evermoreref1_May_ev (n : Int) (l : List Int) : Ev (fun k => evermoreref1_May.f k n l) (mayS n l) := by
  have key : ∀ b : Bool, (b = true ↔ (n < 1 ∨ n > 4)) → Ev (fun k => evermoreref1_May.j0 k n l b) (mayS n l) := by
    intro b hb
    refine Ev.step (fun k => by rw [evermoreref1_May.j0]) ?_
    unfold mayS
    by_cases h : b = true
    · simp only [if_pos h, if_pos (hb.1 h)]; exact Ev.now _
    · simp only [if_neg h, if_neg (fun x => h (hb.2 x))]
      by_cases h2 : l.length > 60
      · simp only [if_pos h2, if_pos (show (l.length : Int) > 60 by omega)]; exact Ev.now _
      · simp only [if_neg h2, if_neg (show ¬ (l.length : Int) > 60 by omega)]
        exact evermoreref1_May_l0 n l (by omega) l.length 0 (by omega)
  unfold evermoreref1_May.f
  by_cases h : n < 1
  · simp only [if_pos h]; exact key true (by simp; omega)
  · simp only [if_neg h]; exact key _ (by simp; omega)
theorem word_May_l0 (n : Int) (l : List Int) (hl : l.length ≤ 60) : ∀ d i : Nat, i + d = l.length → Ev (fun k => word_May.l0 k n l (l.length : Int) (i : Int)) (if okB n (l.drop i) = true then 0 else 2) := by
  intro d
  induction d with
  | zero =>
    intro i hi
    refine Ev.step (fun k => by rw [word_May.l0]) ?_
    simp only [if_neg (show ¬ ((i : Int) < (l.length : Int)) by omega)]
    rw [List.drop_of_length_le (by omega)]
    exact Ev.now _
  | succ d ih =>
    intro i hi
    refine Ev.step (fun k => by rw [word_May.l0]) ?_
    have h1 : i < l.length := by omega
    simp only [if_pos (show ((i : Int) < (l.length : Int)) by omega), if_pos (show (0 ≤ (i : Int)) by omega), rdn l i h1]
    rw [List.drop_eq_getElem_cons h1]
    have := ih (i + 1) (by omega)
    rw [show wrap64 ((i : Int) + 1) = ((i + 1 : Nat) : Int) from by rw [w64 (by omega) (by omega)]; omega]
    by_cases e : l[i] < 0
    · simp only [if_pos e]
      exact evc (Ev.now 2) (by rw [okB_cons, decide_eq_false (show ¬ (0 ≤ l[i]) by omega)]; rfl)
    · simp only [if_neg e]
      by_cases e' : l[i] ≥ n
      · simp only [if_pos e']
        exact evc (Ev.now 2) (by rw [okB_cons, decide_eq_false (show ¬ (l[i] < n) by omega), Bool.and_false]; rfl)
      · simp only [if_neg e']
        exact evc this (by rw [okB_cons, decide_eq_true (show (0 ≤ l[i]) by omega), decide_eq_true (show (l[i] < n) by omega), Bool.true_and, Bool.true_and])
theorem word_May_ev (n : Int) (l : List Int) : Ev (fun k => word_May.f k n l) (mayS n l) := by
  have key : ∀ b : Bool, (b = true ↔ (n < 1 ∨ n > 4)) → Ev (fun k => word_May.j0 k n l b) (mayS n l) := by
    intro b hb
    refine Ev.step (fun k => by rw [word_May.j0]) ?_
    unfold mayS
    by_cases h : b = true
    · simp only [if_pos h, if_pos (hb.1 h)]; exact Ev.now _
    · simp only [if_neg h, if_neg (fun x => h (hb.2 x))]
      by_cases h2 : l.length > 60
      · simp only [if_pos h2, if_pos (show (l.length : Int) > 60 by omega)]; exact Ev.now _
      · simp only [if_neg h2, if_neg (show ¬ (l.length : Int) > 60 by omega)]
        exact word_May_l0 n l (by omega) l.length 0 (by omega)
  unfold word_May.f
  by_cases h : n < 1
  · simp only [if_pos h]; exact key true (by simp; omega)
  · simp only [if_neg h]; exact key _ (by simp; omega)
/-- what is wrong with a lasso -/
def lasS (a : Int) (h u : List Int) : Int := if mayS a h = 0 then (if mayS a u = 0 then (if (u.length : Int) = 0 then 1 else 0) else mayS a u) else mayS a h
theorem word_Lasso_ev (a : Int) (h u : List Int) : Ev (fun k => word_Lasso.f k a h u) (lasS a h u) := by
  unfold word_Lasso.f lasS
  refine Ev.bind (word_May_ev a h) ?_
  by_cases h1 : mayS a h = 0
  · simp only [if_pos h1]
    refine Ev.bind (word_May_ev a u) ?_
    by_cases h2 : mayS a u = 0
    · simp only [if_pos h2]
      by_cases h3 : (u.length : Int) = 0
      · simp only [if_pos h3]; exact Ev.now _
      · simp only [if_neg h3]; exact Ev.now _
    · simp only [if_neg h2]; exact Ev.now _
  · simp only [if_neg h1]; exact Ev.now _
theorem ref_Lasso_ev (a : Int) (h u : List Int) : Ev (fun k => evermoreref1_Lasso.f k a h u) (lasS a h u) := by
  unfold evermoreref1_Lasso.f lasS
  refine Ev.bind (evermoreref1_May_ev a h) ?_
  by_cases h1 : mayS a h = 0
  · simp only [if_pos h1]
    refine Ev.bind (evermoreref1_May_ev a u) ?_
    by_cases h2 : mayS a u = 0
    · simp only [if_pos h2]
      by_cases h3 : (u.length : Int) = 0
      · simp only [if_pos h3]; exact Ev.now _
      · simp only [if_neg h3]; exact Ev.now _
    · simp only [if_neg h2]; exact Ev.now _
  · simp only [if_neg h1]; exact Ev.now _
/-! sets of states as bits -/
def MK (b : Bool × Bool × Bool × Bool) : Int := (if b.1 then 1 else 0) + (if b.2.1 then 2 else 0) + (if b.2.2.1 then 4 else 0) + (if b.2.2.2 then 8 else 0)
def hasb (l : List Nat) (b : Bool × Bool × Bool × Bool) : Bool × Bool × Bool × Bool := (b.1 || l.contains 0, b.2.1 || l.contains 1, b.2.2.1 || l.contains 2, b.2.2.2 || l.contains 3)
def om (l : List Nat) (m : Int) : Int := l.foldl (fun (m : Int) (q : Nat) => Go.bits .or .i64 m (shl .i64 1 (q : Int))) m
theorem or1 (b : Bool × Bool × Bool × Bool) (q : Nat) (hq : q < 4) : Go.bits .or .i64 (MK b) (shl .i64 1 (q : Int)) = MK (hasb [q] b) := by
  obtain ⟨b0, b1, b2, b3⟩ := b
  rcases (show q = 0 ∨ q = 1 ∨ q = 2 ∨ q = 3 by omega) with h | h | h | h <;> subst h <;> cases b0 <;> cases b1 <;> cases b2 <;> cases b3 <;> decide
theorem hasb_cons (q : Nat) (l : List Nat) (b : Bool × Bool × Bool × Bool) : hasb l (hasb [q] b) = hasb (q :: l) b := by
  unfold hasb; simp [Bool.or_assoc]
theorem om_eq : ∀ (l : List Nat) (b : Bool × Bool × Bool × Bool), (∀ q ∈ l, q < 4) → om l (MK b) = MK (hasb l b)
  | [], b, _ => by simp [om, hasb]
  | q :: l, b, h => by
    show om l (Go.bits .or .i64 (MK b) (shl .i64 1 (q : Int))) = _
    rw [or1 b q (h q List.mem_cons_self), om_eq l _ (fun p hp => h p (List.mem_cons_of_mem _ hp)), hasb_cons]
theorem om_same {l l' : List Nat} (hl : ∀ q ∈ l, q < 4) (hl' : ∀ q ∈ l', q < 4) (h : ∀ q, q ∈ l ↔ q ∈ l') : om l 0 = om l' 0 := by
  have e : ∀ q, l.contains q = l'.contains q := by
    intro q
    have := h q
    cases e1 : l.contains q with
    | true => have := this.1 (List.contains_iff_mem.1 e1); exact (List.contains_iff_mem.2 this).symm
    | false => cases e2 : l'.contains q with
      | false => rfl
      | true =>
        have := List.contains_iff_mem.2 (this.2 (List.contains_iff_mem.1 e2))
        rw [e1] at this; cases this
  have z : (0 : Int) = MK (false, false, false, false) := rfl
  rw [z, om_eq l _ hl, om_eq l' _ hl']
  unfold hasb
  rw [e 0, e 1, e 2, e 3]
theorem om_append (l l' : List Nat) (m : Int) : om (l ++ l') m = om l' (om l m) := by unfold om; rw [List.foldl_append]
theorem vis_rng {a : Int} {next : List (List Int)} (D : ROk a next) : ∀ (w : List Int) (q : Nat), q < next.length → (∀ x ∈ w, 0 ≤ x ∧ x < a) → ∀ p ∈ vis next q w, p < next.length
  | [], q, hq, _, p, hp => by cases hp
  | x :: w, q, hq, h, p, hp => by
    have h1 := (dl_rng D hq (h x List.mem_cons_self).1 (h x List.mem_cons_self).2).1
    rcases List.mem_cons.1 hp with rfl | hp
    · exact h1
    · exact vis_rng D w _ h1 (fun y hy => h y (List.mem_cons_of_mem _ hy)) p hp
theorem visN_rng {a : Int} {next : List (List Int)} (D : ROk a next) (w : List Int) (hw : ∀ x ∈ w, 0 ≤ x ∧ x < a) : ∀ (n q : Nat), q < next.length → ∀ p ∈ visN next w n q, p < next.length
  | 0, q, hq, p, hp => by cases hp
  | n + 1, q, hq, p, hp => by
    rw [visN, List.mem_append] at hp
    rcases hp with hp | hp
    · exact vis_rng D w q hq hw p hp
    · exact visN_rng D w hw n _ (aft_rng D w q hq hw) p hp
/-- a search -/
theorem idx_l0 (l : List Int) (x : Int) (hl : l.length ≤ 9223372036854775000) : ∀ d i : Nat, i + d = l.length → ∃ r : Int, Ev (fun k => slices_Index_int_int.l0 k l x (l.length : Int) (i : Int)) r ∧ decide (r ≥ 0) = (l.drop i).contains x := by
  intro d
  induction d with
  | zero =>
    intro i hi
    refine ⟨-1, Ev.step (fun k => by rw [slices_Index_int_int.l0]) ?_, ?_⟩
    · simp only [if_neg (show ¬ (i : Int) < (l.length : Int) by omega)]
      exact Ev.now _
    · rw [List.drop_of_length_le (by omega)]; rfl
  | succ d ih =>
    intro i hi
    rw [drop_getD l i 0 (by omega), List.contains_cons]
    by_cases h : x = l.getD i 0
    · refine ⟨(i : Int), Ev.step (fun k => by rw [slices_Index_int_int.l0]) ?_, ?_⟩
      · simp only [rdN, if_pos (show (i : Int) < (l.length : Int) by omega), if_pos (show 0 ≤ (i : Int) by omega), if_pos h]
        exact Ev.now _
      · rw [decide_eq_true (show (i : Int) ≥ 0 by omega), show (x == l.getD i 0) = true by rw [beq_iff_eq]; exact h]; rfl
    · obtain ⟨r, hr, he⟩ := ih (i + 1) (by omega)
      refine ⟨r, Ev.step (fun k => by rw [slices_Index_int_int.l0]) ?_, ?_⟩
      · simp only [rdN, w1 i (by omega), if_pos (show (i : Int) < (l.length : Int) by omega), if_pos (show 0 ≤ (i : Int) by omega), if_neg h]
        exact hr
      · rw [he, show (x == l.getD i 0) = false by rw [beq_eq_false_iff_ne]; exact h, Bool.false_or]
theorem contains_ev (l : List Int) (x : Int) (hl : l.length ≤ 9223372036854775000) : Ev (fun k => slices_Contains_int_int.f k l x) (l.contains x) := by
  obtain ⟨r, hr, he⟩ := idx_l0 l x hl l.length 0 (by omega)
  unfold slices_Contains_int_int.f slices_Index_int_int.f
  refine Ev.bind hr ?_
  exact evc (Ev.now _) (by rw [he, List.drop_zero])
theorem acc_l2 {a : Int} {next : List (List Int)} (D : ROk a next) (hn : next.length ≤ 4) (s : Int) (good : List Int) (hg : good.length ≤ 9223372036854775000) (hd u : List Int) (hu : ∀ x ∈ u, 0 ≤ x ∧ x < a) (hl : u.length ≤ 60) (f : Nat) (Z : Bool × Int) :
    ∀ d i q : Nat, ∀ m : Int, i + d = u.length → q < next.length →
      (Ev (fun k => if ((aft next q (u.drop i) : Nat) : Int) = (f : Int) then (slices_Contains_int_int.f k good (om (vis next q (u.drop i)) m)).bind fun t142 => (some (t142, (0 : Int))) else muller_Accepts.l1 k ((aft next q (u.drop i) : Nat) : Int) (om (vis next q (u.drop i)) m) (f : Int) a s next good hd u) Z) →
      Ev (fun k => muller_Accepts.l2 k (q : Int) m (f : Int) u (u.length : Int) (i : Int) a s next good hd u) Z := by
  intro d
  induction d with
  | zero =>
    intro i q m hi hq cont
    refine Ev.step (fun k => by rw [muller_Accepts.l2]) ?_
    simp only [if_neg (show ¬ (i : Int) < (u.length : Int) by omega)]
    rw [List.drop_of_length_le (by omega)] at cont
    exact cont
  | succ d ih =>
    intro i q m hi hq cont
    refine Ev.step (fun k => by rw [muller_Accepts.l2]) ?_
    obtain ⟨h0, hx⟩ := getD_word hu (show i < u.length by omega)
    obtain ⟨h1, h2, h3⟩ := dl_rng D hq h0 hx
    rw [drop_getD u i 0 (by omega)] at cont
    have e := ih (i + 1) (dl next q (u.getD i 0)) (Go.bits .or .i64 m (shl .i64 1 ((dl next q (u.getD i 0) : Nat) : Int))) (by omega) h1 cont
    obtain ⟨x, hx'⟩ := Int.eq_ofNat_of_zero_le h0
    rw [hx'] at h1 h2 h3 e hx
    rw [Int.toNat_natCast] at h2
    simp only [rdL, rdN, hx', h2, w1 i (by omega), if_pos (show (i : Int) < (u.length : Int) by omega), if_pos (show 0 ≤ (i : Int) by omega), if_pos (show 0 ≤ (q : Int) by omega), if_pos (show (q : Int) < (next.length : Int) by omega), if_pos (show 0 ≤ (x : Int) by omega), if_pos h3,
      if_pos (show 0 ≤ ((dl next q (x : Int) : Nat) : Int) by omega)]
    exact e
theorem acc_l1 {a : Int} {next : List (List Int)} (D : ROk a next) (hn : next.length ≤ 4) (s : Int) (good : List Int) (hg : good.length ≤ 9223372036854775000) (hd u : List Int) (hu : ∀ x ∈ u, 0 ≤ x ∧ x < a) (hl : u.length ≤ 60) (f : Nat) :
    ∀ c q : Nat, ∀ m : Int, 1 ≤ c → q < next.length → itr (fun q => aft next q u) c q = f → (∀ e, 1 ≤ e → e < c → itr (fun q => aft next q u) e q ≠ f) →
      Ev (fun k => muller_Accepts.l1 k (q : Int) m (f : Int) a s next good hd u) (good.contains (om (visN next u c q) m), 0) := by
  intro c
  induction c with
  | zero => intro q m h; omega
  | succ c ih =>
    intro q m _ hq hc hne
    refine Ev.step (fun k => by rw [muller_Accepts.l1]) ?_
    refine acc_l2 D hn s good hg hd u hu hl f _ u.length 0 q m (by omega) hq ?_
    rw [List.drop_zero]
    by_cases h0 : c = 0
    · subst h0
      have e : aft next q u = f := hc
      simp only [if_pos (show ((aft next q u : Nat) : Int) = (f : Int) by omega)]
      refine Ev.bind (contains_ev good _ hg) ?_
      exact evc (Ev.now _) (by rw [visN, visN, List.append_nil])
    · have e : aft next q u ≠ f := hne 1 (Nat.le_refl _) (by omega)
      simp only [if_neg (show ¬ ((aft next q u : Nat) : Int) = (f : Int) by omega)]
      refine evc (ih (aft next q u) _ (by omega) (aft_rng D u q hq hu) hc (fun e h1 h2 => hne (e + 1) (by omega) (by omega))) ?_
      rw [visN, om_append]
theorem acc_l0 {a : Int} {next : List (List Int)} (D : ROk a next) (hn : next.length ≤ 4) (s : Int) (good : List Int) (hg : good.length ≤ 9223372036854775000) (hd u : List Int) (hu : ∀ x ∈ u, 0 ≤ x ∧ x < a) (hl : u.length ≤ 60) (Z : Bool × Int) (q0 : Nat)
    (cont : Ev (fun k => muller_Accepts.l1 k ((itr (fun q => aft next q u) next.length q0 : Nat) : Int) 0 ((itr (fun q => aft next q u) next.length q0 : Nat) : Int) a s next good hd u) Z) :
    ∀ d i q : Nat, i + d = next.length → q < next.length → itr (fun q => aft next q u) d q = itr (fun q => aft next q u) next.length q0 → Ev (fun k => muller_Accepts.l0 k (q : Int) (next.length : Int) (i : Int) a s next good hd u a 0 next) Z := by
  intro d
  induction d with
  | zero =>
    intro i q hi hq he
    refine Ev.step (fun k => by rw [muller_Accepts.l0]) ?_
    simp only [if_neg (show ¬ (i : Int) < (next.length : Int) by omega)]
    rw [← he] at cont
    exact cont
  | succ d ih =>
    intro i q hi hq he
    refine Ev.step (fun k => by rw [muller_Accepts.l0]) ?_
    have := hn
    simp only [if_pos (show (i : Int) < (next.length : Int) by omega), w1 i (by omega)]
    refine Ev.bind (det_After_ev D a 0 [] u hu hl q hq) ?_
    exact ih (i + 1) _ (by omega) (aft_rng D u q hq hu) he
theorem rfind (a s : Int) (next : List (List Int)) (good : List Int) (hg : good.length ≤ 9223372036854775000) (x : Int) : ∀ d i : Nat, i + d = good.length → Ev (fun k => evermoreref34_Accepts.l3 k x (i : Int) a s next good) ((good.drop i).contains x) := by
  intro d
  induction d with
  | zero =>
    intro i hi
    refine Ev.step (fun k => by rw [evermoreref34_Accepts.l3]) ?_
    simp only [if_neg (show ¬ (i : Int) < (good.length : Int) by omega)]
    exact evc (Ev.now _) (by rw [List.drop_of_length_le (by omega)]; rfl)
  | succ d ih =>
    intro i hi
    refine Ev.step (fun k => by rw [evermoreref34_Accepts.l3]) ?_
    simp only [rdN, w1 i (by omega), if_pos (show (i : Int) < (good.length : Int) by omega), if_pos (show 0 ≤ (i : Int) by omega)]
    rw [drop_getD good i 0 (by omega), List.contains_cons]
    by_cases h : good.getD i 0 = x
    · simp only [if_pos h]
      exact evc (Ev.now _) (by rw [show (x == good.getD i 0) = true by rw [beq_iff_eq]; exact h.symm]; rfl)
    · simp only [if_neg h]
      exact evc (ih (i + 1) (by omega)) (by rw [show (x == good.getD i 0) = false by rw [beq_eq_false_iff_ne]; exact fun e => h e.symm, Bool.false_or])
theorem racc_l2 {a : Int} {next : List (List Int)} (D : ROk a next) (hn4 : next.length ≤ 4) (s : Int) (good : List Int) (hd u : List Int) (hu : ∀ x ∈ u, 0 ≤ x ∧ x < a) (hl : u.length ≤ 60) (n : Nat) (hn : n ≤ 20000) (Z : Bool) :
    ∀ d i q : Nat, ∀ m : Int, i + d = u.length → q < next.length →
      Ev (fun k => evermoreref34_Accepts.l1 k ((aft next q (u.drop i) : Nat) : Int) (om (vis next q (u.drop i)) m) ((n + 1 : Nat) : Int) a s next good hd u) Z →
      Ev (fun k => evermoreref34_Accepts.l2 k (q : Int) m (n : Int) (i : Int) a s next good hd u) Z := by
  intro d
  induction d with
  | zero =>
    intro i q m hi hq cont
    refine Ev.step (fun k => by rw [evermoreref34_Accepts.l2]) ?_
    simp only [if_neg (show ¬ (i : Int) < (u.length : Int) by omega), w1 n (by omega)]
    rw [List.drop_of_length_le (by omega)] at cont
    exact cont
  | succ d ih =>
    intro i q m hi hq cont
    refine Ev.step (fun k => by rw [evermoreref34_Accepts.l2]) ?_
    obtain ⟨h0, hx⟩ := getD_word hu (show i < u.length by omega)
    obtain ⟨h1, h2, h3⟩ := dl_rng D hq h0 hx
    rw [drop_getD u i 0 (by omega)] at cont
    have e := ih (i + 1) (dl next q (u.getD i 0)) (Go.bits .or .i64 m (shl .i64 1 ((dl next q (u.getD i 0) : Nat) : Int))) (by omega) h1 cont
    obtain ⟨x, hx'⟩ := Int.eq_ofNat_of_zero_le h0
    rw [hx'] at h1 h2 h3 e hx
    rw [Int.toNat_natCast] at h2
    simp only [rdL, rdN, hx', h2, w1 i (by omega), if_pos (show (i : Int) < (u.length : Int) by omega), if_pos (show 0 ≤ (i : Int) by omega), if_pos (show 0 ≤ (q : Int) by omega), if_pos (show (q : Int) < (next.length : Int) by omega), if_pos (show 0 ≤ (x : Int) by omega), if_pos h3,
      if_pos (show 0 ≤ ((dl next q (x : Int) : Nat) : Int) by omega)]
    exact e
theorem racc_l1b {a : Int} {next : List (List Int)} (D : ROk a next) (hn4 : next.length ≤ 4) (s : Int) (good : List Int) (hg : good.length ≤ 9223372036854775000) (hd u : List Int) (hu : ∀ x ∈ u, 0 ≤ x ∧ x < a) (hl : u.length ≤ 60) :
    ∀ d n q : Nat, ∀ m : Int, n + d = 2 * next.length → next.length < n → q < next.length → Ev (fun k => evermoreref34_Accepts.l1 k (q : Int) m (n : Int) a s next good hd u) (good.contains (om (visN next u d q) m)) := by
  intro d
  induction d with
  | zero =>
    intro n q m hn _ hq
    refine Ev.step (fun k => by rw [evermoreref34_Accepts.l1]) ?_
    have hw : wrap64 (2 * (next.length : Int)) = 2 * (next.length : Int) := by rw [w64 (by omega) (by omega)]
    simp only [hw, if_neg (show ¬ (n : Int) < 2 * (next.length : Int) by omega)]
    exact rfind a s next good hg _ good.length 0 (by omega)
  | succ d ih =>
    intro n q m hn hlt hq
    refine Ev.step (fun k => by rw [evermoreref34_Accepts.l1]) ?_
    have hw : wrap64 (2 * (next.length : Int)) = 2 * (next.length : Int) := by rw [w64 (by omega) (by omega)]
    simp only [hw, if_pos (show (n : Int) < 2 * (next.length : Int) by omega), if_neg (show ¬ (n : Int) = (next.length : Int) by omega)]
    refine Ev.step (fun k => by rw [evermoreref34_Accepts.j2]) ?_
    refine racc_l2 D hn4 s good hd u hu hl n (by omega) _ u.length 0 q m (by omega) hq ?_
    rw [List.drop_zero]
    refine evc (ih (n + 1) _ _ (by omega) (by omega) (aft_rng D u q hq hu)) ?_
    rw [visN, om_append]
theorem racc_l1 {a : Int} {next : List (List Int)} (D : ROk a next) (hn4 : next.length ≤ 4) (s : Int) (good : List Int) (hg : good.length ≤ 9223372036854775000) (hd u : List Int) (hu : ∀ x ∈ u, 0 ≤ x ∧ x < a) (hl : u.length ≤ 60) :
    ∀ d n q : Nat, ∀ m : Int, n + d = next.length → q < next.length → Ev (fun k => evermoreref34_Accepts.l1 k (q : Int) m (n : Int) a s next good hd u) (good.contains (om (visN next u next.length (itr (fun q => aft next q u) d q)) 0)) := by
  intro d
  induction d with
  | zero =>
    intro n q m hn hq
    refine Ev.step (fun k => by rw [evermoreref34_Accepts.l1]) ?_
    have hw : wrap64 (2 * (next.length : Int)) = 2 * (next.length : Int) := by rw [w64 (by omega) (by omega)]
    have h1 := D.n1
    simp only [hw, if_pos (show (n : Int) < 2 * (next.length : Int) by omega), if_pos (show (n : Int) = (next.length : Int) by omega)]
    refine Ev.step (fun k => by rw [evermoreref34_Accepts.j2]) ?_
    refine racc_l2 D hn4 s good hd u hu hl n (by omega) _ u.length 0 q 0 (by omega) hq ?_
    rw [List.drop_zero]
    refine evc (racc_l1b D hn4 s good hg hd u hu hl (next.length - 1) (n + 1) _ _ (by omega) (by omega) (aft_rng D u q hq hu)) ?_
    show _ = good.contains (om (visN next u next.length q) 0)
    obtain ⟨z, hz⟩ : ∃ z, next.length = z + 1 := ⟨next.length - 1, by omega⟩
    rw [hz, visN, om_append, Nat.add_sub_cancel]
  | succ d ih =>
    intro n q m hn hq
    refine Ev.step (fun k => by rw [evermoreref34_Accepts.l1]) ?_
    have hw : wrap64 (2 * (next.length : Int)) = 2 * (next.length : Int) := by rw [w64 (by omega) (by omega)]
    simp only [hw, if_pos (show (n : Int) < 2 * (next.length : Int) by omega), if_neg (show ¬ (n : Int) = (next.length : Int) by omega)]
    refine Ev.step (fun k => by rw [evermoreref34_Accepts.j2]) ?_
    refine racc_l2 D hn4 s good hd u hu hl n (by omega) _ u.length 0 q m (by omega) hq ?_
    rw [List.drop_zero]
    exact ih (n + 1) _ _ (by omega) (aft_rng D u q hq hu)
theorem racc_l0 {a : Int} {next : List (List Int)} (D : ROk a next) (s : Int) (good : List Int) (hd u : List Int) (hh : ∀ x ∈ hd, 0 ≤ x ∧ x < a) (hl : hd.length ≤ 60) (Z : Bool) :
    ∀ d i q : Nat, i + d = hd.length → q < next.length → Ev (fun k => evermoreref34_Accepts.l1 k ((aft next q (hd.drop i) : Nat) : Int) 0 0 a s next good hd u) Z → Ev (fun k => evermoreref34_Accepts.l0 k (q : Int) (i : Int) a s next good hd u) Z := by
  intro d
  induction d with
  | zero =>
    intro i q hi hq cont
    refine Ev.step (fun k => by rw [evermoreref34_Accepts.l0]) ?_
    simp only [if_neg (show ¬ (i : Int) < (hd.length : Int) by omega)]
    rw [List.drop_of_length_le (by omega)] at cont
    exact cont
  | succ d ih =>
    intro i q hi hq cont
    refine Ev.step (fun k => by rw [evermoreref34_Accepts.l0]) ?_
    obtain ⟨h0, hx⟩ := getD_word hh (show i < hd.length by omega)
    obtain ⟨h1, h2, h3⟩ := dl_rng D hq h0 hx
    rw [drop_getD hd i 0 (by omega)] at cont
    have e := ih (i + 1) (dl next q (hd.getD i 0)) (by omega) h1 cont
    obtain ⟨x, hx'⟩ := Int.eq_ofNat_of_zero_le h0
    rw [hx'] at h1 h2 h3 e hx
    rw [Int.toNat_natCast] at h2
    simp only [rdL, rdN, hx', h2, w1 i (by omega), if_pos (show (i : Int) < (hd.length : Int) by omega), if_pos (show 0 ≤ (i : Int) by omega), if_pos (show 0 ≤ (q : Int) by omega), if_pos (show (q : Int) < (next.length : Int) by omega), if_pos (show 0 ≤ (x : Int) by omega), if_pos h3]
    exact e
theorem law (a s : Int) (next : List (List Int)) (good : List Int) (hg : good.length ≤ 9223372036854775000) (h u : List Int) : Ev (fun k => evermorelaw_MullerAccepts.f k a s next good h u) true := by
  unfold evermorelaw_MullerAccepts.f muller_Check.f
  simp only [Option.bind_some]
  refine Ev.bind (chk_ev a s next good hg) ?_
  by_cases hc : muller_Check.v a s next good = 0
  · have U := chk_ok hc
    have D := U.r
    by_cases hl : lasS a h u = 0
    · obtain ⟨hm1, hm2⟩ : mayS a h = 0 ∧ mayS a u = 0 := by
        unfold lasS at hl
        by_cases h1 : mayS a h = 0
        · rw [if_pos h1] at hl
          by_cases h2 : mayS a u = 0
          · exact ⟨h1, h2⟩
          · rw [if_neg h2] at hl; exact absurd hl h2
        · rw [if_neg h1] at hl; exact absurd hl h1
      have o1 := mayS_ok hm1
      have o2 := mayS_ok hm2
      obtain ⟨q0, hq0⟩ := Int.eq_ofNat_of_zero_le U.s0
      have hs : q0 < next.length := by have := U.sn; omega
      have hq1 := aft_rng D h q0 hs o1.2.2.2
      obtain ⟨c0, c1, c2, c3⟩ := returns (fun q => aft next q u) next.length (fun q hq => aft_rng D u q hq o2.2.2.2) _ hq1
      obtain ⟨c, d1, d2, d3, d4⟩ := first_return _ _ c0 c1 c3
      have hx : itr (fun q => aft next q u) next.length (aft next q0 h) < next.length := by
        have : ∀ i, itr (fun q => aft next q u) i (aft next q0 h) < next.length := by
          intro i
          induction i with
          | zero => exact hq1
          | succ i ih => rw [itr_succ]; exact aft_rng D u _ ih o2.2.2.2
        exact this _
      have hA : Ev (fun k => muller_Accepts.f k a s next good h u) (good.contains (om (visN next u c (itr (fun q => aft next q u) next.length (aft next q0 h))) 0), 0) := by
        unfold muller_Accepts.f muller_Check.f
        simp only [Option.bind_some, if_pos hc]
        refine Ev.bind (word_Lasso_ev a h u) ?_
        simp only [if_pos hl]
        rw [hq0]
        refine Ev.bind (det_After_ev D a 0 [] h o1.2.2.2 o1.2.2.1 q0 hs) ?_
        exact acc_l0 D U.n4 _ good hg h u o2.2.2.2 o2.2.2.1 _ _ (acc_l1 D U.n4 _ good hg h u o2.2.2.2 o2.2.2.1 _ c _ 0 d1 hx d3 d4) next.length 0 _ (by omega) hq1 rfl
      have hB : Ev (fun k => evermoreref34_Accepts.f k a s next good h u) (good.contains (om (visN next u next.length (itr (fun q => aft next q u) next.length (aft next q0 h))) 0)) := by
        unfold evermoreref34_Accepts.f
        rw [hq0]
        refine racc_l0 D _ good h u o1.2.2.2 o1.2.2.1 _ h.length 0 q0 (by omega) hs ?_
        rw [List.drop_zero]
        exact racc_l1 D U.n4 _ good hg h u o2.2.2.2 o2.2.2.1 next.length 0 _ 0 (by omega) hq1
      refine Ev.bind hA ?_
      simp only [if_true, if_pos hc]
      refine Ev.bind (ref_Lasso_ev a h u) ?_
      simp only [if_pos hl]
      refine Ev.bind hB ?_
      refine evc (Ev.now _) ?_
      rw [om_same (fun q hq => by have := visN_rng D u o2.2.2.2 _ _ hx q hq; have := U.n4; omega) (fun q hq => by have := visN_rng D u o2.2.2.2 _ _ hx q hq; have := U.n4; omega) (visN_cycle next u _ c next.length d1 (by omega) d3)]
      simp
    · have hA : Ev (fun k => muller_Accepts.f k a s next good h u) (false, lasS a h u) := by
        unfold muller_Accepts.f muller_Check.f
        simp only [Option.bind_some, if_pos hc]
        refine Ev.bind (word_Lasso_ev a h u) ?_
        simp only [if_neg hl]
        exact Ev.now _
      refine Ev.bind hA ?_
      simp only [if_true, if_pos hc]
      refine Ev.bind (ref_Lasso_ev a h u) ?_
      simp only [if_neg hl, if_true]
      exact Ev.now _
  · have hA : Ev (fun k => muller_Accepts.f k a s next good h u) (false, muller_Check.v a s next good) := by
      unfold muller_Accepts.f muller_Check.f
      simp only [Option.bind_some, if_neg hc]
      exact Ev.now _
    refine Ev.bind hA ?_
    simp only [if_true, if_neg hc]
    exact Ev.now _
theorem MullerAccepts : evermorelaw_MullerAccepts.PureH := by
  intro a s next good h u hw _
  have hg := hw.2.2.2.2.1
  exact Ev.rounds (law a s next good (by omega) h u)

end Go.Proofs.Ytaaibckhpbmbeaa.Pure
