/- For every automaton the program's first word that leads all states to one is the reference's, or there is none for both. No conditions beyond the statement's. -/
import Derived.Test.YtaaibckhpbmbeaaPCodeSyncx5
import Derived.Test.YtaaibckhpbmbeaaQCodeSync
import Derived.Laws.BitsLemmas
namespace Go.Proofs.Ytaaibckhpbmbeaa.Pure
open Go.RowKit Go.Proofs.Ytaaibckhpbmbeaa.PCodeSync Go.Proofs.YtaaibckhpbmbeaaW.PrintWords Go.Proofs.YtaaibckhpbmbeaaW.PrintLast Go.Proofs.YtaaibckhpbmbeaaW.PrintMore Go.Proofs.YtaaibckhpbmbeaaW.PrintMap
set_option linter.unusedVariables false
set_option linter.unusedSimpArgs false
theorem w64 {n : Int} (h : -9223372036854775808 ≤ n) (h' : n ≤ 9223372036854775807) : wrap64 n = n := by unfold wrap64; omega
theorem rdn (l : List Int) (i : Nat) (h : i < l.length) : rd l (i : Int) = l[i] := by
  unfold rd; rw [Int.toNat_natCast, List.getD_eq_getElem?_getD, List.getElem?_eq_getElem h]; rfl
theorem rdOfn {α : Type} (d : α) (l : List α) (i : Nat) (h : i < l.length) : rdOf d l (i : Int) = l[i] := by
  unfold rdOf; rw [Int.toNat_natCast, List.getD_eq_getElem?_getD, List.getElem?_eq_getElem h]; rfl
theorem evc {α : Type} {g : Nat → Option α} {a b : α} (h : Ev g a) (e : a = b) : Ev g b := e ▸ h
theorem rdL (l : List (List Int)) (n : Nat) : rd_L1 l (n : Int) = l.getD n [] := by unfold rd_L1; rw [Int.toNat_natCast]
theorem rdN (l : List Int) (n : Nat) : rd l (n : Int) = l.getD n 0 := by unfold rd; rw [Int.toNat_natCast]
theorem w1 (i : Nat) (h : i ≤ 9223372036854775000) : wrap64 ((i : Int) + 1) = ((i + 1 : Nat) : Int) := by rw [w64 (by omega) (by omega)]; omega
theorem getD_mem {α : Type} (l : List α) (n : Nat) (d : α) (h : n < l.length) : l.getD n d ∈ l := by
  rw [List.getD_eq_getElem?_getD, List.getElem?_eq_getElem h]; exact List.getElem_mem h
theorem drop_getD {α : Type} (l : List α) (n : Nat) (d : α) (h : n < l.length) : l.drop n = l.getD n d :: l.drop (n + 1) := by
  rw [List.drop_eq_getElem_cons h, List.getD_eq_getElem?_getD, List.getElem?_eq_getElem h]; rfl
theorem chk3_l3 (a s : Int) (next : List (List Int)) (mark : List Int) (hl : mark.length ≤ 3000) : ∀ d i : Nat, i + d = mark.length → Ev (fun k => evermoreref3_Check.l3 k (mark.length : Int) (i : Int) a s next mark) (if (mark.drop i).any det_Check.badm = true then 2 else 0) := by
  intro d
  induction d with
  | zero =>
    intro i hi
    refine Ev.step (fun k => by rw [evermoreref3_Check.l3]) ?_
    simp only [if_neg (show ¬ (i : Int) < (mark.length : Int) by omega)]
    exact evc (Ev.now _) (by rw [List.drop_of_length_le (by omega)]; rfl)
  | succ d ih =>
    intro i hi
    refine Ev.step (fun k => by rw [evermoreref3_Check.l3]) ?_
    have := ih (i + 1) (by omega)
    rw [drop_getD mark i 0 (by omega), List.any_cons]
    simp only [rdN, if_pos (show (i : Int) < (mark.length : Int) by omega), if_pos (show 0 ≤ (i : Int) by omega), w1 i (by omega)]
    by_cases h0 : mark.getD i 0 = 0
    · have hb : det_Check.badm (mark.getD i 0) = false := by unfold det_Check.badm; rw [h0]; rfl
      simp only [if_pos h0]
      rw [hb, Bool.false_or]
      exact this
    · by_cases h1 : mark.getD i 0 = 1
      · have hb : det_Check.badm (mark.getD i 0) = false := by unfold det_Check.badm; rw [h1]; rfl
        simp only [if_neg h0, if_pos h1]
        rw [hb, Bool.false_or]
        exact this
      · have hb : det_Check.badm (mark.getD i 0) = true := by unfold det_Check.badm; rw [decide_eq_true h0, decide_eq_true h1]; rfl
        simp only [if_neg h0, if_neg h1]
        exact evc (Ev.now _) (by rw [hb, Bool.true_or]; rfl)
theorem chk3_l2 (a s : Int) (next : List (List Int)) (mark : List Int) (r : List Int) (q : Nat) (hq : q < next.length) (hr : next.getD q [] = r) (hra : (r.length : Int) = a) (ha : a ≤ 4) (Z : Int) (cont : Ev (fun k => evermoreref3_Check.l1 k (next.length : Int) ((q + 1 : Nat) : Int) a s next mark) Z) (hn : next.length ≤ 3000) :
    ∀ d i : Nat, i + d = r.length → Ev (fun k => evermoreref3_Check.l2 k (next.length : Int) (q : Int) (i : Int) a s next mark) (if (r.drop i).any (det_Check.bad next.length) = true then 2 else Z) := by
  intro d
  induction d with
  | zero =>
    intro i hi
    refine Ev.step (fun k => by rw [evermoreref3_Check.l2]) ?_
    simp only [if_neg (show ¬ (i : Int) < a by omega), w1 q (by omega)]
    exact evc cont (by rw [List.drop_of_length_le (by omega)]; rfl)
  | succ d ih =>
    intro i hi
    refine Ev.step (fun k => by rw [evermoreref3_Check.l2]) ?_
    have := ih (i + 1) (by omega)
    rw [drop_getD r i 0 (by omega), List.any_cons]
    simp only [rdN, rdL, hr, if_pos (show (i : Int) < a by omega), if_pos (show 0 ≤ (q : Int) by omega), if_pos (show (q : Int) < (next.length : Int) by omega), if_pos (show 0 ≤ (i : Int) by omega), if_pos (show (i : Int) < (r.length : Int) by omega), w1 i (by omega)]
    by_cases h0 : r.getD i 0 < 0
    · simp only [if_pos h0]
      exact evc (Ev.now _) (by unfold det_Check.bad; rw [decide_eq_true h0]; rfl)
    · by_cases h1 : r.getD i 0 ≥ (next.length : Int)
      · simp only [if_neg h0, if_pos h1]
        exact evc (Ev.now _) (by unfold det_Check.bad; rw [decide_eq_true h1, Bool.or_true]; rfl)
      · simp only [if_neg h0, if_neg h1]
        have hb : det_Check.bad (next.length : Int) (r.getD i 0) = false := by unfold det_Check.bad; rw [decide_eq_false h0, decide_eq_false h1]; rfl
        rw [hb, Bool.false_or]
        exact this
theorem chk3_l1 (a s : Int) (next : List (List Int)) (mark : List Int) (hr : ∀ r ∈ next, (r.length : Int) = a) (ha : a ≤ 4) (hn : next.length ≤ 3000) (hm : mark.length = next.length) :
    ∀ d i : Nat, i + d = next.length → Ev (fun k => evermoreref3_Check.l1 k (next.length : Int) (i : Int) a s next mark) (if (next.drop i).any (fun x => x.any (det_Check.bad next.length)) = true then 2 else if mark.any det_Check.badm = true then 2 else 0) := by
  intro d
  induction d with
  | zero =>
    intro i hi
    refine Ev.step (fun k => by rw [evermoreref3_Check.l1]) ?_
    simp only [if_neg (show ¬ (i : Int) < (next.length : Int) by omega)]
    have := chk3_l3 a s next mark (by omega) mark.length 0 (by omega)
    rw [hm] at this
    refine evc this ?_
    rw [List.drop_of_length_le (l := next) (by omega), List.drop_zero]
    simp
  | succ d ih =>
    intro i hi
    refine Ev.step (fun k => by rw [evermoreref3_Check.l1]) ?_
    simp only [if_pos (show (i : Int) < (next.length : Int) by omega)]
    have := chk3_l2 a s next mark (next.getD i []) i (by omega) rfl (hr _ (getD_mem _ _ _ (by omega))) ha _ (ih (i + 1) (by omega)) hn (next.getD i []).length 0 (by omega)
    refine evc this ?_
    rw [drop_getD next i [] (by omega), List.any_cons, List.drop_zero]
    cases (next.getD i []).any (det_Check.bad next.length) <;> simp
theorem chk3_l0 (a s : Int) (next : List (List Int)) (mark : List Int) (hn : next.length ≤ 3000) (Z : Int) (cont : (∀ r ∈ next, (r.length : Int) = a) → Ev (fun k => if s < 0 then evermoreref3_Check.j3 k (next.length : Int) true a s next mark else evermoreref3_Check.j3 k (next.length : Int) (decide (s ≥ (next.length : Int))) a s next mark) Z) :
    ∀ d i : Nat, i + d = next.length → (∀ j, j < i → ((next.getD j []).length : Int) = a) → Ev (fun k => evermoreref3_Check.l0 k (next.length : Int) (i : Int) a s next mark) (if (next.drop i).any (fun x => decide ((x.length : Int) ≠ a)) = true then 3 else Z) := by
  intro d
  induction d with
  | zero =>
    intro i hi hp
    refine Ev.step (fun k => by rw [evermoreref3_Check.l0]) ?_
    simp only [if_neg (show ¬ (i : Int) < (next.length : Int) by omega)]
    refine evc (cont (fun r hr => ?_)) (by rw [List.drop_of_length_le (by omega)]; rfl)
    obtain ⟨j, hj, rfl⟩ := List.getElem_of_mem hr
    have := hp j (by omega)
    rwa [List.getD_eq_getElem?_getD, List.getElem?_eq_getElem hj] at this
  | succ d ih =>
    intro i hi hp
    refine Ev.step (fun k => by rw [evermoreref3_Check.l0]) ?_
    rw [drop_getD next i [] (by omega), List.any_cons]
    simp only [rdL, if_pos (show (i : Int) < (next.length : Int) by omega), if_pos (show 0 ≤ (i : Int) by omega), w1 i (by omega)]
    by_cases h : ((next.getD i []).length : Int) = a
    · simp only [if_pos h]
      have := ih (i + 1) (by omega) (fun j hj => by
        by_cases e : j = i
        · rw [e]; exact h
        · exact hp j (by omega))
      rw [decide_eq_false (show ¬ ((next.getD i []).length : Int) ≠ a from fun x => x h), Bool.false_or]
      exact this
    · simp only [if_neg h]
      exact evc (Ev.now _) (by rw [decide_eq_true (show ((next.getD i []).length : Int) ≠ a from h), Bool.true_or]; rfl)
theorem chk3_ev (a s : Int) (next : List (List Int)) (mark : List Int) : Ev (fun k => evermoreref3_Check.f k a s next mark) (det_Check.v a s next mark) := by
  have j3 : ∀ b : Bool, (b = true ↔ det_Check.bad next.length s = true) → a ≤ 4 → next.length ≤ 3000 → mark.length = next.length → (∀ r ∈ next, (r.length : Int) = a) → Ev (fun k => evermoreref3_Check.j3 k (next.length : Int) b a s next mark) (if det_Check.bad next.length s = true ∨ next.any (fun x => x.any (det_Check.bad next.length)) = true then 2 else if mark.any det_Check.badm = true then 2 else 0) := by
    intro b hb ha hn hm hr
    refine Ev.step (fun k => by rw [evermoreref3_Check.j3]) ?_
    by_cases h : b = true
    · simp only [if_pos h]
      exact evc (Ev.now _) (by rw [if_pos (.inl (hb.1 h))])
    · simp only [if_neg h]
      have := chk3_l1 a s next mark hr ha hn hm next.length 0 (by omega)
      rw [List.drop_zero] at this
      refine evc this ?_
      have h' : ¬ det_Check.bad next.length s = true := fun x => h (hb.2 x)
      by_cases h2 : next.any (fun x => x.any (det_Check.bad next.length)) = true
      · rw [if_pos h2, if_pos (.inr h2)]
      · rw [if_neg h2, if_neg (fun x => Or.elim x h' h2)]
  have j1 : ∀ b : Bool, (b = true ↔ (next.length < 1 ∨ next.length > 3000)) → ¬ (a < 1 ∨ a > 4) → Ev (fun k => evermoreref3_Check.j1 k (next.length : Int) b a s next mark) (det_Check.v a s next mark) := by
    intro b hb h0
    refine Ev.step (fun k => by rw [evermoreref3_Check.j1]) ?_
    by_cases h : b = true
    · simp only [if_pos h]
      exact evc (Ev.now _) (by unfold det_Check.v; rw [if_neg h0, if_pos (hb.1 h)])
    · simp only [if_neg h]
      have hn : ¬ (next.length < 1 ∨ next.length > 3000) := fun x => h (hb.2 x)
      by_cases hm : mark.length = next.length
      · simp only [if_pos (show (mark.length : Int) = (next.length : Int) by omega)]
        have := chk3_l0 a s next mark (by omega) _ (fun hr => by
          by_cases hs : s < 0
          · simp only [if_pos hs]
            exact j3 true ⟨fun _ => by unfold det_Check.bad; rw [decide_eq_true hs]; rfl, fun _ => rfl⟩ (by omega) (by omega) hm hr
          · simp only [if_neg hs]
            exact j3 _ (by unfold det_Check.bad; rw [decide_eq_false hs, Bool.false_or]) (by omega) (by omega) hm hr) next.length 0 (by omega) (fun j hj => by omega)
        rw [List.drop_zero] at this
        refine evc this ?_
        unfold det_Check.v
        rw [if_neg h0, if_neg hn]
        by_cases h3 : next.any (fun x => decide ((x.length : Int) ≠ a)) = true
        · rw [if_pos h3, if_pos (.inr h3)]
        · rw [if_neg h3, if_neg (fun x => Or.elim x (fun x => x hm) h3)]
      · simp only [if_neg (show ¬ (mark.length : Int) = (next.length : Int) by omega)]
        exact evc (Ev.now _) (by unfold det_Check.v; rw [if_neg h0, if_neg hn, if_pos (.inl hm)])
  have j0 : ∀ b : Bool, (b = true ↔ (a < 1 ∨ a > 4)) → Ev (fun k => evermoreref3_Check.j0 k b a s next mark) (det_Check.v a s next mark) := by
    intro b hb
    refine Ev.step (fun k => by rw [evermoreref3_Check.j0]) ?_
    by_cases h : b = true
    · simp only [if_pos h]
      exact evc (Ev.now _) (by unfold det_Check.v; rw [if_pos (hb.1 h)])
    · simp only [if_neg h]
      have h0 : ¬ (a < 1 ∨ a > 4) := fun x => h (hb.2 x)
      by_cases h2 : (next.length : Int) < 1
      · simp only [if_pos h2]; exact j1 true ⟨fun _ => .inl (by omega), fun _ => rfl⟩ h0
      · simp only [if_neg h2]; exact j1 _ (by rw [decide_eq_true_iff]; omega) h0
  unfold evermoreref3_Check.f
  by_cases h : a < 1
  · simp only [if_pos h]; exact j0 true (by simp; omega)
  · simp only [if_neg h]; exact j0 _ (by simp; omega)
/-- what may be an automaton -/
structure DOk (a s : Int) (next : List (List Int)) (mark : List Int) : Prop where
  a1 : 1 ≤ a
  a4 : a ≤ 4
  n1 : 1 ≤ next.length
  nb : next.length ≤ 3000
  ml : mark.length = next.length
  rl : ∀ r ∈ next, (r.length : Int) = a
  s0 : 0 ≤ s
  sn : s < (next.length : Int)
  rb : ∀ r ∈ next, ∀ b ∈ r, 0 ≤ b ∧ b < (next.length : Int)
  mb : ∀ m ∈ mark, m = 0 ∨ m = 1
theorem dok_of {a s : Int} {next : List (List Int)} {mark : List Int} (h : det_Check.v a s next mark = 0) : DOk a s next mark := by
  unfold det_Check.v at h
  by_cases h1 : a < 1 ∨ a > 4
  · rw [if_pos h1] at h; omega
  rw [if_neg h1] at h
  by_cases h2 : next.length < 1 ∨ next.length > 3000
  · rw [if_pos h2] at h; omega
  rw [if_neg h2] at h
  by_cases h3 : mark.length ≠ next.length ∨ next.any (fun x => decide ((x.length : Int) ≠ a)) = true
  · rw [if_pos h3] at h; omega
  rw [if_neg h3] at h
  by_cases h4 : det_Check.bad next.length s = true ∨ next.any (fun x => x.any (det_Check.bad next.length)) = true
  · rw [if_pos h4] at h; omega
  rw [if_neg h4] at h
  by_cases h5 : mark.any det_Check.badm = true
  · rw [if_pos h5] at h; omega
  have hs : det_Check.bad next.length s = false := by simpa using fun x => h4 (.inl x)
  unfold det_Check.bad at hs
  rw [Bool.or_eq_false_iff] at hs
  have hs1 := of_decide_eq_false hs.1
  have hs2 := of_decide_eq_false hs.2
  refine ⟨by omega, by omega, by omega, by omega, Decidable.of_not_not fun x => h3 (.inl x), fun r hr => Decidable.of_not_not fun x => h3 (.inr (List.any_eq_true.2 ⟨r, hr, decide_eq_true x⟩)), by omega, by omega, fun r hr b hb => ?_, fun m hm => ?_⟩
  · have : ¬ det_Check.bad next.length b = true := fun x => h4 (.inr (List.any_eq_true.2 ⟨r, hr, List.any_eq_true.2 ⟨b, hb, x⟩⟩))
    unfold det_Check.bad at this
    simp at this
    omega
  · have : ¬ det_Check.badm m = true := fun x => h5 (List.any_eq_true.2 ⟨m, hm, x⟩)
    unfold det_Check.badm at this
    simp at this
    by_cases e : m = 0
    · exact .inl e
    · exact .inr (this e)
theorem mget_mput {κ ν : Type} [DecidableEq κ] (k k' : κ) (v d : ν) : ∀ m : List (κ × ν), mget (mput m k v) k' d = if k' = k then v else mget m k' d := by
  have key : ∀ (m : List (κ × ν)) (i : Nat), (mfind k' (mput m k v) i).map (·.2) = if k' = k then some v else (mfind k' m i).map (·.2) := by
    intro m
    induction m with
    | nil =>
      intro i
      unfold mput mfind mfind
      by_cases h : k' = k
      · rw [if_pos h.symm, if_pos h]; rfl
      · rw [if_neg (fun e => h e.symm), if_neg h]
    | cons p r ih =>
      intro i
      unfold mput
      by_cases h1 : p.1 = k
      · rw [if_pos h1]
        unfold mfind
        by_cases h : k' = k
        · rw [if_pos (h1.trans h.symm), if_pos h]; rfl
        · rw [if_neg (fun e => h (e.symm.trans h1)), if_neg h, if_neg (fun e => h (e.symm.trans h1))]
      · rw [if_neg h1]
        unfold mfind
        by_cases h : p.1 = k'
        · rw [if_pos h, if_pos h, if_neg (fun e => h1 (h.trans e))]
        · rw [if_neg h, if_neg h]
          exact ih (i + 1)
  intro m
  unfold mget
  rw [key m 0]
  split <;> rfl
theorem mget_nil {κ ν : Type} [DecidableEq κ] (k : κ) (d : ν) : mget ([] : List (κ × ν)) k d = d := rfl
theorem nodup_len (N : Nat) : ∀ l : List Nat, l.Nodup → (∀ x ∈ l, x < N) → l.length ≤ N := by
  induction N with
  | zero =>
    intro l _ h
    cases l with
    | nil => simp
    | cons a r => have := h a List.mem_cons_self; omega
  | succ N ih =>
    intro l hn h
    by_cases hm : N ∈ l
    · have h1 := ih (l.erase N) (hn.erase N) (fun x hx => by
        have h2 := (hn.mem_erase_iff).1 hx
        have := h x h2.2
        have := h2.1
        omega)
      have h2 := List.length_erase_of_mem hm
      have : 0 < l.length := List.length_pos_of_mem hm
      omega
    · have := ih l hn (fun x hx => by
        have h1 := h x hx
        have : x ≠ N := fun e => hm (e ▸ hx)
        omega)
      omega
theorem evermoreref1_Words_l0 (a b : List Int) (hl : a.length = b.length) (hb : a.length ≤ 9223372036854775000) : ∀ d i : Nat, i + d = a.length → Ev (fun k => evermoreref1_Words.l0 k a b (i : Int)) (decide (a.drop i = b.drop i)) := by
  intro d
  induction d with
  | zero =>
    intro i hi
    refine Ev.step (fun k => by rw [evermoreref1_Words.l0]) ?_
    simp only [if_neg (show ¬ ((i : Int) < (a.length : Int)) by omega)]
    rw [List.drop_of_length_le (by omega), List.drop_of_length_le (by omega)]
    simpa using Ev.now true
  | succ d ih =>
    intro i hi
    refine Ev.step (fun k => by rw [evermoreref1_Words.l0]) ?_
    have h1 : i < a.length := by omega
    have h2 : i < b.length := by omega
    simp only [if_pos (show ((i : Int) < (a.length : Int)) by omega), if_pos (show (0 ≤ (i : Int)) by omega), if_pos (show ((i : Int) < (b.length : Int)) by omega), rdn a i h1, rdn b i h2]
    rw [List.drop_eq_getElem_cons h1, List.drop_eq_getElem_cons h2]
    by_cases e : a[i] = b[i]
    · simp only [if_pos e]
      have := ih (i + 1) (by omega)
      rw [show wrap64 ((i : Int) + 1) = ((i + 1 : Nat) : Int) from by rw [w64 (by omega) (by omega)]; omega]
      exact evc this (by simp only [List.cons.injEq, e, true_and])
    · simp only [if_neg e]
      exact evc (Ev.now false) (by simp only [List.cons.injEq, e, false_and, decide_false])
theorem evermoreref1_Words_ev (a b : List Int) (hb : a.length ≤ 9223372036854775000) : Ev (fun k => evermoreref1_Words.f k a b) (decide (a = b)) := by
  unfold evermoreref1_Words.f
  by_cases h : a.length = b.length
  · simp only [if_pos (show ((a.length : Int) = (b.length : Int)) by omega)]
    exact evermoreref1_Words_l0 a b h hb a.length 0 (by omega)
  · simp only [if_neg (show ¬ ((a.length : Int) = (b.length : Int)) by omega)]
    have : a ≠ b := fun e => h (by rw [e])
    simpa [this] using Ev.now false
theorem wraps_i64 (n : Int) (h₀ : 0 ≤ n) (h₁ : n < 2 ^ 63) : IntKind.i64.wrap n = n := by rw [IntKind.wrap_i64]; omega
theorem and_nat (a b : Nat) (ha : a < 2 ^ 63) (hb : b < 2 ^ 63) : Go.bits .and .i64 (a : Int) (b : Int) = ((a &&& b : Nat) : Int) := by
  have := (Go.bits_nat .i64 63 (by decide) wraps_i64 a b ha hb)
  exact this.1
theorem or_nat (a b : Nat) (ha : a < 2 ^ 63) (hb : b < 2 ^ 63) : Go.bits .or .i64 (a : Int) (b : Int) = ((a ||| b : Nat) : Int) := by
  have := (Go.bits_nat .i64 63 (by decide) wraps_i64 a b ha hb)
  exact this.2
theorem shl1 (r : Nat) (hr : r < 62) : shl .i64 1 (r : Int) = ((2 ^ r : Nat) : Int) := by
  unfold shl
  rw [Int.toNat_natCast, show min r IntKind.i64.bits = r from Nat.min_eq_left (by simp [IntKind.bits]; omega), Int.one_mul]
  have h2 : (2 : Nat) ^ r < 2 ^ 63 := Nat.pow_lt_pow_right (by decide) (by omega)
  rw [wraps_i64 _ (by exact Int.le_of_lt (Int.pow_pos (by decide))) (by exact_mod_cast h2)]
  norm_cast
theorem shrn (x q : Nat) (hq : q < 62) : shr .i64 (x : Int) (q : Int) = ((x / 2 ^ q : Nat) : Int) := by
  unfold shr
  rw [Int.toNat_natCast, show min q IntKind.i64.bits = q from Nat.min_eq_left (by simp [IntKind.bits]; omega)]
  norm_cast
/-- the states that are in a set are one -/
def Sng (x : Nat) : Prop := x &&& (x - 1) = 0
theorem cnt_eq : ∀ n : Fin 9, ∀ x : Fin 256, 0 < x.val → x.val < 2 ^ n.val → ((x.val &&& (x.val - 1) = 0) ↔ ((List.range n.val).map fun q => x.val / 2 ^ q % 2).sum = 1) := by decide +kernel
theorem bit_some : ∀ n : Fin 9, ∀ x : Fin 256, x.val < 2 ^ n.val → (∀ q, q < n.val → x.val / 2 ^ q % 2 ≠ 1) → x.val = 0 := by decide +kernel
/-- what a letter makes of a set: the states from place n - d on -/
def ch (next : List (List Int)) (x l : Nat) : Nat → Nat → Nat
  | 0, acc => acc
  | d + 1, acc => ch next x l d (if x / 2 ^ (next.length - (d + 1)) % 2 = 1 then acc ||| 2 ^ ((next.getD (next.length - (d + 1)) []).getD l 0).toNat else acc)
def chd (next : List (List Int)) (x l : Nat) : Nat := ch next x l next.length 0
section
variable {a s : Int} {next : List (List Int)} {mark : List Int}
theorem cell_r (D : DOk a s next mark) {q l : Nat} (hq : q < next.length) (hl : (l : Int) < a) : 0 ≤ (next.getD q []).getD l 0 ∧ (next.getD q []).getD l 0 < (next.length : Int) := by
  have hm : next.getD q [] ∈ next := getD_mem _ _ _ hq
  have := D.rl _ hm
  exact D.rb _ hm _ (getD_mem _ _ _ (by omega))
theorem ch_lt (D : DOk a s next mark) (x : Nat) {l : Nat} (hl : (l : Int) < a) : ∀ d acc, d ≤ next.length → acc < 2 ^ next.length → ch next x l d acc < 2 ^ next.length
  | 0, acc, _, h => h
  | d + 1, acc, hd, h => by
    rw [ch]
    refine ch_lt D x hl d _ (by omega) ?_
    split
    · refine Nat.or_lt_two_pow h (Nat.pow_lt_pow_right (by decide) ?_)
      have := cell_r D (show next.length - (d + 1) < next.length by omega) hl
      omega
    · exact h
theorem ch_zero (x l : Nat) : ∀ d acc, d ≤ next.length → ch next x l d acc = 0 → acc = 0 ∧ ∀ q, next.length - d ≤ q → q < next.length → x / 2 ^ q % 2 ≠ 1
  | 0, acc, _, h => ⟨h, fun q h1 h2 => by omega⟩
  | d + 1, acc, hd, h => by
    rw [ch] at h
    obtain ⟨h1, h2⟩ := ch_zero x l d _ (by omega) h
    split at h1
    · exfalso
      rw [Nat.or_eq_zero_iff] at h1
      have := Nat.pow_pos (n := ((next.getD (next.length - (d + 1)) []).getD l 0).toNat) (show 0 < 2 by decide)
      omega
    · rename_i hb
      refine ⟨h1, fun q h3 h4 => ?_⟩
      by_cases e : q = next.length - (d + 1)
      · rw [e]; exact hb
      · exact h2 q (by omega) h4
theorem chd_ok (D : DOk a s next mark) (hn : next.length ≤ 8) {x l : Nat} (hx : x < 2 ^ next.length) (h0 : 0 < x) (hl : (l : Int) < a) : 0 < chd next x l ∧ chd next x l < 2 ^ next.length := by
  refine ⟨?_, ch_lt D x hl _ 0 (Nat.le_refl _) (Nat.pow_pos (by decide))⟩
  rcases Nat.eq_zero_or_pos (chd next x l) with h | h
  · exfalso
    obtain ⟨_, h2⟩ := ch_zero x l _ 0 (Nat.le_refl _) h
    have h8 : 2 ^ next.length ≤ 2 ^ 8 := Nat.pow_le_pow_right (by decide) hn
    have := bit_some ⟨next.length, by omega⟩ ⟨x, by omega⟩ hx (fun q hq => h2 q (by omega) hq)
    have h3 : x = 0 := this
    omega
  · exact h
end
theorem bit_ev (x q : Nat) (hq : q < 62) (hx : x < 256) : Go.bits .and .i64 (shr .i64 (x : Int) (q : Int)) 1 = ((x / 2 ^ q % 2 : Nat) : Int) := by
  rw [shrn x q hq, show (1 : Int) = ((1 : Nat) : Int) from rfl, and_nat _ 1 (by have := Nat.div_le_self x (2 ^ q); omega) (by decide), Nat.and_one_is_mod]
def MapInv (M : List (Int × Int)) (T : List Nat) : Prop := ∀ x : Nat, mget M (x : Int) 0 = if x ∈ T then 1 else 0
theorem map_add {M : List (Int × Int)} {T : List Nat} (y : Nat) (h : MapInv M T) : MapInv (mput M (y : Int) 1) (T ++ [y]) := by
  intro x
  rw [mget_mput]
  by_cases e : (x : Int) = (y : Int)
  · rw [if_pos e, if_pos]
    have : x = y := by omega
    simp [this]
  · rw [if_neg e, h x]
    have : x ≠ y := fun h => e (by rw [h])
    simp [this]
def SeenInv (full : Nat) (S : List Bool) (T : List Nat) : Prop := S.length = 256 ∧ ∀ x : Nat, x < 256 → S.getD x false = decide (x = full ∨ x ∈ T)
theorem seen_add {full : Nat} {S : List Bool} {T : List Nat} (y : Nat) (hy : y < 256) (h : SeenInv full S T) : SeenInv full (S.set y true) (T ++ [y]) := by
  refine ⟨by rw [List.length_set]; exact h.1, fun x hx => ?_⟩
  have hl := h.1
  rw [List.getD_eq_getElem?_getD, List.getElem?_set]
  by_cases e : y = x
  · subst e
    rw [if_pos rfl, if_pos (by omega), decide_eq_true (.inr (by simp))]
    rfl
  · rw [if_neg e, ← List.getD_eq_getElem?_getD, h.2 x hx]
    have : x ≠ y := fun h => e h.symm
    simp [this]
theorem seen_full {S : List Bool} {T : List Nat} (y : Nat) (h : SeenInv y S T) : SeenInv y S (T ++ [y]) := by
  refine ⟨h.1, fun x hx => ?_⟩
  rw [h.2 x hx]
  by_cases e : x = y
  · simp [e]
  · simp [e]
abbrev Fl := List (Bool × Nat × List Int)
def toS (f : Bool × Nat × List Int) : S105 := ⟨(f.2.1 : Int), f.2.2⟩
/-- all letters' sets of an element, as they are queued -/
def js (next : List (List Int)) (L full x : Nat) (w : List Int) : Nat → Fl → List Nat → Fl × List Nat
  | 0, F, T => (F, T)
  | d + 1, F, T => if chd next x (L - (d + 1)) ∈ T then js next L full x w d F T else js next L full x w d (F ++ [(decide (chd next x (L - (d + 1)) = full), chd next x (L - (d + 1)), w ++ [((L - (d + 1) : Nat) : Int)])]) (T ++ [chd next x (L - (d + 1))])
section
variable {a s : Int} {next : List (List Int)} {mark : List Int}
theorem p_l2 (D : DOk a s next mark) (hn : next.length ≤ 8) (F : List S105) (x l : Nat) (w : List Int) (M : List (Int × Int)) (hx : x < 256) (hl : (l : Int) < a) (Z : List Int × Bool × Int) :
    (∀ y, y = chd next x l → Ev (fun k => if (mget M (y : Int) 0) = 0 then ((slices_Clone_int_int.f w).bind fun t115 => (if t115.length < 17592186044416 then (if F.length < 4398046511104 then (code_Sync.l1 k (F ++ [(⟨(y : Int), (t115 ++ [(l : Int)])⟩ : S105)]) a (wrap64 ((l : Int) + 1)) a s next mark (mput M (y : Int) 1) (x : Int) w) else (none)) else (none))) else (code_Sync.l1 k F a (wrap64 ((l : Int) + 1)) a s next mark M (x : Int) w)) Z) →
    ∀ d acc : Nat, d ≤ next.length → acc < 256 → ch next x l d acc = chd next x l → Ev (fun k => code_Sync.l2 k F (l : Int) (acc : Int) a (l : Int) next (next.length : Int) ((next.length - d : Nat) : Int) a s next mark M (x : Int) w) Z := by
  intro cont d
  induction d with
  | zero =>
    intro acc hd ha he
    refine Ev.step (fun k => by rw [code_Sync.l2]) ?_
    simp only [if_neg (show ¬ ((next.length - 0 : Nat) : Int) < (next.length : Int) by omega)]
    exact cont acc he
  | succ d ih =>
    intro acc hd ha he
    refine Ev.step (fun k => by rw [code_Sync.l2]) ?_
    obtain ⟨q, hq⟩ : ∃ q, q = next.length - (d + 1) := ⟨_, rfl⟩
    have hql : q < next.length := by omega
    have hc := cell_r D hql hl
    have hrl := D.rl _ (getD_mem next q [] hql)
    obtain ⟨r, hr⟩ := Int.eq_ofNat_of_zero_le hc.1
    have wq : wrap64 ((q : Int) + 1) = ((next.length - d : Nat) : Int) := by rw [w1 q (by omega)]; omega
    rw [ch, ← hq, hr, Int.toNat_natCast] at he
    rw [← hq]
    have hb := bit_ev x q (by omega) hx
    rw [hr] at hc
    simp only [if_pos (show (q : Int) < (next.length : Int) by omega), if_pos (show 0 ≤ (q : Int) by omega), hb, rdL, rdN, hr, wq]
    by_cases hbit : x / 2 ^ q % 2 = 1
    · rw [if_pos hbit] at he
      simp only [hbit, if_pos (show ((1 : Nat) : Int) = 1 from rfl), if_pos (show 0 ≤ (l : Int) by omega), if_pos (show (l : Int) < ((next.getD q []).length : Int) by omega), if_pos (show 0 ≤ (r : Int) by omega)]
      have hp : (2 : Nat) ^ r < 2 ^ 8 := Nat.pow_lt_pow_right (by decide) (by omega)
      rw [shl1 r (by omega), or_nat acc (2 ^ r) (by omega) (by omega)]
      exact ih _ (by omega) (Nat.or_lt_two_pow (n := 8) (by omega) (by omega)) he
    · rw [if_neg hbit] at he
      have h0 : x / 2 ^ q % 2 = 0 := by omega
      simp only [h0, if_neg (show ¬ ((0 : Nat) : Int) = 1 by decide)]
      exact ih _ (by omega) ha he
end
section
variable {a s : Int} {next : List (List Int)} {mark : List Int}
theorem p_l1 (D : DOk a s next mark) (hn : next.length ≤ 8) (full x : Nat) (w : List Int) (hx : x < 256) (hw : w.length ≤ 1000) (Z : List Int × Bool × Int) :
    ∀ (d : Nat) (F : Fl) (T : List Nat) (M : List (Int × Int)), d ≤ a.toNat → 0 < F.length → F.length + d ≤ 2000 → MapInv M T →
      (∀ M', MapInv M' (js next a.toNat full x w d F T).2 → Ev (fun k => code_Sync.l0 k (((js next a.toNat full x w d F T).1.drop 1).map toS) a s next mark M') Z) →
      Ev (fun k => code_Sync.l1 k (F.map toS) a ((a.toNat - d : Nat) : Int) a s next mark M (x : Int) w) Z := by
  intro d
  have ha1 := D.a1
  have ha4 := D.a4
  induction d with
  | zero =>
    intro F T M hd hF hl hM cont
    refine Ev.step (fun k => by rw [code_Sync.l1]) ?_
    simp only [if_neg (show ¬ ((a.toNat - 0 : Nat) : Int) < a by omega), if_pos (show 1 ≤ ((F.map toS).length : Int) by rw [List.length_map]; omega)]
    have := cont M hM
    rw [js, List.map_drop] at this
    exact this
  | succ d ih =>
    intro F T M hd hF hl hM cont
    refine Ev.step (fun k => by rw [code_Sync.l1]) ?_
    obtain ⟨l, hl0⟩ : ∃ l, l = a.toNat - (d + 1) := ⟨_, rfl⟩
    rw [← hl0]
    have wl : wrap64 ((l : Int) + 1) = ((a.toNat - d : Nat) : Int) := by rw [w1 l (by omega)]; omega
    simp only [if_pos (show (l : Int) < a by omega)]
    have h0 : ((next.length - next.length : Nat) : Int) = 0 := by omega
    have hcell : 0 < 2 := by decide
    have := p_l2 D hn (F.map toS) x l w M hx (by omega) Z (fun y hy => by
      rw [wl]
      rw [js, ← hl0, ← hy] at cont
      simp only [hM y]
      by_cases hin : y ∈ T
      · rw [if_pos hin] at cont
        simp only [if_pos hin, if_neg (show ¬ (1 : Int) = 0 by decide)]
        exact ih F T M (by omega) hF (by omega) hM cont
      · rw [if_neg hin] at cont
        simp only [if_neg hin, if_true, slices_Clone_int_int.f, if_pos (show w.length < 17592186044416 by omega), Option.bind_some, if_pos (show (F.map toS).length < 4398046511104 by rw [List.length_map]; omega)]
        have e1 : F.map toS ++ [(⟨(y : Int), w ++ [(l : Int)]⟩ : S105)] = (F ++ [(decide (y = full), y, w ++ [(l : Int)])]).map toS := by simp [toS]
        rw [e1]
        exact ih _ _ _ (by omega) (by rw [List.length_append]; omega) (by rw [List.length_append, List.length_singleton]; omega) (map_add y hM) cont) next.length 0 (Nat.le_refl _) (by decide) rfl
    rw [h0] at this
    exact this
/-- what the reference's list has more -/
def rem (F : Fl) : List (Nat × List Int) := (F.filter (fun f => !f.1)).map (·.2)
theorem rem_app (F G : Fl) : rem (F ++ G) = rem F ++ rem G := by simp [rem]
theorem r_l3 (D : DOk a s next mark) (hn : next.length ≤ 8) (S : List Bool) (ps : List Int) (pw : List (List Int)) (i x l : Nat) (hi : i < ps.length) (hpx : ps.getD i 0 = (x : Int)) (hx : x < 256) (hl : (l : Int) < a) (Z : List Int × Bool) :
    (∀ y, y = chd next x l → Ev (fun k => if 0 ≤ (y : Int) then (if (y : Int) < (S.length : Int) then (if rdOf false S (y : Int) = true then (evermoreref24_Sync.l2 k S ps pw (i : Int) (wrap64 ((l : Int) + 1)) a s next mark) else ((some (([] : List Int) : List Int)).bind fun y153 => (if 0 ≤ (i : Int) then (if (i : Int) < (pw.length : Int) then (if y153.length + (rd_L1 pw (i : Int)).length < 17592186044416 then ((some (y153 ++ (rd_L1 pw (i : Int)) : List Int)).bind fun y157 => (if y157.length < 17592186044416 then (if ps.length < 17592186044416 then (if pw.length < 5864062014805 then (evermoreref24_Sync.l2 k (S.set ((y : Int) : Int).toNat true) (ps ++ [(y : Int)]) (pw ++ [(y157 ++ [(l : Int)])]) (i : Int) (wrap64 ((l : Int) + 1)) a s next mark) else (none)) else (none)) else (none))) else (none)) else (none)) else (none)))) else (none)) else (none)) Z) →
    ∀ d acc : Nat, d ≤ next.length → acc < 256 → ch next x l d acc = chd next x l → Ev (fun k => evermoreref24_Sync.l3 k S ps pw (i : Int) (l : Int) (acc : Int) ((next.length - d : Nat) : Int) a s next mark) Z := by
  intro cont d
  induction d with
  | zero =>
    intro acc hd ha he
    refine Ev.step (fun k => by rw [evermoreref24_Sync.l3]) ?_
    simp only [if_neg (show ¬ ((next.length - 0 : Nat) : Int) < (next.length : Int) by omega)]
    exact cont acc he
  | succ d ih =>
    intro acc hd ha he
    refine Ev.step (fun k => by rw [evermoreref24_Sync.l3]) ?_
    obtain ⟨q, hq⟩ : ∃ q, q = next.length - (d + 1) := ⟨_, rfl⟩
    have hql : q < next.length := by omega
    have hc := cell_r D hql hl
    have hrl := D.rl _ (getD_mem next q [] hql)
    obtain ⟨r, hr⟩ := Int.eq_ofNat_of_zero_le hc.1
    have wq : wrap64 ((q : Int) + 1) = ((next.length - d : Nat) : Int) := by rw [w1 q (by omega)]; omega
    rw [ch, ← hq, hr, Int.toNat_natCast] at he
    rw [← hq]
    have hb := bit_ev x q (by omega) hx
    rw [hr] at hc
    simp only [if_pos (show (q : Int) < (next.length : Int) by omega), if_pos (show 0 ≤ (i : Int) by omega), if_pos (show (i : Int) < (ps.length : Int) by omega), if_pos (show 0 ≤ (q : Int) by omega), rdN ps i, hpx, hb, rdL, rdN, hr, wq]
    by_cases hbit : x / 2 ^ q % 2 = 1
    · rw [if_pos hbit] at he
      simp only [hbit, if_pos (show ((1 : Nat) : Int) = 1 from rfl), if_pos (show 0 ≤ (l : Int) by omega), if_pos (show (l : Int) < ((next.getD q []).length : Int) by omega), if_pos (show 0 ≤ (r : Int) by omega)]
      have hp : (2 : Nat) ^ r < 2 ^ 8 := Nat.pow_lt_pow_right (by decide) (by omega)
      rw [shl1 r (by omega), or_nat acc (2 ^ r) (by omega) (by omega)]
      exact ih _ (by omega) (Nat.or_lt_two_pow (n := 8) (by omega) (by omega)) he
    · rw [if_neg hbit] at he
      have h0 : x / 2 ^ q % 2 = 0 := by omega
      simp only [h0, if_neg (show ¬ ((0 : Nat) : Int) = 1 by decide)]
      exact ih _ (by omega) ha he
def sets (P : List (Nat × List Int)) : List Int := P.map (fun p => (p.1 : Int))
def wrds (P : List (Nat × List Int)) : List (List Int) := P.map (·.2)
theorem r_l2 (D : DOk a s next mark) (hn : next.length ≤ 8) (full x : Nat) (w : List Int) (hx : x < 256) (hx2 : x < 2 ^ next.length) (hx0 : 0 < x) (hw : w.length ≤ 1000) (Pre : List (Nat × List Int)) (i : Nat) (hi : i = Pre.length) (Z : List Int × Bool) :
    ∀ (d : Nat) (G F : Fl) (T : List Nat) (S : List Bool), F = (false, x, w) :: G → d ≤ a.toNat → (Pre ++ rem F).length + d ≤ 2000 → SeenInv full S T →
      (∀ S', SeenInv full S' (js next a.toNat full x w d F T).2 → Ev (fun k => evermoreref24_Sync.l0 k S' (sets (Pre ++ rem (js next a.toNat full x w d F T).1)) (wrds (Pre ++ rem (js next a.toNat full x w d F T).1)) ((i + 1 : Nat) : Int) a s next mark) Z) →
      Ev (fun k => evermoreref24_Sync.l2 k S (sets (Pre ++ rem F)) (wrds (Pre ++ rem F)) (i : Int) ((a.toNat - d : Nat) : Int) a s next mark) Z := by
  intro d
  have ha1 := D.a1
  have ha4 := D.a4
  induction d with
  | zero =>
    intro G F T S hF hd hl hM cont
    refine Ev.step (fun k => by rw [evermoreref24_Sync.l2]) ?_
    have hil : i ≤ 2000 := by rw [List.length_append] at hl; omega
    simp only [if_neg (show ¬ ((a.toNat - 0 : Nat) : Int) < a by omega), w1 i (by omega)]
    have := cont S hM
    rw [js] at this
    exact this
  | succ d ih =>
    intro G F T S hF hd hl hM cont
    refine Ev.step (fun k => by rw [evermoreref24_Sync.l2]) ?_
    obtain ⟨l, hl0⟩ : ∃ l, l = a.toNat - (d + 1) := ⟨_, rfl⟩
    rw [← hl0]
    have wl : wrap64 ((l : Int) + 1) = ((a.toNat - d : Nat) : Int) := by rw [w1 l (by omega)]; omega
    simp only [if_pos (show (l : Int) < a by omega)]
    have h0 : ((next.length - next.length : Nat) : Int) = 0 := by omega
    have hrem : rem F = (x, w) :: rem G := by rw [hF]; rfl
    have hPl : (Pre ++ rem F).length = i + 1 + (rem G).length := by rw [hrem, List.length_append, List.length_cons, hi]; omega
    have hgi : (Pre ++ rem F).getD i (0, []) = (x, w) := by rw [hrem, hi, List.getD_eq_getElem?_getD, List.getElem?_append_right (Nat.le_refl _), Nat.sub_self]; rfl
    have hs1 : (sets (Pre ++ rem F)).length = (Pre ++ rem F).length := by unfold sets; rw [List.length_map]
    have hs2 : (wrds (Pre ++ rem F)).length = (Pre ++ rem F).length := by unfold wrds; rw [List.length_map]
    have hg2 : (Pre ++ rem F)[i]? = some (x, w) := by
      rw [List.getElem?_eq_getElem (by omega)]
      rw [List.getD_eq_getElem?_getD, List.getElem?_eq_getElem (by omega)] at hgi
      simpa using hgi
    have hsx : (sets (Pre ++ rem F)).getD i 0 = (x : Int) := by unfold sets; rw [List.getD_eq_getElem?_getD, List.getElem?_map, hg2]; rfl
    have hwx : (wrds (Pre ++ rem F)).getD i [] = w := by unfold wrds; rw [List.getD_eq_getElem?_getD, List.getElem?_map, hg2]; rfl
    have := r_l3 D hn S (sets (Pre ++ rem F)) (wrds (Pre ++ rem F)) i x l (by omega) hsx hx (by omega) Z (fun y hy => by
      have hy2 := chd_ok D hn hx2 hx0 (show (l : Int) < a by omega)
      rw [← hy] at hy2
      have h8 : 2 ^ next.length ≤ 2 ^ 8 := Nat.pow_le_pow_right (by decide) hn
      have hy256 : y < 256 := by omega
      have hSl := hM.1
      have hsd : rdOf false S (y : Int) = decide (y = full ∨ y ∈ T) := by unfold rdOf; rw [Int.toNat_natCast]; exact hM.2 y hy256
      rw [wl]
      rw [js, ← hl0, ← hy] at cont
      simp only [if_pos (show 0 ≤ (y : Int) by omega), if_pos (show (y : Int) < (S.length : Int) by omega), hsd]
      by_cases hin : y ∈ T
      · rw [if_pos hin] at cont
        simp only [decide_eq_true (show y = full ∨ y ∈ T from .inr hin), if_true]
        exact ih G F T S hF (by omega) (by omega) hM cont
      · rw [if_neg hin] at cont
        by_cases hf : y = full
        · simp only [decide_eq_true (show y = full ∨ y ∈ T from .inl hf), if_true]
          have er : rem (F ++ [(decide (y = full), y, w ++ [(l : Int)])]) = rem F := by rw [rem_app, decide_eq_true hf]; simp [rem]
          have := ih (G ++ [(decide (y = full), y, w ++ [(l : Int)])]) (F ++ [(decide (y = full), y, w ++ [(l : Int)])]) (T ++ [y]) S (by rw [hF]; rfl) (by omega) (by rw [er]; omega) (by have h2 := seen_full full hM; rw [hf]; exact h2) cont
          rw [er] at this
          exact this
        · have hno : ¬ (y = full ∨ y ∈ T) := fun h => Or.elim h hf hin
          have er : rem (F ++ [(decide (y = full), y, w ++ [(l : Int)])]) = rem F ++ [(y, w ++ [(l : Int)])] := by rw [rem_app, decide_eq_false hf]; rfl
          simp only [decide_eq_false hno, if_neg (show ¬ (false = true) by decide), Option.bind_some, rdL, hwx, List.nil_append, List.length_nil, Nat.zero_add, if_pos (show 0 ≤ (i : Int) by omega), if_pos (show (i : Int) < ((wrds (Pre ++ rem F)).length : Int) by omega), if_pos (show w.length < 17592186044416 by omega), if_pos (show (sets (Pre ++ rem F)).length < 17592186044416 by omega), if_pos (show (wrds (Pre ++ rem F)).length < 5864062014805 by omega), Int.toNat_natCast]
          have := ih (G ++ [(decide (y = full), y, w ++ [(l : Int)])]) (F ++ [(decide (y = full), y, w ++ [(l : Int)])]) (T ++ [y]) (S.set y true) (by rw [hF]; rfl) (by omega) (by rw [er, ← List.append_assoc, List.length_append, List.length_singleton]; omega) (seen_add y hy256 hM) cont
          rw [er, ← List.append_assoc] at this
          have e3 : sets (Pre ++ rem F ++ [(y, w ++ [(l : Int)])]) = sets (Pre ++ rem F) ++ [(y : Int)] := by simp [sets]
          have e4 : wrds (Pre ++ rem F ++ [(y, w ++ [(l : Int)])]) = wrds (Pre ++ rem F) ++ [w ++ [(l : Int)]] := by simp [wrds]
          rw [e3, e4] at this
          exact this) next.length 0 (Nat.le_refl _) (by decide) rfl
    rw [h0] at this
    exact this
end
section
variable {a s : Int} {next : List (List Int)} {mark : List Int}
def csum (x q : Nat) : Nat := ((List.range q).map fun q => x / 2 ^ q % 2).sum
theorem csum_succ (x q : Nat) : csum x (q + 1) = csum x q + x / 2 ^ q % 2 := by unfold csum; rw [List.range_succ, List.map_append, List.sum_append]; simp
theorem csum_le (x : Nat) : ∀ q, csum x q ≤ q
  | 0 => by simp [csum]
  | q + 1 => by have := csum_le x q; rw [csum_succ]; omega
theorem r_l1 (hn : next.length ≤ 8) (S : List Bool) (ps : List Int) (pw : List (List Int)) (i x : Nat) (w : List Int) (hi : i < ps.length) (hw : pw.length = ps.length) (hpx : ps.getD i 0 = (x : Int)) (hpw : pw.getD i [] = w) (hx : x < 256) (Z : List Int × Bool)
    (h : if csum x next.length = 1 then Z = (w, true) else Ev (fun k => evermoreref24_Sync.l2 k S ps pw (i : Int) 0 a s next mark) Z) :
    ∀ d q : Nat, q + d = next.length → Ev (fun k => evermoreref24_Sync.l1 k S ps pw (i : Int) ((csum x q : Nat) : Int) (q : Int) a s next mark) Z := by
  intro d
  induction d with
  | zero =>
    intro q hq
    refine Ev.step (fun k => by rw [evermoreref24_Sync.l1]) ?_
    have hqn : q = next.length := by omega
    subst hqn
    simp only [if_neg (show ¬ (next.length : Int) < (next.length : Int) by omega)]
    by_cases hc : csum x next.length = 1
    · rw [if_pos hc] at h
      simp only [hc, if_pos (show ((1 : Nat) : Int) = 1 from rfl), if_pos (show 0 ≤ (i : Int) by omega), if_pos (show (i : Int) < (pw.length : Int) by omega), rdL, hpw]
      exact evc (Ev.now _) h.symm
    · rw [if_neg hc] at h
      simp only [if_neg (show ¬ ((csum x next.length : Nat) : Int) = 1 by omega)]
      exact h
  | succ d ih =>
    intro q hq
    refine Ev.step (fun k => by rw [evermoreref24_Sync.l1]) ?_
    have hb := bit_ev x q (by omega) hx
    have hcl := csum_le x q
    have := ih (q + 1) (by omega)
    rw [csum_succ] at this
    simp only [if_pos (show (q : Int) < (next.length : Int) by omega), if_pos (show 0 ≤ (i : Int) by omega), if_pos (show (i : Int) < (ps.length : Int) by omega), if_pos (show 0 ≤ (q : Int) by omega), rdN, hpx, hb, w1 q (by omega)]
    rw [w64 (n := ((csum x q : Nat) : Int) + ((x / 2 ^ q % 2 : Nat) : Int)) (by omega) (by omega), show ((csum x q : Nat) : Int) + ((x / 2 ^ q % 2 : Nat) : Int) = ((csum x q + x / 2 ^ q % 2 : Nat) : Int) by omega]
    exact this
/-- what an element's letters add -/
theorem js_ok (D : DOk a s next mark) (hn : next.length ≤ 8) {full x : Nat} {w : List Int} (hx : x < 2 ^ next.length) (h0 : 0 < x) : ∀ (d : Nat) (F : Fl) (T : List Nat), d ≤ a.toNat → T.Nodup → (∀ y ∈ T, y < 2 ^ next.length) → w.length ≤ T.length →
    ∃ N NT, js next a.toNat full x w d F T = (F ++ N, T ++ NT) ∧ N.length = NT.length ∧ (T ++ NT).Nodup ∧ (∀ y ∈ T ++ NT, y < 2 ^ next.length) ∧ (∀ f ∈ N, 0 < f.2.1 ∧ f.2.1 < 2 ^ next.length ∧ f.2.2.length ≤ (T ++ NT).length ∧ (f.1 = true → f.2.1 = full)) ∧ ∀ l, a.toNat - d ≤ l → l < a.toNat → chd next x l ∈ T ++ NT := by
  intro d
  have ha1 := D.a1
  induction d with
  | zero => intro F T _ h1 h2 h3; exact ⟨[], [], by simp [js], rfl, by simpa using h1, by simpa using h2, by simp, fun l h4 h5 => by omega⟩
  | succ d ih =>
    intro F T hd h1 h2 h3
    obtain ⟨l, hl⟩ : ∃ l, l = a.toNat - (d + 1) := ⟨_, rfl⟩
    have hy := chd_ok D hn hx h0 (show (l : Int) < a by omega)
    rw [js, ← hl]
    by_cases hin : chd next x l ∈ T
    · rw [if_pos hin]
      obtain ⟨N, NT, e, k1, k2, k3, k4, k5⟩ := ih F T (by omega) h1 h2 h3
      refine ⟨N, NT, e, k1, k2, k3, k4, fun l' h4 h5 => ?_⟩
      by_cases e2 : l' = l
      · rw [e2]; exact List.mem_append_left _ hin
      · exact k5 l' (by omega) h5
    · rw [if_neg hin]
      obtain ⟨N, NT, e, k1, k2, k3, k4, k5⟩ := ih (F ++ [(decide (chd next x l = full), chd next x l, w ++ [(l : Int)])]) (T ++ [chd next x l]) (by omega)
        (by rw [List.nodup_append]; exact ⟨h1, by simp, fun y hy2 z hz e => hin (by rw [List.mem_singleton.1 hz] at e; exact e ▸ hy2)⟩)
        (fun y hy2 => by rcases List.mem_append.1 hy2 with h | h
                         · exact h2 y h
                         · rw [List.mem_singleton.1 h]; exact hy.2)
        (by rw [List.length_append]; omega)
      refine ⟨(decide (chd next x l = full), chd next x l, w ++ [(l : Int)]) :: N, chd next x l :: NT, by rw [e]; simp, by simp [k1], by simpa using k2, by simpa using k3, fun f hf => ?_, fun l' h4 h5 => ?_⟩
      · rcases List.mem_cons.1 hf with rfl | hf
        · refine ⟨hy.1, hy.2, ?_, fun h => of_decide_eq_true h⟩
          simp only [List.length_append, List.length_cons, List.length_nil]
          omega
        · have := k4 f hf
          refine ⟨this.1, this.2.1, ?_, this.2.2.2⟩
          have h6 := this.2.2.1
          simp only [List.length_append, List.length_cons, List.length_nil] at h6 ⊢
          omega
      · by_cases e2 : l' = l
        · rw [e2]; simp
        · have := k5 l' (by omega) h5
          simpa using this
end
section
variable {a s : Int} {next : List (List Int)} {mark : List Int}
structure Inv (a : Int) (next : List (List Int)) (full : Nat) (F : Fl) (T : List Nat) (Pre : List (Nat × List Int)) : Prop where
  nd : T.Nodup
  tb : ∀ y ∈ T, y < 2 ^ next.length
  fb : ∀ f ∈ F, 0 < f.2.1 ∧ f.2.1 < 2 ^ next.length ∧ f.2.2.length ≤ T.length ∧ (f.1 = true → f.2.1 = full)
  fl : F.length ≤ T.length + 1
  pl : (Pre ++ rem F).length ≤ T.length + 1
  st : (Pre = [] ∧ F = [(false, full, [])]) ∨ ((∀ l, l < a.toNat → chd next full l ∈ T) ∧ ¬ Sng full)
theorem js_same {full x : Nat} {w : List Int} : ∀ (d : Nat) (F : Fl) (T : List Nat), d ≤ a.toNat → (∀ l, l < a.toNat → chd next x l ∈ T) → js next a.toNat full x w d F T = (F, T)
  | 0, _, _, _, _ => rfl
  | d + 1, F, T, hd, h => by
    rw [js, if_pos (h _ (by omega))]
    exact js_same d F T (by omega) h
theorem sng_iff (hn : next.length ≤ 8) {x : Nat} (hx : x < 2 ^ next.length) (h0 : 0 < x) : Sng x ↔ csum x next.length = 1 := by
  have h8 : 2 ^ next.length ≤ 2 ^ 8 := Nat.pow_le_pow_right (by decide) hn
  exact cnt_eq ⟨next.length, by omega⟩ ⟨x, by omega⟩ h0 hx
theorem p_head (hn : next.length ≤ 8) (f : Bool × Nat × List Int) (F : Fl) (M : List (Int × Int)) (h0 : 0 < f.2.1) (hb : f.2.1 < 256) (Z : List Int × Bool × Int)
    (h : (Sng f.2.1 → Z = (f.2.2, true, 0)) ∧ (¬ Sng f.2.1 → Ev (fun k => code_Sync.l1 k ((f :: F).map toS) a 0 a s next mark M (f.2.1 : Int) f.2.2) Z)) : Ev (fun k => code_Sync.l0 k ((f :: F).map toS) a s next mark M) Z := by
  refine Ev.step (fun k => by rw [code_Sync.l0]) ?_
  have hl : (((f :: F).map toS).length : Int) > 0 := by simp
  have hr : rd_T105 ((f :: F).map toS) 0 = toS f := rfl
  rw [hr]
  have ex : wrap64 ((f.2.1 : Int) - 1) = ((f.2.1 - 1 : Nat) : Int) := by rw [w64 (by omega) (by omega)]; omega
  simp only [toS, if_pos hl, if_pos (show (0 : Int) < (((f :: F).map toS).length : Int) by omega), ex]
  rw [and_nat _ _ (by omega) (by omega)]
  by_cases hs : Sng f.2.1
  · have hz : f.2.1 &&& (f.2.1 - 1) = 0 := hs
    simp only [hz, if_pos (show ((0 : Nat) : Int) = 0 from rfl)]
    exact evc (Ev.now _) (h.1 hs).symm
  · have hz : ¬ (f.2.1 &&& (f.2.1 - 1)) = 0 := hs
    simp only [if_neg (show ¬ ((f.2.1 &&& (f.2.1 - 1) : Nat) : Int) = 0 by omega)]
    exact h.2 hs
theorem both (D : DOk a s next mark) (hn : next.length ≤ 8) (full : Nat) : ∀ (m : Nat) (F : Fl) (T : List Nat) (Pre : List (Nat × List Int)), F.length + (256 - T.length) ≤ m → Inv a next full F T Pre →
    ∃ r : List Int × Bool, (∀ M, MapInv M T → Ev (fun k => code_Sync.l0 k (F.map toS) a s next mark M) (r.1, r.2, 0)) ∧ (∀ S, SeenInv full S T → Ev (fun k => evermoreref24_Sync.l0 k S (sets (Pre ++ rem F)) (wrds (Pre ++ rem F)) (Pre.length : Int) a s next mark) r) ∧ r.1.length ≤ 256 := by
  intro m
  have h8 : 2 ^ next.length ≤ 2 ^ 8 := Nat.pow_le_pow_right (by decide) hn
  have ha1 := D.a1
  have ha4 := D.a4
  induction m with
  | zero =>
    intro F T Pre hm hI
    have hF : F = [] := List.eq_nil_of_length_eq_zero (by omega)
    subst hF
    refine ⟨([], false), fun M _ => ?_, fun S _ => ?_, by simp⟩
    · refine Ev.step (fun k => by rw [code_Sync.l0]) ?_
      simp only [if_neg (show ¬ ((([] : Fl).map toS).length : Int) > 0 by simp)]
      exact Ev.now _
    · refine Ev.step (fun k => by rw [evermoreref24_Sync.l0]) ?_
      simp only [if_neg (show ¬ (Pre.length : Int) < ((sets (Pre ++ rem [])).length : Int) by simp [sets, rem])]
      exact Ev.now _
  | succ m ih =>
    intro F T Pre hm hI
    have hT : T.length ≤ 256 := nodup_len 256 T hI.nd (fun y hy => by have := hI.tb y hy; omega)
    cases F with
    | nil =>
      refine ⟨([], false), fun M _ => ?_, fun S _ => ?_, by simp⟩
      · refine Ev.step (fun k => by rw [code_Sync.l0]) ?_
        simp only [if_neg (show ¬ ((([] : Fl).map toS).length : Int) > 0 by simp)]
        exact Ev.now _
      · refine Ev.step (fun k => by rw [evermoreref24_Sync.l0]) ?_
        simp only [if_neg (show ¬ (Pre.length : Int) < ((sets (Pre ++ rem [])).length : Int) by simp [sets, rem])]
        exact Ev.now _
    | cons f G =>
      obtain ⟨b1, b2, b3, b4⟩ := hI.fb f List.mem_cons_self
      have hfl := hI.fl
      have hpl := hI.pl
      rw [List.length_cons] at hfl hm
      have h00 : ((a.toNat - a.toNat : Nat) : Int) = 0 := by omega
      cases hj : f.1 with
      | true =>
        -- the whole set once more
        have hxf := b4 hj
        rcases hI.st with ⟨_, hF⟩ | ⟨hch, hns⟩
        · exfalso
          simp only [List.cons.injEq] at hF
          rw [hF.1] at hj
          cases hj
        · have hr : rem (f :: G) = rem G := by unfold rem; rw [List.filter_cons, if_neg (by rw [hj]; decide)]
          obtain ⟨r, k1, k2, k3⟩ := ih G T Pre (by omega) ⟨hI.nd, hI.tb, fun g hg => hI.fb g (List.mem_cons_of_mem _ hg), by omega, by rw [← hr]; exact hpl, .inr ⟨hch, hns⟩⟩
          refine ⟨r, fun M hM => ?_, fun S hS => by rw [hr]; exact k2 S hS, k3⟩
          refine p_head hn f G M b1 (by omega) _ ⟨fun h => absurd (hxf ▸ h) hns, fun _ => ?_⟩
          have hjs : js next a.toNat full f.2.1 f.2.2 a.toNat (f :: G) T = (f :: G, T) := js_same a.toNat _ _ (Nat.le_refl _) (by rw [hxf]; exact hch)
          have := p_l1 D hn full f.2.1 f.2.2 (by omega) (by omega) (r.1, r.2, 0) a.toNat (f :: G) T M (Nat.le_refl _) (by simp) (by rw [List.length_cons]; omega) hM (fun M' hM' => by
            rw [hjs] at hM' ⊢
            exact k1 M' hM')
          rw [h00] at this
          exact this
      | false =>
        obtain ⟨fb, x, w⟩ := f
        simp only at hj b1 b2 b3 b4
        subst hj
        have hr : rem ((false, x, w) :: G) = (x, w) :: rem G := rfl
        have hPl : (Pre ++ rem ((false, x, w) :: G)).length = Pre.length + 1 + (rem G).length := by rw [hr, List.length_append, List.length_cons]; omega
        have hs1 : (sets (Pre ++ rem ((false, x, w) :: G))).length = (Pre ++ rem ((false, x, w) :: G)).length := by unfold sets; rw [List.length_map]
        have hs2 : (wrds (Pre ++ rem ((false, x, w) :: G))).length = (Pre ++ rem ((false, x, w) :: G)).length := by unfold wrds; rw [List.length_map]
        have hg2 : (Pre ++ rem ((false, x, w) :: G))[Pre.length]? = some (x, w) := by rw [hr, List.getElem?_append_right (Nat.le_refl _), Nat.sub_self]; rfl
        have hsx : (sets (Pre ++ rem ((false, x, w) :: G))).getD Pre.length 0 = (x : Int) := by unfold sets; rw [List.getD_eq_getElem?_getD, List.getElem?_map, hg2]; rfl
        have hwx : (wrds (Pre ++ rem ((false, x, w) :: G))).getD Pre.length [] = w := by unfold wrds; rw [List.getD_eq_getElem?_getD, List.getElem?_map, hg2]; rfl
        have rl : ∀ (Z : List Int × Bool) (S : List Bool), (if csum x next.length = 1 then Z = (w, true) else Ev (fun k => evermoreref24_Sync.l2 k S (sets (Pre ++ rem ((false, x, w) :: G))) (wrds (Pre ++ rem ((false, x, w) :: G))) (Pre.length : Int) 0 a s next mark) Z) → Ev (fun k => evermoreref24_Sync.l0 k S (sets (Pre ++ rem ((false, x, w) :: G))) (wrds (Pre ++ rem ((false, x, w) :: G))) (Pre.length : Int) a s next mark) Z := by
          intro Z S h
          refine Ev.step (fun k => by rw [evermoreref24_Sync.l0]) ?_
          simp only [if_pos (show (Pre.length : Int) < ((sets (Pre ++ rem ((false, x, w) :: G))).length : Int) by omega)]
          exact r_l1 hn S _ _ Pre.length x w (by omega) (by omega) hsx hwx (by omega) Z h next.length 0 (by omega)
        by_cases hsg : Sng x
        · refine ⟨(w, true), fun M _ => p_head hn _ G M b1 (by show x < 256; omega) _ ⟨fun _ => rfl, fun h => absurd hsg h⟩, fun S _ => rl _ S ?_, by show w.length ≤ 256; omega⟩
          rw [if_pos ((sng_iff hn b2 b1).1 hsg)]
        · obtain ⟨N, NT, e, k1, k2, k3, k4, k5⟩ := js_ok D hn (full := full) (w := w) b2 b1 a.toNat ((false, x, w) :: G) T (Nat.le_refl _) hI.nd hI.tb b3
          have hTT : (T ++ NT).length ≤ 256 := nodup_len 256 _ k2 (fun y hy => by have := k3 y hy; omega)
          have hlTT : (T ++ NT).length = T.length + NT.length := List.length_append ..
          have hGN : (G ++ N).length = G.length + N.length := List.length_append ..
          have hrN : (rem N).length ≤ N.length := by unfold rem; rw [List.length_map]; exact List.length_filter_le _ _
          have hrem : Pre ++ [(x, w)] ++ rem (G ++ N) = Pre ++ rem (((false, x, w) :: G) ++ N) := by rw [rem_app, rem_app, hr]; simp
          have hInv : Inv a next full (G ++ N) (T ++ NT) (Pre ++ [(x, w)]) := by
            refine ⟨k2, k3, fun g hg => ?_, by omega, ?_, .inr ?_⟩
            · rcases List.mem_append.1 hg with hg | hg
              · have := hI.fb g (List.mem_cons_of_mem _ hg)
                exact ⟨this.1, this.2.1, by have := this.2.2.1; omega, this.2.2.2⟩
              · exact k4 g hg
            · rw [hrem, rem_app, ← List.append_assoc, List.length_append]
              omega
            · rcases hI.st with ⟨_, hF⟩ | ⟨hch, hns⟩
              · simp only [List.cons.injEq, Prod.mk.injEq] at hF
                have hxf : x = full := hF.1.2.1
                subst hxf
                exact ⟨fun l hl => k5 l (by omega) hl, hsg⟩
              · exact ⟨fun l hl => List.mem_append_left _ (hch l hl), hns⟩
          obtain ⟨r, q1, q2, q3⟩ := ih (G ++ N) (T ++ NT) (Pre ++ [(x, w)]) (by omega) hInv
          refine ⟨r, fun M hM => p_head hn _ G M b1 (by show x < 256; omega) _ ⟨fun h => absurd h hsg, fun _ => ?_⟩, fun S hS => rl _ S ?_, q3⟩
          · have := p_l1 D hn full x w (by omega) (by omega) (r.1, r.2, 0) a.toNat ((false, x, w) :: G) T M (Nat.le_refl _) (by simp) (by rw [List.length_cons]; omega) hM (fun M' hM' => by
              rw [e] at hM' ⊢
              exact q1 M' hM')
            rw [h00] at this
            exact this
          · rw [if_neg (fun h => hsg ((sng_iff hn b2 b1).2 h))]
            have := r_l2 D hn full x w (by omega) b2 b1 (by omega) Pre Pre.length rfl r a.toNat G ((false, x, w) :: G) T S rfl (Nat.le_refl _) (by omega) hS (fun S' hS' => by
              rw [e] at hS' ⊢
              have := q2 S' hS'
              rw [hrem, List.length_append, List.length_singleton] at this
              exact this)
            rw [h00] at this
            exact this
end
theorem start {a s : Int} {next : List (List Int)} {mark : List Int} (D : DOk a s next mark) (hn : next.length ≤ 8) : ∃ r : List Int × Bool, Ev (fun k => code_Sync.l0 k ([(⟨wrap64 ((shl .i64 1 (next.length : Int)) - 1), ([] : List Int)⟩ : S105)]) a s next mark ([] : List (Int × Int))) (r.1, r.2, 0) ∧ Ev (fun k => evermoreref24_Sync.f k a s next mark) r ∧ r.1.length ≤ 256 := by
  have h8 : 2 ^ next.length ≤ 2 ^ 8 := Nat.pow_le_pow_right (by decide) hn
  have h2 : 2 ^ 1 ≤ 2 ^ next.length := Nat.pow_le_pow_right (by decide) D.n1
  have ef : wrap64 ((shl .i64 1 (next.length : Int)) - 1) = ((2 ^ next.length - 1 : Nat) : Int) := by
    rw [shl1 next.length (by omega), w64 (by omega) (by omega)]; omega
  obtain ⟨full, hfull⟩ : ∃ full, full = 2 ^ next.length - 1 := ⟨_, rfl⟩
  rw [← hfull] at ef
  obtain ⟨r, k1, k2, k3⟩ := both D hn full 300 [(false, full, [])] [] [] (by simp) ⟨by simp, by simp, fun f hf => by rw [List.mem_singleton.1 hf]; exact ⟨by show 0 < full; omega, by show full < _; omega, by simp, fun h => by cases h⟩, by simp, by simp [rem], .inl ⟨rfl, rfl⟩⟩
  refine ⟨r, ?_, ?_, k3⟩
  · rw [ef]
    exact k1 [] (fun x => by rw [mget_nil]; simp)
  · unfold evermoreref24_Sync.f
    have hfl : full < 256 := by omega
    rw [ef, Int.toNat_natCast]
    simp only [if_pos (show 256 ≤ 281474976710656 by decide), Option.bind_some, List.length_replicate, if_pos (show 0 ≤ (full : Int) by omega), if_pos (show (full : Int) < ((256 : Nat) : Int) by omega)]
    exact k2 ((List.replicate 256 false).set full true) ⟨by rw [List.length_set, List.length_replicate], fun x hx => by
      rw [List.getD_eq_getElem?_getD, List.getElem?_set]
      by_cases e : full = x
      · rw [if_pos e, if_pos (by rw [List.length_replicate]; omega), decide_eq_true (.inl e.symm)]; rfl
      · rw [if_neg e, List.getElem?_replicate, if_pos hx]
        have : ¬ (x = full ∨ x ∈ ([] : List Nat)) := by simp; exact fun h => e h.symm
        rw [decide_eq_false this]; rfl⟩
theorem law_ev (a s : Int) (next : List (List Int)) (mark : List Int) : Ev (fun k => evermorelaw_CodeSync.f k a s next mark) true := by
  unfold evermorelaw_CodeSync.f
  have no : ∀ (e n : Int), n ≠ 0 → e = n → Ev (fun k => evermorelaw_CodeSync.j1 k ([] : List Int) false e n a s next mark) true := by
    intro e n hn he
    subst he
    refine Ev.step (fun k => by rw [evermorelaw_CodeSync.j1]) ?_
    simp only [if_neg hn, if_true, if_neg (show ¬ (false = true) by decide)]
    exact Ev.now _
  by_cases hv : det_Check.v a s next mark = 0
  · have D := dok_of hv
    by_cases h8 : (next.length : Int) > 8
    · have hp : Ev (fun k => code_Sync.f k a s next mark) ([], false, 1) := by
        unfold code_Sync.f det_Check.f
        simp only [Option.bind_some, hv, if_true, if_pos h8]
        exact Ev.now _
      refine Ev.bind hp ?_
      refine Ev.bind (chk3_ev a s next mark) ?_
      simp only [hv, if_true]
      refine Ev.step (fun k => by rw [evermorelaw_CodeSync.j0]) ?_
      simp only [decide_eq_true h8, if_true]
      exact no 1 1 (by decide) rfl
    · obtain ⟨r, k1, k2, k3⟩ := start D (by omega)
      have hp : Ev (fun k => code_Sync.f k a s next mark) (r.1, r.2, 0) := by
        unfold code_Sync.f det_Check.f
        simp only [Option.bind_some, hv, if_true, if_neg h8]
        exact k1
      refine Ev.bind hp ?_
      refine Ev.bind (chk3_ev a s next mark) ?_
      simp only [hv, if_true]
      refine Ev.step (fun k => by rw [evermorelaw_CodeSync.j0]) ?_
      simp only [decide_eq_false h8, if_neg (show ¬ (false = true) by decide)]
      refine Ev.step (fun k => by rw [evermorelaw_CodeSync.j1]) ?_
      simp only [if_true]
      refine Ev.bind k2 ?_
      refine Ev.bind (evermoreref1_Words_ev r.1 r.1 (by omega)) ?_
      simp only [if_pos (show (r.2 == r.2) = true by simp)]
      exact evc (Ev.now _) (by simp)
  · have hp : Ev (fun k => code_Sync.f k a s next mark) ([], false, det_Check.v a s next mark) := by
      unfold code_Sync.f det_Check.f
      simp only [Option.bind_some, if_neg hv]
      exact Ev.now _
    refine Ev.bind hp ?_
    refine Ev.bind (chk3_ev a s next mark) ?_
    simp only [if_neg hv]
    refine Ev.step (fun k => by rw [evermorelaw_CodeSync.j0]) ?_
    simp only [if_neg (show ¬ (false = true) by decide)]
    exact no _ _ hv rfl
theorem CodeSync : evermorelaw_CodeSync.PureH := by
  intro a s next mark _
  exact Ev.rounds (law_ev a s next mark)

end Go.Proofs.Ytaaibckhpbmbeaa.Pure
