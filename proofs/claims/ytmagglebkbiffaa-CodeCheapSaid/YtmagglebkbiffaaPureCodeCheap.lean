import Derived.Test.YtmagglebkbiffaaGCodeCheap
import Derived.Test.YtmagglebkbiffaaSxW
import Derived.Test.YtmagglebkbiffaaSxV2
set_option linter.unusedVariables false
set_option linter.unusedSimpArgs false
namespace Go.Proofs.YtmagglebkbiffaaSx
/-- With enough fuel. -/
def Ev {α : Type} (g : Nat → Option α) (r : α) : Prop := ∃ k0, ∀ k, k0 ≤ k → g k = some r
theorem Ev.now {α : Type} (r : α) : Ev (fun _ => some r) r := ⟨0, fun _ _ => rfl⟩
theorem Ev.all {α : Type} {g : Nat → Option α} {r : α} (h : ∀ k, g k = some r) : Ev g r := ⟨0, fun k _ => h k⟩
theorem Ev.step {α : Type} {g h : Nat → Option α} {r : α} (e : ∀ k, g (k + 1) = h k) (H : Ev h r) : Ev g r := by
  obtain ⟨k0, H⟩ := H
  refine ⟨k0 + 1, fun k hk => ?_⟩
  obtain ⟨k, rfl⟩ : ∃ j, k = j + 1 := ⟨k - 1, by omega⟩
  rw [e]; exact H _ (by omega)
theorem Ev.bind {α β : Type} {g : Nat → Option α} {h : Nat → α → Option β} {x : α} {r : β} (G : Ev g x) (H : Ev (fun k => h k x) r) : Ev (fun k => (g k).bind (h k)) r := by
  obtain ⟨a, G⟩ := G
  obtain ⟨b, H⟩ := H
  refine ⟨max a b, fun k hk => ?_⟩
  show (g k).bind (h k) = some r
  rw [G k (by omega)]; exact H k (by omega)
theorem Ev.get {α : Type} {g : Nat → Option α} {r : α} (H : Ev g r) : ∃ k, g k = some r := H.elim fun k0 H => ⟨k0, H k0 (Nat.le_refl _)⟩
theorem Ev.cast {α : Type} {g : Nat → Option α} {r r' : α} (H : Ev g r) (e : r = r') : Ev g r' := e ▸ H

theorem wr64 (n : Int) (h0 : -9223372036854775808 ≤ n) (h1 : n < 9223372036854775808) : IntKind.i64.wrap n = n := by rw [IntKind.wrap_i64]; omega
theorem wrSucc (i : Nat) (h : i < 1000000000) : IntKind.i64.wrap ((i : Int) + 1) = ((i + 1 : Nat) : Int) := by rw [wr64] <;> omega
theorem rd_nat {α : Type} (d : α) (w : List α) (i : Nat) : rd d w (i : Int) = w.getD i d := by simp [rd]
theorem drop_getD {α : Type} (d : α) (w : List α) (i : Nat) (h : i < w.length) : w.drop i = w.getD i d :: w.drop (i + 1) := by
  rw [List.drop_eq_getElem_cons h]; simp [List.getD, h]
theorem short (n : Nat) (h : n < 1000000000) : Nat.blt n 1000000000 = true := Nat.ble_eq_true_of_le (by omega)
theorem fits (n b : Nat) (hb : b ≤ 1000) (h : n < 100000000000) : fitsIn n b = true := by
  have h1 : n * b ≤ 100000000000 * 1000 := Nat.mul_le_mul (by omega) hb
  exact Nat.ble_eq_true_of_le (by omega)
theorem fit1 {b : Nat} (n : Nat) (h : n < 1000000000) (hb : b ≤ 4096 := by decide) : fitsIn n b = true := by
  have h1 : n * b ≤ 1000000000 * 4096 := Nat.mul_le_mul (by omega) hb
  exact Nat.ble_eq_true_of_le (by omega)
end Go.Proofs.YtmagglebkbiffaaSx
namespace Go.Proofs.YtmagglebkbiffaaSx.CC
abbrev Tr := Int × (List Int × Unit)
abbrev z : Tr := (Int.ofNat 0, [], ())
theorem wrS (i : Nat) (h : i < 9223372036854775807) : Go.IntKind.i64.wrap ((i : Int) + 1) = ((i + 1 : Nat) : Int) := by rw [wr64] <;> omega
theorem wrP (i : Nat) (h : i < 9223372036854775807) : Go.IntKind.i64.wrap (((i + 1 : Nat) : Int) - 1) = (i : Int) := by rw [wr64] <;> omega
theorem getD_memI (w : List Int) (j : Nat) (h : j < w.length) : w.getD j 0 ∈ w := by
  rw [List.getD_eq_getElem?_getD, List.getElem?_eq_getElem h]; exact List.getElem_mem h
theorem getD_el {α : Type} (d : α) (w : List α) (j : Nat) (h : j < w.length) : w.getD j d = w[j] := by
  rw [List.getD_eq_getElem?_getD, List.getElem?_eq_getElem h]; rfl
/-! The sort. -/
def key (d : List Tr) (p : Nat) : Int := (d.getD p z).1
/-- One place and the one ahead of it change places. -/
def sw (d : List Tr) (j : Nat) : List Tr := (d.set (j + 1) (d.getD j z)).set j (d.getD (j + 1) z)
theorem sw_perm (d : List Tr) (j : Nat) (h : j + 1 < d.length) : (sw d j).Perm d := by
  rw [sw, getD_el z d j (by omega), getD_el z d (j + 1) h]
  exact List.set_set_perm h (by omega)
theorem sw_get (d : List Tr) (j p : Nat) (h : j + 1 < d.length) : (sw d j).getD p z = if p = j then d.getD (j + 1) z else if p = j + 1 then d.getD j z else d.getD p z := by
  rw [sw, List.getD_eq_getElem?_getD, List.getElem?_set]
  by_cases h1 : p = j
  · subst h1; rw [if_pos rfl, if_pos rfl, if_pos (by rw [List.length_set]; omega)]; rfl
  · rw [if_neg (fun e => h1 e.symm), if_neg h1, List.getElem?_set]
    by_cases h2 : p = j + 1
    · subst h2; rw [if_pos rfl, if_pos rfl, if_pos h]; rfl
    · rw [if_neg (fun e => h2 e.symm), if_neg h2, List.getD_eq_getElem?_getD]
def Srt (d : List Tr) (i : Nat) : Prop := ∀ p q, p < q → q < i → key d p ≤ key d q
theorem cmp_ev (x y : Int) (k : Nat) : cmp_Compare_int_.f k x y = some (if x < y then -1 else if y < x then 1 else 0) := by
  have h : ∀ z : Int, cmp_isNaN_int_.f k z = some false := by
    intro z; rw [cmp_isNaN_int_.f]; simp
  simp only [cmp_Compare_int_.f, h, Option.bind_some, Bool.false_eq_true, if_false]
  split
  · rfl
  · split <;> rfl
theorem cmp2_ev (x y : Tr) (k : Nat) : code_Cheap_1.f k x y = some (if x.1 < y.1 then -1 else if y.1 < x.1 then 1 else 0) := by
  rw [code_Cheap_1.f, cmp_ev]; rfl
theorem ins_l4 (n : Nat) (hS : n ≤ 20) (b : Int) (i : Nat) (hi : i < n) : ∀ (j : Nat) (d : List Tr), d.length = n → j ≤ i → (∀ p q, p < q → q ≤ i → p ≠ j → q ≠ j → key d p ≤ key d q) → (∀ q, j < q → q ≤ i → key d j ≤ key d q) →
    ∃ d', d'.Perm d ∧ Srt d' (i + 1) ∧ ∀ R : List Tr, Ev (fun k => slices_insertionSortCmpFunc_code_tree_.l1 k 0 b ((i + 1 : Nat) : Int) d') R → Ev (fun k => slices_insertionSortCmpFunc_code_tree_.l4 k 0 b (i : Int) (j : Int) d) R := by
  intro j
  induction j with
  | zero =>
    intro d hl hj h1 h2
    refine ⟨d, List.Perm.refl _, fun p q hpq hq => ?_, fun R E => Ev.step (fun k => ?_) E⟩
    · by_cases hp : p = 0
      · subst hp; exact h2 q hpq (by omega)
      · exact h1 p q hpq (by omega) hp (by omega)
    · rw [slices_insertionSortCmpFunc_code_tree_.l4, if_neg (by omega), wrS i (by omega)]
  | succ j ih =>
    intro d hl hj h1 h2
    have e1 : d.getD ((j + 1 : Nat) : Int).toNat (Int.ofNat 0, [], ()) = d.getD (j + 1) z := rfl
    have e2 : d.getD ((j : Nat) : Int).toNat (Int.ofNat 0, [], ()) = d.getD j z := rfl
    by_cases hc : key d (j + 1) < key d j
    · have hg := fun p => sw_get d j p (by omega)
      have hk : ∀ p, key (sw d j) p = if p = j then key d (j + 1) else if p = j + 1 then key d j else key d p := by
        intro p; rw [key, hg]; split
        · rfl
        · split <;> rfl
      have hp := sw_perm d j (by omega)
      obtain ⟨d', p1, p2, p3⟩ := ih (sw d j) (hp.length_eq.trans hl) (by omega) (fun p q hpq hq hpj hqj => by
        rw [hk, hk, if_neg hpj, if_neg hqj]
        by_cases a1 : p = j + 1
        · rw [if_pos a1, if_neg (by omega)]; exact h1 j q (by omega) hq (by omega) (by omega)
        · rw [if_neg a1]
          by_cases a2 : q = j + 1
          · rw [if_pos a2]; exact h1 p j (by omega) (by omega) (by omega) (by omega)
          · rw [if_neg a2]; exact h1 p q hpq hq a1 a2) (fun q hq hqi => by
        rw [hk, hk, if_pos rfl, if_neg (by omega)]
        by_cases a2 : q = j + 1
        · rw [if_pos a2]; omega
        · rw [if_neg a2]; exact h2 q (by omega) hqi)
      refine ⟨d', p1.trans hp, p2, fun R E => Ev.step (fun k => ?_) (p3 R E)⟩
      rw [slices_insertionSortCmpFunc_code_tree_.l4, if_pos (by omega), if_pos (by omega), if_pos (by omega), wrP j (by omega), if_pos (by omega), if_pos (by omega), e1, e2, cmp2_ev, Option.bind_some]
      have hneg : (if (d.getD (j + 1) z).1 < (d.getD j z).1 then (-1 : Int) else if (d.getD j z).1 < (d.getD (j + 1) z).1 then 1 else 0) < 0 := by
        have hc' : (d.getD (j + 1) z).1 < (d.getD j z).1 := hc
        rw [if_pos hc']; decide
      rw [if_pos hneg, if_pos (by omega), if_pos (by omega), if_pos (by omega), if_pos (by omega), if_pos (by omega), if_pos (by omega), if_pos (by omega), if_pos (by rw [List.length_set]; omega)]
      rfl
    · refine ⟨d, List.Perm.refl _, fun p q hpq hq => ?_, fun R E => Ev.step (fun k => ?_) E⟩
      · by_cases a1 : p = j + 1
        · subst a1; exact h2 q hpq (by omega)
        · by_cases a2 : q = j + 1
          · subst a2
            by_cases a3 : p = j
            · subst a3; omega
            · have := h1 p j (by omega) (by omega) (by omega) (by omega); omega
          · exact h1 p q hpq (by omega) a1 a2
      · rw [slices_insertionSortCmpFunc_code_tree_.l4, if_pos (by omega), if_pos (by omega), if_pos (by omega), wrP j (by omega), if_pos (by omega), if_pos (by omega), e1, e2, cmp2_ev, Option.bind_some]
        have hneg : ¬ (if (d.getD (j + 1) z).1 < (d.getD j z).1 then (-1 : Int) else if (d.getD j z).1 < (d.getD (j + 1) z).1 then 1 else 0) < 0 := by
          have hc' : ¬ (d.getD (j + 1) z).1 < (d.getD j z).1 := hc
          rw [if_neg hc']; split <;> decide
        rw [if_neg hneg, wrS i (by omega)]
theorem ins_l1 (n : Nat) (hS : n ≤ 20) : ∀ m i d, n - i = m → i ≤ n → d.length = n → Srt d i → ∃ d', d'.Perm d ∧ Srt d' n ∧ Ev (fun k => slices_insertionSortCmpFunc_code_tree_.l1 k 0 (n : Int) (i : Int) d) d' := by
  intro m
  induction m with
  | zero =>
    intro i d hm hi hd hs
    have : i = n := by omega
    subst this
    refine ⟨d, List.Perm.refl _, hs, Ev.step (h := fun _ => some d) (fun k => ?_) (Ev.now _)⟩
    rw [slices_insertionSortCmpFunc_code_tree_.l1, if_neg (by omega)]
  | succ m ih =>
    intro i d hm hi hd hs
    obtain ⟨d1, p1, p2, p3⟩ := ins_l4 n hS (n : Int) i (by omega) i d hd (Nat.le_refl _) (fun p q hpq hq hp hq2 => hs p q hpq (by omega)) (fun q h1 h2 => by omega)
    obtain ⟨d2, q1, q2, q3⟩ := ih (i + 1) d1 (by omega) (by omega) (p1.length_eq.trans hd) p2
    refine ⟨d2, q1.trans p1, q2, Ev.step (fun k => ?_) (p3 _ q3)⟩
    rw [slices_insertionSortCmpFunc_code_tree_.l1, if_pos (by omega)]
theorem ins_none (a b : Int) (h : ¬ Go.IntKind.i64.wrap (a + 1) < b) (d : List Tr) : Ev (fun k => slices_insertionSortCmpFunc_code_tree_.f k a b d) d := by
  simp only [slices_insertionSortCmpFunc_code_tree_.f]
  refine Ev.step (h := fun _ => some d) (fun k => ?_) (Ev.now _)
  rw [slices_insertionSortCmpFunc_code_tree_.l1, if_neg h]
theorem sort_ev (d : List Tr) (hS : d.length ≤ 20) (h1 : 1 ≤ d.length) : ∃ d', d'.Perm d ∧ Srt d' d.length ∧ Ev (fun k => slices_SortStableFunc___code_tree_code_tree_.f k d) d' := by
  obtain ⟨n, hn⟩ : ∃ n, n = d.length := ⟨_, rfl⟩
  rw [← hn] at hS h1
  obtain ⟨d', p1, p2, p3⟩ := ins_l1 n hS _ 1 d rfl h1 hn.symm (fun p q hpq hq => by omega)
  refine ⟨d', p1, by rw [← hn]; exact p2, ?_⟩
  have hi : Ev (fun k => slices_insertionSortCmpFunc_code_tree_.f k 0 (n : Int) d) d' := by
    simp only [slices_insertionSortCmpFunc_code_tree_.f]; exact p3
  have l7 : Ev (fun k => slices_stableCmpFunc_code_tree_.l7 k (n : Int) 20 d') d' := by
    refine Ev.step (h := fun _ => some d') (fun k => ?_) (Ev.now _)
    rw [slices_stableCmpFunc_code_tree_.l7, if_neg (by omega)]
  simp only [slices_SortStableFunc___code_tree_code_tree_.f, slices_stableCmpFunc_code_tree_.f, ← hn]
  refine Ev.bind (x := d') ?_ (Ev.now _)
  by_cases h20 : n = 20
  · refine Ev.step (fun k => by rw [slices_stableCmpFunc_code_tree_.l2, if_pos (by omega)]) (Ev.bind (x := d') ?_ ?_)
    · rw [h20] at hi; exact hi
    · refine Ev.step (fun k => by rw [slices_stableCmpFunc_code_tree_.l2, if_neg (by rw [show Go.IntKind.i64.wrap (20 + 20) = 40 by decide]; omega)]) (Ev.bind (ins_none 20 _ (by rw [show Go.IntKind.i64.wrap (20 + 1) = 21 by decide]; omega) d') l7)
  · refine Ev.step (fun k => by rw [slices_stableCmpFunc_code_tree_.l2, if_neg (by omega)]) (Ev.bind hi l7)
/-! Two rows in one. -/
theorem grow_ev (n : Nat) (hn : n ≤ 1000) : Ev (fun k => slices_Grow___int_int_.f k (n : Int)) [] := by
  have hw : Go.IntKind.i64.wrap ((n : Int) - Go.IntKind.i64.wrap (0 - 0)) = (n : Int) := by
    rw [show Go.IntKind.i64.wrap (0 - 0) = 0 by decide, wr64] <;> omega
  have j6 : Ev (fun k => slices_Grow___int_int_.j6 k []) [] := Ev.step (h := fun _ => some []) (fun k => by rw [slices_Grow___int_int_.j6]) (Ev.now _)
  by_cases h : 0 < n
  · simp only [slices_Grow___int_int_.f, hw, if_neg (show ¬ (n : Int) < 0 by omega), if_pos (show (0 : Int) < (n : Int) by omega), if_pos (show (0 : Int) ≤ 0 by decide), Int.toNat_natCast, if_pos (fit1 (b := 8) n (by omega)), List.length_replicate, if_pos (show (0 : Int) ≤ (n : Int) by omega)]
    simpa using j6
  · simp only [slices_Grow___int_int_.f, hw, if_neg (show ¬ (n : Int) < 0 by omega), if_neg (show ¬ (0 : Int) < (n : Int) by omega)]
    exact j6
theorem concat_ev (a b : List Int) (ha : a.length ≤ 100) (hb : b.length ≤ 100) : Ev (fun k => slices_Concat___int_int_.f k [a, b]) (a ++ b) := by
  have r0 : rd [] [a, b] 0 = a := rfl
  have r1 : rd [] [a, b] 1 = b := rfl
  have w1 : Go.IntKind.i64.wrap (0 + (a.length : Int)) = (a.length : Int) := by rw [wr64] <;> omega
  have w2 : Go.IntKind.i64.wrap ((a.length : Int) + (b.length : Int)) = ((a.length + b.length : Nat) : Int) := by rw [wr64] <;> omega
  have u0 : Go.IntKind.i64.wrap (0 + 1) = 1 := by decide
  have u1 : Go.IntKind.i64.wrap (1 + 1) = 2 := by decide
  have hl : (([a, b] : List (List Int)).length : Int) = 2 := rfl
  simp only [slices_Concat___int_int_.f, hl]
  refine Ev.step (fun k => by rw [slices_Concat___int_int_.l3, if_pos (by decide), if_pos (by decide), if_pos (by rw [hl]; decide), r0, w1, if_neg (by omega), u0]) ?_
  refine Ev.step (fun k => by rw [slices_Concat___int_int_.l3, if_pos (by decide), if_pos (by decide), if_pos (by rw [hl]; decide), r1, w2, if_neg (by omega), u1]) ?_
  refine Ev.step (fun k => by rw [slices_Concat___int_int_.l3, if_neg (by decide)]) (Ev.bind (grow_ev _ (by omega)) ?_)
  simp only [hl]
  refine Ev.step (fun k => by rw [slices_Concat___int_int_.l11, if_pos (by decide), if_pos (by decide), if_pos (by rw [hl]; decide), r0, u0, if_pos (fit1 _ (by rw [List.nil_append]; omega))]) ?_
  refine Ev.step (fun k => by rw [slices_Concat___int_int_.l11, if_pos (by decide), if_pos (by decide), if_pos (by rw [hl]; decide), r1, u1, if_pos (fit1 _ (by rw [List.nil_append, List.length_append]; omega))]) ?_
  refine Ev.step (h := fun _ => some (a ++ b)) (fun k => ?_) (Ev.now _)
  rw [slices_Concat___int_int_.l11, if_neg (by decide)]; rfl
end Go.Proofs.YtmagglebkbiffaaSx.CC
namespace Go.Proofs.YtmagglebkbiffaaSx.CC
/-! The two least, as the reference finds them. -/
def sw2 (M : List Int) (t i : Nat) : List Int := (M.set i (M.getD t 0)).set t (M.getD i 0)
theorem sw2_perm (M : List Int) (t i : Nat) (ht : t < M.length) (hi : i < M.length) : (sw2 M t i).Perm M := by
  rw [sw2, getD_el 0 M t ht, getD_el 0 M i hi]
  exact List.set_set_perm hi ht
theorem sw2_get (M : List Int) (t i p : Nat) (ht : t < M.length) (hi : i < M.length) : (sw2 M t i).getD p 0 = if p = t then M.getD i 0 else if p = i then M.getD t 0 else M.getD p 0 := by
  rw [sw2, List.getD_eq_getElem?_getD, List.getElem?_set]
  by_cases h1 : p = t
  · subst h1; rw [if_pos rfl, if_pos rfl, if_pos (by rw [List.length_set]; omega)]; rfl
  · rw [if_neg (fun e => h1 e.symm), if_neg h1, List.getElem?_set]
    by_cases h2 : p = i
    · subst h2; rw [if_pos rfl, if_pos rfl, if_pos hi]; rfl
    · rw [if_neg (fun e => h2 e.symm), if_neg h2, List.getD_eq_getElem?_getD]
theorem ref_l8 (n : Nat) (hn : n ≤ 20) (cost : Int) (t : Nat) (ht : t < n) : ∀ m i (M : List Int), n - i = m → t < i → i ≤ n → M.length = n → (∀ j, t < j → j < i → M.getD t 0 ≤ M.getD j 0) →
    ∃ M', M'.Perm M ∧ (∀ j, j < t → M'.getD j 0 = M.getD j 0) ∧ (∀ j, t < j → j < n → M'.getD t 0 ≤ M'.getD j 0) ∧ ∀ R : Int, Ev (fun k => evermoreref24_Cheapest.l5 k cost ((t + 1 : Nat) : Int) M') R → Ev (fun k => evermoreref24_Cheapest.l8 k cost (t : Int) (i : Int) M) R := by
  intro m
  induction m with
  | zero =>
    intro i M hm hti hi hM h
    refine ⟨M, List.Perm.refl _, fun _ _ => rfl, fun j h1 h2 => h j h1 (by omega), fun R E => Ev.step (fun k => ?_) E⟩
    rw [evermoreref24_Cheapest.l8, if_neg (by omega), wrS t (by omega)]
  | succ m ih =>
    intro i M hm hti hi hM h
    have j9 : ∀ (M : List Int) k, evermoreref24_Cheapest.j9 (k + 1) cost (t : Int) (i : Int) M = evermoreref24_Cheapest.l8 k cost (t : Int) ((i + 1 : Nat) : Int) M := by
      intro M k; rw [evermoreref24_Cheapest.j9, wrS i (by omega)]
    have e1 : M.getD ((i : Nat) : Int).toNat (Int.ofNat 0) = M.getD i 0 := rfl
    have e2 : M.getD ((t : Nat) : Int).toNat (Int.ofNat 0) = M.getD t 0 := rfl
    by_cases hc : M.getD i 0 < M.getD t 0
    · have hg := fun p => sw2_get M t i p (by omega) (by omega)
      have hp := sw2_perm M t i (by omega) (by omega)
      obtain ⟨M', p1, p2, p3, p4⟩ := ih (i + 1) (sw2 M t i) (by omega) (by omega) (by omega) (hp.length_eq.trans hM) (fun j h1 h2 => by
        rw [hg, hg, if_pos rfl, if_neg (by omega)]
        by_cases a : j = i
        · rw [if_pos a]; omega
        · rw [if_neg a]; have := h j h1 (by omega); omega)
      refine ⟨M', p1.trans hp, fun j hj => by rw [p2 j hj, hg, if_neg (by omega), if_neg (by omega)], p3, fun R E => Ev.step (h := fun k => evermoreref24_Cheapest.j9 k cost (t : Int) (i : Int) (sw2 M t i)) (fun k => ?_) (Ev.step (j9 _) (p4 R E))⟩
      rw [evermoreref24_Cheapest.l8, if_pos (by omega), if_pos (by omega), if_pos (by omega), if_pos (by omega), if_pos (by omega), e1, e2, if_pos hc, if_pos (by omega), if_pos (by omega), if_pos (by omega), if_pos (by omega), if_pos (by omega), if_pos (by omega), if_pos (by omega), if_pos (by rw [List.length_set]; omega)]
      rfl
    · obtain ⟨M', p1, p2, p3, p4⟩ := ih (i + 1) M (by omega) (by omega) (by omega) hM (fun j h1 h2 => by
        by_cases a : j = i
        · subst a; omega
        · exact h j h1 (by omega))
      refine ⟨M', p1, p2, p3, fun R E => Ev.step (h := fun k => evermoreref24_Cheapest.j9 k cost (t : Int) (i : Int) M) (fun k => ?_) (Ev.step (j9 _) (p4 R E))⟩
      rw [evermoreref24_Cheapest.l8, if_pos (by omega), if_pos (by omega), if_pos (by omega), if_pos (by omega), if_pos (by omega), e1, e2, if_neg hc]
theorem mem_getD {M : List Int} {x : Int} (h : x ∈ M) : ∃ j, j < M.length ∧ M.getD j 0 = x := by
  obtain ⟨j, hj, rfl⟩ := List.mem_iff_getElem.1 h
  exact ⟨j, hj, getD_el 0 M j hj⟩
/-- One turn of the reference: the two least give way to their sum. -/
theorem ref_step (M : List Int) (h2 : 2 ≤ M.length) (h20 : M.length ≤ 20) (cost : Int) (hcost : 0 ≤ cost ∧ cost ≤ 1000000000) (hM : ∀ x ∈ M, 0 ≤ x ∧ x ≤ 1000000000) :
    ∃ a b rest, (a :: b :: rest).Perm M ∧ (∀ x ∈ b :: rest, a ≤ x) ∧ (∀ x ∈ rest, b ≤ x) ∧ ∀ R : Int, Ev (fun k => evermoreref24_Cheapest.l3 k (cost + (a + b)) ((a + b) :: rest)) R → Ev (fun k => evermoreref24_Cheapest.l3 k cost M) R := by
  obtain ⟨M1, p1, _, p3, p4⟩ := ref_l8 M.length h20 cost 0 (by omega) _ 1 M rfl (by omega) (by omega) rfl (fun j h1 h2 => by omega)
  have hl1 := p1.length_eq
  obtain ⟨M2, q1, q2, q3, q4⟩ := ref_l8 M.length h20 cost 1 (by omega) _ 2 M1 rfl (by omega) (by omega) hl1 (fun j h1 h2 => by omega)
  have hl2 := q1.length_eq
  match M2, q1, q2, q3, q4, hl2 with
  | [], _, _, _, _, hl2 => simp at hl2; omega
  | [_], _, _, _, _, hl2 => simp at hl2; omega
  | a :: b :: rest, q1, q2, q3, q4, hl2 =>
    have ha : M1.getD 0 0 = a := (q2 0 (by omega)).symm
    have hmin : ∀ x ∈ M1, a ≤ x := by
      intro x hx
      obtain ⟨j, hj, rfl⟩ := mem_getD hx
      rw [← ha]
      by_cases h : j = 0
      · subst h; exact Int.le_refl _
      · exact p3 j (by omega) (by omega)
    have hla := hM a (p1.mem_iff.1 (q1.mem_iff.1 List.mem_cons_self))
    have hlb := hM b (p1.mem_iff.1 (q1.mem_iff.1 (List.mem_cons_of_mem _ List.mem_cons_self)))
    refine ⟨a, b, rest, q1.trans p1, fun x hx => hmin x (q1.mem_iff.1 (List.mem_cons_of_mem _ hx)), fun x hx => ?_, fun R E => ?_⟩
    · obtain ⟨j, hj, rfl⟩ := mem_getD hx
      have := q3 (j + 2) (by omega) (by rw [← hl1, ← hl2]; simp; omega)
      exact this
    · have u0 : Go.IntKind.i64.wrap (((0 : Nat) : Int) + 1) = ((1 : Nat) : Int) := by decide
      have u1 : Go.IntKind.i64.wrap (((1 : Nat) : Int) + 1) = ((2 : Nat) : Int) := by decide
      have hlen : ((a :: b :: rest).length : Int) = (M.length : Int) := by omega
      have hset : ((a :: b :: rest).set (Int.toNat 1) (a + b)) = a :: (a + b) :: rest := rfl
      have hga : (a :: b :: rest).getD (Int.toNat 0) (Int.ofNat 0) = a := rfl
      have hgb : (a :: b :: rest).getD (Int.toNat 1) (Int.ofNat 0) = b := rfl
      have hlen2 : ((a :: (a + b) :: rest).length : Int) = (M.length : Int) := hlen
      have htk : List.take ((M.length : Int).toNat - Int.toNat 1) (List.drop (Int.toNat 1) (a :: (a + b) :: rest)) = (a + b) :: rest := by
        show List.take (((M.length : Nat) : Int).toNat - 1) ((a + b) :: rest) = _
        rw [List.take_of_length_le]
        rw [Int.toNat_natCast]
        simp only [List.length_cons] at hl2 ⊢
        omega
      refine Ev.step (fun k => by rw [evermoreref24_Cheapest.l3, if_pos (by omega)]) ?_
      refine Ev.step (h := fun k => evermoreref24_Cheapest.l8 k cost ((0 : Nat) : Int) ((1 : Nat) : Int) M) (fun k => by rw [evermoreref24_Cheapest.l5, if_pos (by decide)]; rfl) (p4 R ?_)
      refine Ev.step (h := fun k => evermoreref24_Cheapest.l8 k cost ((1 : Nat) : Int) ((2 : Nat) : Int) M1) (fun k => by rw [evermoreref24_Cheapest.l5, if_pos (by decide)]; rfl) (q4 R ?_)
      refine Ev.step (fun k => ?_) E
      have w1 : Go.IntKind.i64.wrap (a + b) = a + b := by rw [wr64] <;> omega
      have w2 : Go.IntKind.i64.wrap (cost + a) = cost + a := by rw [wr64] <;> omega
      have w3 : Go.IntKind.i64.wrap (cost + a + b) = cost + (a + b) := by rw [wr64] <;> omega
      rw [evermoreref24_Cheapest.l5, if_neg (by decide)]
      simp only [hlen, hga, hgb, w1, w2, w3, hset, hlen2, htk, if_pos (show (0 : Int) ≤ 0 by decide), if_pos (show (0 : Int) ≤ 1 by decide), if_pos (show (0 : Int) < (M.length : Int) by omega), if_pos (show (1 : Int) < (M.length : Int) by omega), if_pos (show (1 : Int) ≤ (M.length : Int) by omega), if_pos (show (M.length : Int) ≤ (M.length : Int) by omega)]
      rfl
/-- What is least twice is the same. -/
theorem least_eq {a b : Int} {r s : List Int} (p : (a :: r).Perm (b :: s)) (ha : ∀ x ∈ r, a ≤ x) (hb : ∀ x ∈ s, b ≤ x) : a = b ∧ r.Perm s := by
  have h1 : a = b := by
    have m1 := p.mem_iff.1 (List.mem_cons_self (a := a) (l := r))
    have m2 := p.mem_iff.2 (List.mem_cons_self (a := b) (l := s))
    rcases List.mem_cons.1 m1 with h | h
    · exact h
    · rcases List.mem_cons.1 m2 with h' | h'
      · exact h'.symm
      · have := hb a h; have := ha b h'; omega
  subst h1
  exact ⟨rfl, p.cons_inv⟩
/-! The rows, and the cost. -/
def cst : List Int → List (List Int) → Int
  | w :: W, v :: l => w * (v.length : Int) + cst W l
  | _, _ => 0
def wsum (W : List Int) (r : List Int) : Int := (r.map fun x => W.getD x.toNat 0).sum
theorem cst_set (b : Int) : ∀ (W : List Int) (l : List (List Int)) (x : Nat), W.length = l.length → x < l.length → cst W (l.set x (b :: l.getD x [])) = cst W l + W.getD x 0
  | [], l, x, h, hx => by simp at h; omega
  | w :: W, [], x, h, hx => by simp at hx
  | w :: W, v :: l, 0, h, hx => by
    show w * ((b :: v).length : Int) + cst W l = w * (v.length : Int) + cst W l + w
    rw [List.length_cons, Int.natCast_add, Int.mul_add]
    simp; omega
  | w :: W, v :: l, x + 1, h, hx => by
    have := cst_set b W l x (by simpa using h) (by simpa using hx)
    show w * (v.length : Int) + cst W (l.set x (b :: l.getD x [])) = w * (v.length : Int) + cst W l + W.getD x 0
    rw [this]; omega
theorem cst_nonneg : ∀ (W : List Int) (l : List (List Int)), (∀ w ∈ W, 0 ≤ w) → 0 ≤ cst W l
  | [], l, h => by simp [cst]
  | w :: W, [], h => by simp [cst]
  | w :: W, v :: l, h => by
    have h1 := cst_nonneg W l fun x hx => h x (List.mem_cons_of_mem _ hx)
    have h2 : 0 ≤ w * (v.length : Int) := Int.mul_nonneg (h w List.mem_cons_self) (by omega)
    rw [cst]; omega
theorem cst_zero : ∀ (W : List Int) (m : Nat), cst W (List.replicate m []) = 0
  | [], m => by simp [cst]
  | w :: W, 0 => by simp [cst]
  | w :: W, m + 1 => by rw [List.replicate_succ, cst, cst_zero W m]; simp
def pre (b : Int) (r : List Int) (l : List (List Int)) : List (List Int) := r.foldl (fun l x => l.set x.toNat (b :: l.getD x.toNat [])) l
theorem getD_setL (l : List (List Int)) (x y : Nat) (v : List Int) (hx : x < l.length) : (l.set x v).getD y [] = if x = y then v else l.getD y [] := by
  rw [List.getD_eq_getElem?_getD, List.getD_eq_getElem?_getD, List.getElem?_set]
  by_cases h : x = y
  · subst h; simp [hx]
  · simp [h]
theorem pre_len (b : Int) : ∀ (r : List Int) (l : List (List Int)), (pre b r l).length = l.length
  | [], l => rfl
  | x :: r, l => by
    show (pre b r (l.set x.toNat (b :: l.getD x.toNat []))).length = _
    rw [pre_len b r, List.length_set]
theorem pre_cst (b : Int) (W : List Int) : ∀ (r : List Int) (l : List (List Int)), W.length = l.length → (∀ x ∈ r, 0 ≤ x ∧ x < (l.length : Int)) → cst W (pre b r l) = cst W l + wsum W r
  | [], l, h, hr => by simp [pre, wsum]
  | x :: r, l, h, hr => by
    have hx := hr x List.mem_cons_self
    show cst W (pre b r (l.set x.toNat (b :: l.getD x.toNat []))) = _
    rw [pre_cst b W r _ (by rw [List.length_set]; exact h) (fun y hy => by rw [List.length_set]; exact hr y (List.mem_cons_of_mem _ hy)), cst_set b W l x.toNat h (by omega), wsum, wsum, List.map_cons, List.sum_cons]; omega
theorem pre_get (b : Int) : ∀ (r : List Int) (l : List (List Int)), r.Nodup → (∀ x ∈ r, 0 ≤ x ∧ x < (l.length : Int)) → ∀ i : Nat, (pre b r l).getD i [] = if (i : Int) ∈ r then b :: l.getD i [] else l.getD i []
  | [], l, hn, hr, i => by simp [pre]
  | x :: r, l, hn, hr, i => by
    have hx := hr x List.mem_cons_self
    have hn2 := List.nodup_cons.1 hn
    show (pre b r (l.set x.toNat (b :: l.getD x.toNat []))).getD i [] = _
    rw [pre_get b r _ hn2.2 (fun y hy => by rw [List.length_set]; exact hr y (List.mem_cons_of_mem _ hy)) i, getD_setL l x.toNat i _ (by omega)]
    by_cases hi : x.toNat = i
    · have hxi : x = (i : Int) := by omega
      rw [if_pos hi, if_neg (by rw [← hxi]; exact hn2.1), if_pos (by rw [hxi]; exact List.mem_cons_self), hi]
    · have hxi : (i : Int) ≠ x := by omega
      rw [if_neg hi]
      by_cases hm : (i : Int) ∈ r
      · rw [if_pos hm, if_pos (List.mem_cons_of_mem _ hm)]
      · rw [if_neg hm, if_neg fun h => (List.mem_cons.1 h).elim hxi hm]
end Go.Proofs.YtmagglebkbiffaaSx.CC
namespace Go.Proofs.YtmagglebkbiffaaSx.CC
structure WOk (W : List Int) : Prop where
  n1 : 1 ≤ W.length
  n20 : W.length ≤ 20
  w : ∀ x ∈ W, 1 ≤ x ∧ x ≤ 1000000
def wts (rows : List Tr) : List Int := rows.map (·.1)
def allr (rows : List Tr) : List Int := rows.flatMap (·.2.1)
/-- What holds after c turns. -/
structure St (W : List Int) (c : Nat) (cost : Int) (l : List (List Int)) (rows : List Tr) (M : List Int) : Prop where
  ln : l.length = W.length
  nd : (allr rows).Nodup
  mem : ∀ x, x ∈ allr rows ↔ 0 ≤ x ∧ x < (W.length : Int)
  cnt : c + rows.length = W.length
  lens : ∀ i, (l.getD i []).length ≤ c
  bits : ∀ i, ∀ x ∈ l.getD i [], 0 ≤ x ∧ x < 2
  wt : ∀ e ∈ rows, 0 ≤ e.1 ∧ e.1 = wsum W e.2.1
  sum : (wts rows).sum ≤ 20000000
  al : (allr rows).length ≤ 20
  ce : cost = cst W l
  bnd : 0 ≤ cost ∧ cost ≤ (c : Int) * 20000000
  pf : ∀ e ∈ rows, ∀ x ∈ e.2.1, ∀ y ∈ e.2.1, x ≠ y → ¬ l.getD y.toNat [] <+: l.getD x.toNat []
  mm : M.Perm (wts rows)
variable {W : List Int}
theorem perm_sum {a b : List Int} (p : a.Perm b) : a.sum = b.sum := by
  induction p with
  | nil => rfl
  | cons x _ ih => rw [List.sum_cons, List.sum_cons, ih]
  | swap x y l => rw [List.sum_cons, List.sum_cons, List.sum_cons, List.sum_cons]; omega
  | trans _ _ h1 h2 => exact h1.trans h2
theorem St.perm {c : Nat} {cost : Int} {l : List (List Int)} {rows rows' : List Tr} {M : List Int} (s : St W c cost l rows M) (p : rows'.Perm rows) : St W c cost l rows' M := by
  have pa : (allr rows').Perm (allr rows) := p.flatMap_right _
  have pw : (wts rows').Perm (wts rows) := p.map _
  exact ⟨s.ln, pa.nodup_iff.2 s.nd, fun x => (pa.mem_iff).trans (s.mem x), by rw [p.length_eq]; exact s.cnt, s.lens, s.bits, fun e he => s.wt e (p.mem_iff.1 he), by rw [perm_sum pw]; exact s.sum, by rw [pa.length_eq]; exact s.al, s.ce, s.bnd, fun e he => s.pf e (p.mem_iff.1 he), s.mm.trans pw.symm⟩
/-- A row's letters go ahead of its words. -/
theorem pre_l18 (cost : Int) (b x49 : Int) (rows : List Tr) (r : List Int) (hr20 : r.length ≤ 20) (R : Int × Int × List (List Int)) : ∀ m p (l : List (List Int)), r.length - p = m → p ≤ r.length → (∀ x ∈ r, 0 ≤ x ∧ x < (l.length : Int)) → (∀ i, (l.getD i []).length + m ≤ 1000) →
    Ev (fun k => code_Cheap.l15 k cost (Go.IntKind.i64.wrap (x49 + 1)) (pre b (r.drop p) l) rows) R → Ev (fun k => code_Cheap.l18 k cost b x49 r (r.length : Int) (p : Int) l rows) R := by
  intro m
  induction m with
  | zero =>
    intro p l hm hp hr hl E
    rw [List.drop_eq_nil_of_le (by omega)] at E
    refine Ev.step (fun k => ?_) E
    rw [code_Cheap.l18, if_neg (by omega)]; rfl
  | succ m ih =>
    intro p l hm hp hr hl E
    have hx := hr _ (getD_memI r p (by omega))
    have e : rd (Int.ofNat 0) r (p : Int) = r.getD p 0 := rd_nat _ _ _
    rw [drop_getD 0 r p (by omega)] at E
    have hlx := hl (r.getD p 0).toNat
    refine Ev.step (fun k => ?_) (ih (p + 1) (l.set (r.getD p 0).toNat (b :: l.getD (r.getD p 0).toNat [])) (by omega) (by omega) (fun x hx => by rw [List.length_set]; exact hr x hx) (fun i => by
      rw [getD_setL _ _ _ _ (by omega)]
      split
      · rw [List.length_cons]; omega
      · have := hl i; omega) E)
    rw [code_Cheap.l18, if_pos (by omega), if_pos (by omega), if_pos (by omega), e, if_pos (by omega), if_pos (by omega), if_pos (fit1 _ (by rw [List.length_append, List.length_singleton]; omega)), if_pos (by omega), if_pos (by omega), wrS p (by omega)]
    rfl
theorem wsum_app (W r s : List Int) : wsum W (r ++ s) = wsum W r + wsum W s := by rw [wsum, List.map_append, List.sum_append]; rfl
theorem sum_nonneg' : ∀ (rows : List Tr), (∀ e ∈ rows, 0 ≤ e.1) → 0 ≤ (wts rows).sum
  | [], _ => by simp [wts]
  | e :: rows, h => by
    have := sum_nonneg' rows fun x hx => h x (List.mem_cons_of_mem _ hx)
    have := h e List.mem_cons_self
    rw [wts, List.map_cons, List.sum_cons]
    have e2 : wts rows = rows.map (·.1) := rfl
    rw [← e2]; omega
/-- What the law wants. -/
structure Fin (W : List Int) (C : Int) (l : List (List Int)) : Prop where
  ln : l.length = W.length
  lens : ∀ i, (l.getD i []).length ≤ 20
  bits : ∀ i, ∀ x ∈ l.getD i [], 0 ≤ x ∧ x < 2
  ce : C = cst W l
  bnd : 0 ≤ C ∧ C ≤ 400000000
  ap : ∀ i j, i < W.length → j < W.length → i ≠ j → ¬ l.getD j [] <+: l.getD i []
theorem main (O : WOk W) : ∀ (m c : Nat) (cost : Int) (l : List (List Int)) (rows : List Tr) (M : List Int), rows.length = m + 1 → St W c cost l rows M →
    ∃ C lf, Fin W C lf ∧ Ev (fun k => code_Cheap.l12 k cost l rows) (C, 0, lf) ∧ Ev (fun k => evermoreref24_Cheapest.l3 k cost M) C := by
  have n1 := O.n1; have n20 := O.n20
  intro m
  induction m with
  | zero =>
    intro c cost l rows M hm s
    have hml : M.length = 1 := by rw [s.mm.length_eq, wts, List.length_map, hm]
    have hc := s.cnt
    have hb := s.bnd
    refine ⟨cost, l, ⟨s.ln, fun i => by have := s.lens i; omega, s.bits, s.ce, by omega, fun i j hi hj hij => ?_⟩, ?_, ?_⟩
    · match rows, hm, s with
      | [e], _, s =>
        have he : allr [e] = e.2.1 := by simp [allr]
        have h1 := (s.mem (i : Int)).2 (by omega)
        have h2 := (s.mem (j : Int)).2 (by omega)
        rw [he] at h1 h2
        have := s.pf e List.mem_cons_self _ h1 _ h2 (by omega)
        rw [Int.toNat_natCast, Int.toNat_natCast] at this
        exact this
    · refine Ev.step (h := fun _ => some (cost, 0, l)) (fun k => ?_) (Ev.now _)
      rw [code_Cheap.l12, if_neg (by omega)]
    · refine Ev.step (h := fun _ => some cost) (fun k => ?_) (Ev.now _)
      rw [evermoreref24_Cheapest.l3, if_neg (by omega)]
  | succ m ih =>
    intro c cost l rows M hm s0
    have hc0 := s0.cnt
    obtain ⟨rows', p1, p2, p3⟩ := sort_ev rows (by omega) (by omega)
    have s := s0.perm p1
    have hl' := p1.length_eq
    rw [← hl'] at p2
    have hm' : rows'.length = m + 2 := by omega
    clear s0
    -- the rows by name
    obtain ⟨e0, e1, rest, hrows⟩ : ∃ e0 e1 rest, rows' = e0 :: e1 :: rest := by
      match rows', hm' with
      | a :: b :: r, _ => exact ⟨a, b, r, rfl⟩
    have hrl : rest.length = m := by rw [hrows] at hm'; simpa using hm'
    have hlen' : (rows'.length : Int) = (m : Int) + 2 := by omega
    have sum0 := s.sum
    have hw0 := s.wt e0 (by rw [hrows]; simp)
    have hw1 := s.wt e1 (by rw [hrows]; simp)
    have hwr : ∀ e ∈ rest, 0 ≤ e.1 := fun e he => (s.wt e (by rw [hrows]; simp [he])).1
    have hsr := sum_nonneg' rest hwr
    have hsum : (wts rows').sum = e0.1 + (e1.1 + (wts rest).sum) := by rw [hrows]; simp [wts]
    have hall : allr rows' = e0.2.1 ++ (e1.2.1 ++ allr rest) := by rw [hrows]; simp [allr]
    have nd := s.nd
    rw [hall] at nd
    obtain ⟨nd0, nd1, dj⟩ := List.nodup_append.1 nd
    obtain ⟨nd2, nd3, dj2⟩ := List.nodup_append.1 nd1
    have hm0 : ∀ x ∈ e0.2.1, 0 ≤ x ∧ x < (W.length : Int) := fun x hx => (s.mem x).1 (by rw [hall]; exact List.mem_append_left _ hx)
    have hm1 : ∀ x ∈ e1.2.1, 0 ≤ x ∧ x < (W.length : Int) := fun x hx => (s.mem x).1 (by rw [hall]; exact List.mem_append_right _ (List.mem_append_left _ hx))
    have hal := s.al
    rw [hall, List.length_append, List.length_append] at hal
    -- the reference's turn
    have hmlen : M.length = rows'.length := by rw [s.mm.length_eq, wts, List.length_map]
    have hle : ∀ (rows : List Tr), (∀ e ∈ rows, 0 ≤ e.1) → ∀ x ∈ wts rows, 0 ≤ x ∧ x ≤ (wts rows).sum := by
      intro rows
      induction rows with
      | nil => intro _ x hx; simp [wts] at hx
      | cons e rows ihr =>
        intro h x hx
        have h1 := sum_nonneg' rows fun y hy => h y (List.mem_cons_of_mem _ hy)
        have h2 := h e List.mem_cons_self
        have e2 : (wts (e :: rows)).sum = e.1 + (wts rows).sum := by simp [wts]
        rcases List.mem_cons.1 (show x ∈ e.1 :: wts rows from hx) with h3 | h3
        · omega
        · have := ihr (fun y hy => h y (List.mem_cons_of_mem _ hy)) x h3; omega
    have hMb : ∀ x ∈ M, 0 ≤ x ∧ x ≤ 1000000000 := by
      intro x hx
      have := hle rows' (fun e he => (s.wt e he).1) x (s.mm.mem_iff.1 hx)
      omega
    have hcn := s.cnt
    have hbnd := s.bnd
    obtain ⟨a, b, rs, q1, q2, q3, q4⟩ := ref_step M (by omega) (by omega) cost (by omega) hMb
    have hkey : ∀ p q, p < q → q < m + 2 → key rows' p ≤ key rows' q := fun p q h1 h2 => p2 p q h1 (by omega)
    have hge : ∀ p q : Nat, p < q → q < m + 2 → (rows'.getD p z).1 ≤ (rows'.getD q z).1 := hkey
    have hs1 : ∀ x ∈ wts rest, e1.1 ≤ x := by
      intro x hx
      obtain ⟨e, he, rfl⟩ := List.mem_map.1 hx
      obtain ⟨j, hj, rfl⟩ := List.mem_iff_getElem.1 he
      have := hge 1 (j + 2) (by omega) (by omega)
      rw [hrows] at this
      have e3 : (e0 :: e1 :: rest).getD (j + 2) z = rest[j] := by
        show rest.getD j z = _
        exact getD_el z rest j hj
      rw [e3] at this
      exact this
    have hs0 : e0.1 ≤ e1.1 := by
      have := hge 0 1 (by omega) (by omega)
      rw [hrows] at this
      exact this
    have qp : (a :: b :: rs).Perm (e0.1 :: e1.1 :: wts rest) := by
      have := q1.trans s.mm
      rw [hrows] at this; exact this
    obtain ⟨ha, qp2⟩ := least_eq qp q2 (fun x hx => by
      rcases List.mem_cons.1 hx with h | h
      · omega
      · have := hs1 x h; omega)
    obtain ⟨hb, qp3⟩ := least_eq qp2 q3 hs1
    subst ha hb
    -- the words after the turn
    obtain ⟨l1, hl1⟩ : ∃ l1, l1 = pre 0 e0.2.1 l := ⟨_, rfl⟩
    obtain ⟨l2, hl2⟩ : ∃ l2, l2 = pre 1 e1.2.1 l1 := ⟨_, rfl⟩
    have ln1 : l1.length = W.length := by rw [hl1, pre_len, s.ln]
    have ln2 : l2.length = W.length := by rw [hl2, pre_len, ln1]
    have g1 : ∀ i : Nat, l1.getD i [] = if (i : Int) ∈ e0.2.1 then 0 :: l.getD i [] else l.getD i [] := fun i => by
      rw [hl1]; exact pre_get 0 e0.2.1 l nd0 (by rw [s.ln]; exact hm0) i
    have g2 : ∀ i : Nat, l2.getD i [] = if (i : Int) ∈ e1.2.1 then 1 :: l1.getD i [] else l1.getD i [] := fun i => by
      rw [hl2]; exact pre_get 1 e1.2.1 l1 nd2 (by rw [ln1]; exact hm1) i
    have in0 : ∀ x ∈ e0.2.1, l2.getD x.toNat [] = 0 :: l.getD x.toNat [] := by
      intro x hx
      have h1 := hm0 x hx
      have hxe : ((x.toNat : Nat) : Int) = x := by omega
      rw [g2, g1, hxe, if_pos hx, if_neg fun h => dj x hx x (List.mem_append_left _ h) rfl]
    have in1 : ∀ x ∈ e1.2.1, l2.getD x.toNat [] = 1 :: l.getD x.toNat [] := by
      intro x hx
      have h1 := hm1 x hx
      have hxe : ((x.toNat : Nat) : Int) = x := by omega
      rw [g2, g1, hxe, if_pos hx, if_neg fun h => dj x h x (List.mem_append_left _ hx) rfl]
    have inr : ∀ x ∈ allr rest, l2.getD x.toNat [] = l.getD x.toNat [] := by
      intro x hx
      have h1 := (s.mem x).1 (by rw [hall]; exact List.mem_append_right _ (List.mem_append_right _ hx))
      have hxe : ((x.toNat : Nat) : Int) = x := by omega
      rw [g2, g1, hxe, if_neg fun h => dj2 x h x hx rfl, if_neg fun h => dj x h x (List.mem_append_right _ hx) rfl]
    have hstep : ∀ i, l2.getD i [] = l.getD i [] ∨ l2.getD i [] = 0 :: l.getD i [] ∨ l2.getD i [] = 1 :: l.getD i [] := by
      intro i
      by_cases h0 : (i : Int) ∈ e0.2.1
      · have := in0 _ h0; rw [Int.toNat_natCast] at this; exact .inr (.inl this)
      · by_cases h1 : (i : Int) ∈ e1.2.1
        · have := in1 _ h1; rw [Int.toNat_natCast] at this; exact .inr (.inr this)
        · left; rw [g2, g1, if_neg h0, if_neg h1]
    have hcst : cst W l2 = cost + (e0.1 + e1.1) := by
      rw [hl2, pre_cst 1 W e1.2.1 l1 ln1.symm (by rw [ln1]; exact hm1), hl1, pre_cst 0 W e0.2.1 l s.ln.symm (by rw [s.ln]; exact hm0), ← s.ce, ← hw0.2, ← hw1.2]; omega
    obtain ⟨e2, he2⟩ : ∃ e2 : Tr, e2 = (e0.1 + e1.1, e0.2.1 ++ e1.2.1, ()) := ⟨_, rfl⟩
    have hallp : (allr (rest ++ [e2])).Perm (allr rows') := by
      rw [hall]
      have : allr (rest ++ [e2]) = allr rest ++ (e0.2.1 ++ e1.2.1) := by rw [he2]; simp [allr]
      rw [this, ← List.append_assoc e0.2.1]
      exact List.perm_append_comm
    have hws : wts (rest ++ [e2]) = wts rest ++ [e0.1 + e1.1] := by rw [he2]; simp [wts]
    have S2 : St W (c + 1) (cost + (e0.1 + e1.1)) l2 (rest ++ [e2]) ((e0.1 + e1.1) :: rs) := by
      refine ⟨ln2, hallp.nodup_iff.2 s.nd, fun x => hallp.mem_iff.trans (s.mem x), by rw [List.length_append, List.length_singleton]; omega, fun i => ?_, fun i x hx => ?_, fun e he => ?_, ?_, by rw [hallp.length_eq]; exact s.al, hcst.symm, ?_, fun e he x hx y hy hxy => ?_, ?_⟩
      · have := s.lens i
        rcases hstep i with h | h | h <;> rw [h] <;> (try rw [List.length_cons]) <;> omega
      · have hbi := s.bits i
        rcases hstep i with h | h | h <;> rw [h] at hx
        · exact hbi x hx
        · rcases List.mem_cons.1 hx with h' | h'
          · omega
          · exact hbi x h'
        · rcases List.mem_cons.1 hx with h' | h'
          · omega
          · exact hbi x h'
      · rcases List.mem_append.1 he with h | h
        · exact s.wt e (by rw [hrows]; simp [h])
        · rw [List.mem_singleton.1 h, he2]
          show 0 ≤ e0.1 + e1.1 ∧ e0.1 + e1.1 = wsum W (e0.2.1 ++ e1.2.1)
          rw [wsum_app, ← hw0.2, ← hw1.2]; omega
      · rw [hws, List.sum_append]; simp; omega
      · rw [Int.natCast_add, Int.add_mul]; omega
      · rcases List.mem_append.1 he with h | h
        · have hxr : x ∈ allr rest := List.mem_flatMap.2 ⟨e, h, hx⟩
          have hyr : y ∈ allr rest := List.mem_flatMap.2 ⟨e, h, hy⟩
          rw [inr x hxr, inr y hyr]
          exact s.pf e (by rw [hrows]; simp [h]) x hx y hy hxy
        · rw [List.mem_singleton.1 h, he2] at hx hy
          rcases List.mem_append.1 hx with hx | hx <;> rcases List.mem_append.1 hy with hy | hy
          · rw [in0 x hx, in0 y hy, List.cons_prefix_cons]
            exact fun h => s.pf e0 (by rw [hrows]; simp) x hx y hy hxy h.2
          · rw [in0 x hx, in1 y hy, List.cons_prefix_cons]
            exact fun h => absurd h.1 (by decide)
          · rw [in1 x hx, in0 y hy, List.cons_prefix_cons]
            exact fun h => absurd h.1 (by decide)
          · rw [in1 x hx, in1 y hy, List.cons_prefix_cons]
            exact fun h => s.pf e1 (by rw [hrows]; simp) x hx y hy hxy h.2
      · rw [hws]
        exact (List.Perm.cons _ qp3).trans (List.perm_append_comm (l₁ := [e0.1 + e1.1]))
    obtain ⟨C, lf, f1, f2, f3⟩ := ih (c + 1) _ l2 (rest ++ [e2]) _ (by rw [List.length_append, List.length_singleton, hrl]) S2
    refine ⟨C, lf, f1, ?_, q4 C f3⟩
    refine Ev.step (fun k => by rw [code_Cheap.l12, if_pos (by omega)]) (Ev.bind p3 ?_)
    have t0 : rows'.getD (Int.toNat 0) (Int.ofNat 0, [], ()) = e0 := by rw [hrows]; rfl
    have t1 : rows'.getD (Int.toNat 1) (Int.ofNat 0, [], ()) = e1 := by rw [hrows]; rfl
    refine Ev.step (fun k => by rw [code_Cheap.l15, if_pos (by decide), if_pos (by decide), if_pos (by omega), t0]) ?_
    refine pre_l18 cost 0 0 rows' e0.2.1 (by omega) _ _ 0 l rfl (by omega) (by rw [s.ln]; exact hm0) (fun i => by have := s.lens i; omega) ?_
    rw [List.drop_zero, ← hl1, show Go.IntKind.i64.wrap (0 + 1) = 1 by decide]
    refine Ev.step (fun k => by rw [code_Cheap.l15, if_pos (by decide), if_pos (by decide), if_pos (by omega), t1]) ?_
    refine pre_l18 cost 1 1 rows' e1.2.1 (by omega) _ _ 0 l1 rfl (by omega) (by rw [ln1]; exact hm1) (fun i => by
      have := s.lens i
      rw [g1]; split
      · rw [List.length_cons]; omega
      · omega) ?_
    rw [List.drop_zero, ← hl2, show Go.IntKind.i64.wrap (1 + 1) = 2 by decide]
    have w1 : Go.IntKind.i64.wrap (e0.1 + e1.1) = e0.1 + e1.1 := by rw [wr64] <;> omega
    have w2 : Go.IntKind.i64.wrap (cost + (e0.1 + e1.1)) = cost + (e0.1 + e1.1) := by rw [wr64] <;> omega
    have htk : List.take ((rows'.length : Int).toNat - Int.toNat 2) (List.drop (Int.toNat 2) rows') = rest := by
      rw [hrows]
      show List.take _ rest = rest
      rw [List.take_of_length_le]
      rw [Int.toNat_natCast, List.length_cons, List.length_cons]
      show _ ≤ rest.length + 1 + 1 - 2
      omega
    refine Ev.step (fun k => by rw [code_Cheap.l15, if_neg (by decide), if_pos (by decide), if_pos (by omega), if_pos (by decide), if_pos (by omega), if_pos (by decide), if_pos (by omega), if_pos (by decide), if_pos (by omega), t0, t1]) (Ev.bind (concat_ev e0.2.1 e1.2.1 (by omega) (by omega)) ?_)
    simp only [if_pos (show (0 : Int) ≤ 2 by decide), if_pos (show (2 : Int) ≤ (rows'.length : Int) by omega), if_pos (show (rows'.length : Int) ≤ (rows'.length : Int) by omega), htk, w1, w2]
    rw [← he2]
    simp only [if_pos (fit1 (b := 32) (rest ++ [e2]).length (by rw [List.length_append, List.length_singleton]; omega))]
    exact f2
end Go.Proofs.YtmagglebkbiffaaSx.CC
namespace Go.Proofs.YtmagglebkbiffaaSx.CC
def WordOk (A : Int) (w : List Int) : Prop := ∀ x ∈ w, 0 ≤ x ∧ x < A
theorem words_l4 (a b : List Int) (ha : a.length ≤ 140737488351232) (hb : a.length = b.length) : ∀ n i, a.length - i = n → i ≤ a.length → Ev (fun k => evermoreref1_Words.l4 k a b (i : Int)) (decide (a.drop i = b.drop i)) := by
  intro n
  induction n with
  | zero =>
    intro i hn hi
    refine Ev.step (fun k => by rw [evermoreref1_Words.l4]) ?_
    simp only [if_neg (show ¬ (i : Int) < (a.length : Int) by omega)]
    rw [List.drop_eq_nil_of_le (by omega), List.drop_eq_nil_of_le (by omega)]; exact Ev.now _
  | succ n ih =>
    intro i hn hi
    refine Ev.step (fun k => by rw [evermoreref1_Words.l4]) ?_
    simp only [if_pos (show (i : Int) < (a.length : Int) by omega), if_pos (show (0 : Int) ≤ (i : Int) by omega), if_pos (show (i : Int) < (b.length : Int) by omega), rd_nat, wrS i (by omega)]
    rw [drop_getD (Int.ofNat 0) a i (by omega), drop_getD (Int.ofNat 0) b i (by omega)]
    by_cases h1 : a.getD i (Int.ofNat 0) = b.getD i (Int.ofNat 0)
    · simp only [if_pos h1]; refine (ih (i + 1) (by omega) (by omega)).cast ?_; simp only [List.cons.injEq, h1, true_and]
    · simp only [if_neg h1]; refine (Ev.now _).cast ?_; simp only [List.cons.injEq, h1, false_and, decide_false]
theorem words_ev (a b : List Int) (ha : a.length ≤ 140737488351232) : Ev (fun k => evermoreref1_Words.f k a b) (decide (a = b)) := by
  by_cases h : a.length = b.length
  · simp only [evermoreref1_Words.f, if_pos (show (a.length : Int) = (b.length : Int) by omega)]
    exact words_l4 a b ha h _ 0 rfl (by omega)
  · simp only [evermoreref1_Words.f, if_neg (show ¬ (a.length : Int) = (b.length : Int) by omega)]
    exact (Ev.now _).cast (decide_eq_false (fun e => h (congrArg _ e))).symm
theorem tk (w : List Int) (n : Nat) : List.take ((n : Int).toNat - Int.toNat 0) (List.drop (Int.toNat 0) w) = w.take n := by simp
theorem begins_ev (w v : List Int) (hw : w.length ≤ 1000) : Ev (fun k => evermoreref24_Begins.f k w v) (decide (v.length ≤ w.length ∧ w.take v.length = v)) := by
  by_cases h : (w.length : Int) < (v.length : Int)
  · simp only [evermoreref24_Begins.f, if_pos h]
    exact (Ev.now _).cast (decide_eq_false (fun h' => by have := h'.1; omega)).symm
  · simp only [evermoreref24_Begins.f, if_neg h, if_pos (show (0 : Int) ≤ 0 by decide), if_pos (show (0 : Int) ≤ (v.length : Int) by omega), if_pos (show (v.length : Int) ≤ (w.length : Int) by omega), tk]
    refine Ev.bind (words_ev (w.take v.length) v (by rw [List.length_take]; omega)) ((Ev.now _).cast ?_)
    by_cases h2 : w.take v.length = v
    · rw [decide_eq_true h2, decide_eq_true ⟨by omega, h2⟩]
    · rw [decide_eq_false h2, decide_eq_false (fun h' => h2 h'.2)]
variable {A : Int}
theorem may_ev (hA : 1 ≤ A ∧ A ≤ 4) (w : List Int) (hw : WordOk A w) (hl : w.length ≤ 60) : Ev (fun k => evermoreref1_May.f k A w) 0 := by
  have l6 : ∀ m i, w.length - i = m → i ≤ w.length → Ev (fun k => evermoreref1_May.l6 k A w (i : Int)) 0 := by
    intro m
    induction m with
    | zero =>
      intro i hm hi
      refine Ev.step (h := fun _ => some 0) (fun k => ?_) (Ev.now _)
      rw [evermoreref1_May.l6, if_neg (by omega)]
    | succ m ih =>
      intro i hm hi
      have e : rd (Int.ofNat 0) w (i : Int) = w.getD i 0 := rd_nat _ _ _
      have hx := hw _ (getD_memI w i (by omega))
      refine Ev.step (fun k => ?_) (ih (i + 1) (by omega) (by omega))
      rw [evermoreref1_May.l6, if_pos (by omega), if_pos (by omega), if_pos (by omega), e, if_neg (by omega), if_pos (by omega), if_pos (by omega), if_neg (by omega), wrS i (by omega)]
  simp only [evermoreref1_May.f, if_neg (show ¬ A < 1 by omega), if_neg (show ¬ 4 < A by omega), if_neg (show ¬ (60 : Int) < (w.length : Int) by omega)]
  exact l6 _ 0 rfl (by omega)

variable {W : List Int}
theorem no_begins {l : List (List Int)} {C : Int} (H : Fin W C l) (i j : Nat) (hi : i < W.length) (hj : j < W.length) (hij : i ≠ j) : ¬ ((l.getD j []).length ≤ (l.getD i []).length ∧ (l.getD i []).take (l.getD j []).length = l.getD j []) := by
  rintro ⟨h1, h2⟩
  refine H.ap i j hi hj hij ?_
  rw [← h2]; exact List.take_prefix _ _
theorem apart_ev {l : List (List Int)} {C : Int} (H : Fin W C l) (h20 : W.length ≤ 20) : Ev (fun k => evermoreref24_Apart.f k l) true := by
  have hl := H.ln
  have l5 : ∀ (i : Nat), i < W.length → ∀ m j, W.length - j = m → j ≤ W.length → ∀ R, Ev (fun k => evermoreref24_Apart.l2 k l ((i + 1 : Nat) : Int)) R → Ev (fun k => evermoreref24_Apart.l5 k l (i : Int) (j : Int)) R := by
    intro i hi m
    induction m with
    | zero =>
      intro j hm hj R E
      refine Ev.step (fun k => ?_) E
      rw [evermoreref24_Apart.l5, if_neg (by omega), wrS i (by omega)]
    | succ m ih =>
      intro j hm hj R E
      have hw := H.lens i
      have ei : rd [] l (i : Int) = l.getD i [] := rd_nat _ _ _
      have ej : rd [] l (j : Int) = l.getD j [] := rd_nat _ _ _
      refine Ev.step (fun k => by rw [evermoreref24_Apart.l5, if_pos (by omega), if_pos (by omega), if_pos (by omega), if_pos (by omega), if_pos (by omega), ei, ej]) (Ev.bind (begins_ev _ _ (by omega)) ?_)
      have hh := ih (j + 1) (by omega) (by omega) R E
      rw [wrS j (by omega)]
      by_cases hij : i = j
      · simp only [if_pos (show (i : Int) = (j : Int) by omega)]; exact hh
      · simp only [if_neg (show ¬ (i : Int) = (j : Int) by omega), decide_eq_false (no_begins H i j hi (by omega) hij), Bool.false_eq_true, if_false]; exact hh
  have l2 : ∀ m i, W.length - i = m → i ≤ W.length → Ev (fun k => evermoreref24_Apart.l2 k l (i : Int)) true := by
    intro m
    induction m with
    | zero =>
      intro i hm hi
      refine Ev.step (h := fun _ => some true) (fun k => ?_) (Ev.now _)
      rw [evermoreref24_Apart.l2, if_neg (by omega)]
    | succ m ih =>
      intro i hm hi
      refine Ev.step (fun k => ?_) (l5 i (by omega) _ 0 rfl (by omega) _ (ih (i + 1) (by omega) (by omega)))
      rw [evermoreref24_Apart.l2, if_pos (by omega)]; rfl
  simp only [evermoreref24_Apart.f]
  exact l2 _ 0 rfl (by omega)
theorem law_l17 (O : WOk W) {l : List (List Int)} {C : Int} (H : Fin W C l) : ∀ m i (s : Int), W.length - i = m → i ≤ W.length → 0 ≤ s → s + cst (W.drop i) (l.drop i) = C → Ev (fun k => evermorelaw_CodeCheap.l17 k W C s (i : Int) l) true := by
  have hl := H.ln
  have n20 := O.n20
  have hC := H.bnd
  intro m
  induction m with
  | zero =>
    intro i s hm hi hs h
    rw [List.drop_eq_nil_of_le (by omega), List.drop_eq_nil_of_le (by omega)] at h
    have h' : s = C := by simpa [cst] using h
    refine Ev.step (fun k => by rw [evermorelaw_CodeCheap.l17, if_neg (by omega)]) (Ev.bind (apart_ev H n20) ?_)
    simp only [if_pos h']; exact Ev.now _
  | succ m ih =>
    intro i s hm hi hs h
    have hw := O.w _ (getD_memI W i (by omega))
    have hlen := H.lens i
    have e : rd (Int.ofNat 0) W (i : Int) = W.getD i 0 := rd_nat _ _ _
    have nn := cst_nonneg (W.drop (i + 1)) (l.drop (i + 1)) fun x hx => by have := O.w x (List.mem_of_mem_drop hx); omega
    rw [drop_getD 0 W i (by omega), drop_getD [] l i (by omega), cst] at h
    have hp0 : 0 ≤ W.getD i 0 * ((l.getD i []).length : Int) := Int.mul_nonneg (by omega) (by omega)
    have hp1 : W.getD i 0 * ((l.getD i []).length : Int) ≤ C := by omega
    have w1 : Go.IntKind.i64.wrap (W.getD i 0 * ((l.getD i []).length : Int)) = W.getD i 0 * ((l.getD i []).length : Int) := by rw [wr64] <;> omega
    have w2 : Go.IntKind.i64.wrap (s + W.getD i 0 * ((l.getD i []).length : Int)) = s + W.getD i 0 * ((l.getD i []).length : Int) := by rw [wr64] <;> omega
    refine Ev.step (fun k => by rw [evermorelaw_CodeCheap.l17, if_pos (by omega), if_pos (by omega), if_pos (by omega), Int.toNat_natCast]) (Ev.bind (may_ev (A := Int.ofNat 2) (by decide) _ (fun x hx => H.bits i x hx) (by omega)) ?_)
    simp only [if_true, if_pos (show (0 : Int) ≤ (i : Int) by omega), if_pos (show (i : Int) < (l.length : Int) by omega), if_pos (show (i : Int) < (W.length : Int) by omega), e, w1, w2, wrS i (by omega)]
    exact ih (i + 1) _ (by omega) (by omega) (by omega) (by omega)
theorem law_no (no i : Int) (h : no ≠ 0) : Ev (fun k => evermorelaw_CodeCheap.l6 k W 0 no no i []) true := by
  refine Ev.step (h := fun _ => some true) (fun k => ?_) (Ev.now _)
  rw [evermorelaw_CodeCheap.l6]
  by_cases h1 : i < (W.length : Int)
  · rw [if_pos h1, if_neg h, if_neg h, if_pos rfl]; rfl
  · rw [if_neg h1, if_neg h, if_pos rfl]; rfl
theorem law_j5 (no : Int) (h : no ≠ 0) : Ev (fun k => evermorelaw_CodeCheap.j5 k W 0 no no []) true :=
  Ev.step (fun k => by rw [evermorelaw_CodeCheap.j5]) (law_no (W := W) no 0 h)
def badW (n : Int) : Bool := decide (n < 1) || decide (1000000 < n)
theorem law_bad (h20 : W.length ≤ 20) : ∀ m i, W.length - i = m → i ≤ W.length → (W.drop i).any badW = true → Ev (fun k => evermorelaw_CodeCheap.l6 k W 0 2 0 (i : Int) []) true := by
  intro m
  induction m with
  | zero =>
    intro i hm hi h
    rw [List.drop_eq_nil_of_le (by omega)] at h; cases h
  | succ m ih =>
    intro i hm hi h
    rw [drop_getD 0 W i (by omega), List.any_cons] at h
    have e : rd (Int.ofNat 0) W (i : Int) = W.getD i 0 := rd_nat _ _ _
    have j9 : ∀ k, evermorelaw_CodeCheap.j7 (k + 1) W 0 2 2 (i : Int) [] = evermorelaw_CodeCheap.l6 k W 0 2 2 (Go.IntKind.i64.wrap ((i : Int) + 1)) [] := fun k => by rw [evermorelaw_CodeCheap.j7]
    have E2 : Ev (fun k => evermorelaw_CodeCheap.j7 k W 0 2 2 (i : Int) []) true := Ev.step j9 (law_no (W := W) 2 _ (by decide))
    by_cases h1 : W.getD i 0 < 1
    · refine Ev.step (fun k => ?_) E2
      rw [evermorelaw_CodeCheap.l6, if_pos (by omega), if_pos rfl, if_pos (by omega), if_pos (by omega), e, if_pos h1]
    · by_cases h2 : 1000000 < W.getD i 0
      · refine Ev.step (fun k => ?_) E2
        rw [evermorelaw_CodeCheap.l6, if_pos (by omega), if_pos rfl, if_pos (by omega), if_pos (by omega), e, if_neg h1, if_pos (by omega), if_pos (by omega), if_pos h2]
      · have hb : badW (W.getD i 0) = false := by rw [badW, decide_eq_false h1, decide_eq_false h2]; rfl
        rw [hb, Bool.false_or] at h
        refine Ev.step (h := fun k => evermorelaw_CodeCheap.j7 k W 0 2 0 (i : Int) []) (fun k => ?_) (Ev.step (fun k => ?_) (ih (i + 1) (by omega) (by omega) h))
        · rw [evermorelaw_CodeCheap.l6, if_pos (by omega), if_pos rfl, if_pos (by omega), if_pos (by omega), e, if_neg h1, if_pos (by omega), if_pos (by omega), if_neg h2]
        · rw [evermorelaw_CodeCheap.j7, wrS i (by omega)]
theorem law_good (O : WOk W) (C : Int) (l : List (List Int)) (R : Bool) (E : Ev (fun k => evermorelaw_CodeCheap.l6 k W C 0 0 (W.length : Int) l) R) : ∀ m i, W.length - i = m → i ≤ W.length → Ev (fun k => evermorelaw_CodeCheap.l6 k W C 0 0 (i : Int) l) R := by
  have n20 := O.n20
  intro m
  induction m with
  | zero =>
    intro i hm hi
    rw [show i = W.length by omega]; exact E
  | succ m ih =>
    intro i hm hi
    have e : rd (Int.ofNat 0) W (i : Int) = W.getD i 0 := rd_nat _ _ _
    have hx := O.w _ (getD_memI W i (by omega))
    refine Ev.step (h := fun k => evermorelaw_CodeCheap.j7 k W C 0 0 (i : Int) l) (fun k => ?_) (Ev.step (fun k => ?_) (ih (i + 1) (by omega) (by omega)))
    · rw [evermorelaw_CodeCheap.l6, if_pos (by omega), if_pos rfl, if_pos (by omega), if_pos (by omega), e, if_neg (by omega), if_pos (by omega), if_pos (by omega), if_neg (by omega)]
    · rw [evermorelaw_CodeCheap.j7, wrS i (by omega)]
/-! The rows at the beginning. -/
def row0 (W : List Int) (i : Nat) : List Tr := (List.range i).map fun j : Nat => (W.getD j 0, [(j : Int)], ())
theorem row0_succ (i : Nat) : row0 W (i + 1) = row0 W i ++ [(W.getD i 0, [(i : Int)], ())] := by
  rw [row0, List.range_succ, List.map_append]; rfl
theorem ini_bad (h20 : W.length ≤ 20) : ∀ m i, W.length - i = m → i ≤ W.length → (W.drop i).any badW = true → Ev (fun k => code_Cheap.l5 k W 0 W (W.length : Int) (i : Int) (row0 W i)) (0, 2, []) := by
  intro m
  induction m with
  | zero =>
    intro i hm hi h
    rw [List.drop_eq_nil_of_le (by omega)] at h; cases h
  | succ m ih =>
    intro i hm hi h
    rw [drop_getD 0 W i (by omega), List.any_cons] at h
    have e : rd (Int.ofNat 0) W (i : Int) = W.getD i 0 := rd_nat _ _ _
    by_cases h1 : W.getD i 0 < 1
    · refine Ev.step (h := fun _ => some (0, 2, [])) (fun k => ?_) (Ev.now _)
      rw [code_Cheap.l5, if_pos (by omega), if_pos (by omega), if_pos (by omega), e, if_pos h1]
    · by_cases h2 : 1000000 < W.getD i 0
      · refine Ev.step (h := fun _ => some (0, 2, [])) (fun k => ?_) (Ev.now _)
        rw [code_Cheap.l5, if_pos (by omega), if_pos (by omega), if_pos (by omega), e, if_neg h1, if_pos h2]
      · have hb : badW (W.getD i 0) = false := by rw [badW, decide_eq_false h1, decide_eq_false h2]; rfl
        rw [hb, Bool.false_or] at h
        refine Ev.step (fun k => ?_) (ih (i + 1) (by omega) (by omega) h)
        rw [code_Cheap.l5, if_pos (by omega), if_pos (by omega), if_pos (by omega), e, if_neg h1, if_neg h2, wrS i (by omega), row0_succ]
        exact if_pos (fit1 _ (by rw [List.length_append, List.length_singleton, row0, List.length_map, List.length_range]; omega))
theorem ini_good (O : WOk W) (R : Int × Int × List (List Int)) (E : Ev (fun k => code_Cheap.l12 k 0 (List.replicate W.length []) (row0 W W.length)) R) : ∀ m i, W.length - i = m → i ≤ W.length → Ev (fun k => code_Cheap.l5 k W 0 W (W.length : Int) (i : Int) (row0 W i)) R := by
  have n20 := O.n20
  intro m
  induction m with
  | zero =>
    intro i hm hi
    rw [show i = W.length by omega]
    refine Ev.step (fun k => ?_) E
    rw [code_Cheap.l5, if_neg (by omega), if_pos (by omega), if_pos (by omega), if_pos (by omega), Int.toNat_natCast]
  | succ m ih =>
    intro i hm hi
    have e : rd (Int.ofNat 0) W (i : Int) = W.getD i 0 := rd_nat _ _ _
    have hx := O.w _ (getD_memI W i (by omega))
    refine Ev.step (fun k => ?_) (ih (i + 1) (by omega) (by omega))
    rw [code_Cheap.l5, if_pos (by omega), if_pos (by omega), if_pos (by omega), e, if_neg (by omega), if_neg (by omega), wrS i (by omega), row0_succ]
    exact if_pos (fit1 _ (by rw [List.length_append, List.length_singleton, row0, List.length_map, List.length_range]; omega))
theorem allr_row0 : ∀ i, allr (row0 W i) = (List.range i).map (fun j : Nat => (j : Int))
  | 0 => rfl
  | i + 1 => by
    have := allr_row0 i
    unfold allr at this ⊢
    rw [row0_succ, List.flatMap_append, this, List.range_succ, List.map_append]; rfl
theorem sum_le : ∀ (W : List Int), (∀ x ∈ W, x ≤ 1000000) → W.sum ≤ (W.length : Int) * 1000000
  | [], _ => by simp
  | w :: W, h => by
    have h1 := sum_le W fun x hx => h x (List.mem_cons_of_mem _ hx)
    have h2 := h w List.mem_cons_self
    rw [List.sum_cons, List.length_cons]; omega
theorem wts_row0 : wts (row0 W W.length) = W := by
  refine List.ext_getElem (by simp [wts, row0]) fun i h1 h2 => ?_
  simp only [wts, row0, List.getElem_map, List.getElem_range]
  exact getD_el 0 W i h2
theorem st0 (O : WOk W) : St W 0 0 (List.replicate W.length []) (row0 W W.length) W := by
  have n20 := O.n20
  have hg : ∀ i, (List.replicate W.length ([] : List Int)).getD i [] = [] := by
    intro i
    rw [List.getD_eq_getElem?_getD, List.getElem?_replicate]; split <;> rfl
  refine ⟨List.length_replicate, ?_, fun x => ?_, by simp [row0], fun i => by rw [hg]; simp, fun i x hx => by rw [hg] at hx; simp at hx, fun e he => ?_, ?_, ?_, (cst_zero W _).symm, by simp, fun e he x hx y hy hxy => ?_, ?_⟩
  · rw [allr_row0]
    refine List.pairwise_map.2 (List.nodup_range.imp fun h h' => h (by omega))
  · rw [allr_row0, List.mem_map]
    constructor
    · rintro ⟨j, hj, rfl⟩
      have := List.mem_range.1 hj; omega
    · intro h
      exact ⟨x.toNat, List.mem_range.2 (by omega), by omega⟩
  · obtain ⟨j, hj, rfl⟩ := List.mem_map.1 he
    have hj2 := List.mem_range.1 hj
    have := O.w _ (getD_memI W j hj2)
    refine ⟨by show 0 ≤ W.getD j 0; omega, ?_⟩
    show W.getD j 0 = wsum W [(j : Int)]
    simp [wsum]
  · rw [wts_row0]
    have := sum_le W fun x hx => (O.w x hx).2
    omega
  · rw [allr_row0]; simp; exact n20
  · obtain ⟨j, hj, rfl⟩ := List.mem_map.1 he
    have h1 : x = (j : Int) := List.mem_singleton.1 hx
    have h2 : y = (j : Int) := List.mem_singleton.1 hy
    omega
  · rw [wts_row0]
theorem CodeCheap : evermorelaw_CodeCheap.PureH := by
  intro W okW
  refine Ev.get ?_
  simp only [evermorelaw_CodeCheap.f, code_Cheap.f]
  by_cases hn1 : (W.length : Int) < 1
  · simp only [if_pos hn1]
    exact Ev.bind (x := (0, 1, [])) (Ev.now _) (law_j5 (W := W) 1 (by decide))
  by_cases hn20 : 20 < (W.length : Int)
  · simp only [if_neg hn1, if_pos hn20]
    exact Ev.bind (x := (0, 1, [])) (Ev.now _) (law_j5 (W := W) 1 (by decide))
  simp only [if_neg hn1, if_neg hn20]
  have h20 : W.length ≤ 20 := by omega
  cases hb : W.any badW with
  | true =>
    refine Ev.bind (x := (0, 2, [])) (ini_bad h20 _ 0 rfl (by omega) (by rw [List.drop_zero]; exact hb)) ?_
    refine Ev.step (h := fun k => evermorelaw_CodeCheap.l6 k W 0 2 0 0 []) (fun k => by rw [evermorelaw_CodeCheap.j5]) ?_
    exact law_bad h20 _ 0 rfl (by omega) (by rw [List.drop_zero]; exact hb)
  | false =>
    have O : WOk W := ⟨by omega, h20, fun x hx => by
      have := List.any_eq_false.1 hb x hx
      simp [badW] at this
      omega⟩
    obtain ⟨C, lf, f1, f2, f3⟩ := main O (W.length - 1) 0 0 _ _ W (by simp [row0]; omega) (st0 O)
    refine Ev.bind (x := (C, 0, lf)) (ini_good O _ f2 _ 0 rfl (by omega)) ?_
    refine Ev.step (h := fun k => evermorelaw_CodeCheap.l6 k W C 0 0 0 lf) (fun k => by rw [evermorelaw_CodeCheap.j5]) ?_
    refine law_good O C lf _ ?_ _ 0 rfl (by omega)
    have hr : Ev (fun k => evermoreref24_Cheapest.f k W) C := by
      simp only [evermoreref24_Cheapest.f, List.nil_append, if_pos (fit1 (b := 8) W.length (by omega))]
      exact f3
    refine Ev.step (fun k => by rw [evermorelaw_CodeCheap.l6, if_neg (by omega), if_pos rfl]) (Ev.bind hr ?_)
    have hl := f1.ln
    simp only [if_true, if_pos (show (lf.length : Int) = (W.length : Int) by omega)]
    exact law_l17 O f1 _ 0 0 rfl (by omega) (by decide) (by rw [List.drop_zero, List.drop_zero, Int.zero_add]; exact f1.ce.symm)
end Go.Proofs.YtmagglebkbiffaaSx.CC
namespace Go.Proofs.Ytmagglebkbiffaa
theorem Pure.CodeCheap : Go.Proofs.YtmagglebkbiffaaSx.evermorelaw_CodeCheap.PureH := Go.Proofs.YtmagglebkbiffaaSx.CC.CodeCheap
end Go.Proofs.Ytmagglebkbiffaa
