import Derived.Test.YtmagglebkbiffaaGCodeKraft
import Derived.Test.YtmagglebkbiffaaSxW
import Derived.Test.YtmagglebkbiffaaSxV2
set_option linter.unusedVariables false
set_option linter.unusedSimpArgs false
namespace Go.Proofs.YtmagglebkbiffaaSx
/-- With enough fuel. -/
def Ev {α : Type} (g : Nat → Option α) (r : α) : Prop := ∃ k0, ∀ k, k0 ≤ k → g k = some r
theorem Ev.now {α : Type} (r : α) : Ev (fun _ => some r) r := ⟨0, fun _ _ => rfl⟩
theorem Ev.all {α : Type} {g : Nat → Option α} {r : α} (h : ∀ k, g k = some r) : Ev g r := ⟨0, fun k _ => h k⟩
theorem Ev.step {α : Type} {g h : Nat → Option α} {r : α} (e : ∀ k, g (k + 1) = h k) (H : Ev h r) : Ev g r := by
  obtain ⟨k0, H⟩ := H
  refine ⟨k0 + 1, fun k hk => ?_⟩
  obtain ⟨k, rfl⟩ : ∃ j, k = j + 1 := ⟨k - 1, by omega⟩
  rw [e]; exact H _ (by omega)
theorem Ev.bind {α β : Type} {g : Nat → Option α} {h : Nat → α → Option β} {x : α} {r : β} (G : Ev g x) (H : Ev (fun k => h k x) r) : Ev (fun k => (g k).bind (h k)) r := by
  obtain ⟨a, G⟩ := G
  obtain ⟨b, H⟩ := H
  refine ⟨max a b, fun k hk => ?_⟩
  show (g k).bind (h k) = some r
  rw [G k (by omega)]; exact H k (by omega)
theorem Ev.get {α : Type} {g : Nat → Option α} {r : α} (H : Ev g r) : ∃ k, g k = some r := H.elim fun k0 H => ⟨k0, H k0 (Nat.le_refl _)⟩
theorem Ev.cast {α : Type} {g : Nat → Option α} {r r' : α} (H : Ev g r) (e : r = r') : Ev g r' := e ▸ H

theorem wr64 (n : Int) (h0 : -9223372036854775808 ≤ n) (h1 : n < 9223372036854775808) : IntKind.i64.wrap n = n := by rw [IntKind.wrap_i64]; omega
theorem wrSucc (i : Nat) (h : i < 1000000000) : IntKind.i64.wrap ((i : Int) + 1) = ((i + 1 : Nat) : Int) := by rw [wr64] <;> omega
theorem rd_nat {α : Type} (d : α) (w : List α) (i : Nat) : rd d w (i : Int) = w.getD i d := by simp [rd]
theorem drop_getD {α : Type} (d : α) (w : List α) (i : Nat) (h : i < w.length) : w.drop i = w.getD i d :: w.drop (i + 1) := by
  rw [List.drop_eq_getElem_cons h]; simp [List.getD, h]
theorem short (n : Nat) (h : n < 1000000000) : Nat.blt n 1000000000 = true := Nat.ble_eq_true_of_le (by omega)
theorem fits (n b : Nat) (hb : b ≤ 1000) (h : n < 100000000000) : fitsIn n b = true := by
  have h1 : n * b ≤ 100000000000 * 1000 := Nat.mul_le_mul (by omega) hb
  exact Nat.ble_eq_true_of_le (by omega)
theorem fit1 {b : Nat} (n : Nat) (h : n < 1000000000) (hb : b ≤ 4096 := by decide) : fitsIn n b = true := by
  have h1 : n * b ≤ 1000000000 * 4096 := Nat.mul_le_mul (by omega) hb
  exact Nat.ble_eq_true_of_le (by omega)
end Go.Proofs.YtmagglebkbiffaaSx
namespace Go.Proofs.YtmagglebkbiffaaSx.KR
theorem wrS (i : Nat) (h : i < 9223372036854775807) : Go.IntKind.i64.wrap ((i : Int) + 1) = ((i + 1 : Nat) : Int) := by rw [wr64] <;> omega
theorem wrP (i : Nat) (h : i < 9223372036854775807) : Go.IntKind.i64.wrap (((i + 1 : Nat) : Int) - 1) = (i : Int) := by rw [wr64] <;> omega
theorem getD_memI (w : List Int) (j : Nat) (h : j < w.length) : w.getD j 0 ∈ w := by
  rw [List.getD_eq_getElem?_getD, List.getElem?_eq_getElem h]; exact List.getElem_mem h
theorem getD_el (w : List Int) (j : Nat) (h : j < w.length) : w.getD j 0 = w[j] := by
  rw [List.getD_eq_getElem?_getD, List.getElem?_eq_getElem h]; rfl
/-! The sort. -/
/-- The size of what stands at a place. -/
def key (S d : List Int) (p : Nat) : Int := S.getD (d.getD p 0).toNat 0
def In (n : Nat) (d : List Int) : Prop := d.length = n ∧ ∀ x ∈ d, 0 ≤ x ∧ x < (n : Int)
/-- One place and the one ahead of it change places. -/
def sw (d : List Int) (j : Nat) : List Int := (d.set (j + 1) (d.getD j 0)).set j (d.getD (j + 1) 0)
theorem sw_perm (d : List Int) (j : Nat) (h : j + 1 < d.length) : (sw d j).Perm d := by
  rw [sw, getD_el d j (by omega), getD_el d (j + 1) h]
  exact List.set_set_perm h (by omega)
theorem sw_get (d : List Int) (j p : Nat) (h : j + 1 < d.length) : (sw d j).getD p 0 = if p = j then d.getD (j + 1) 0 else if p = j + 1 then d.getD j 0 else d.getD p 0 := by
  rw [sw, List.getD_eq_getElem?_getD, List.getElem?_set]
  by_cases h1 : p = j
  · subst h1; rw [if_pos rfl, if_pos rfl, if_pos (by rw [List.length_set]; omega)]; rfl
  · rw [if_neg (fun e => h1 e.symm), if_neg h1, List.getElem?_set]
    by_cases h2 : p = j + 1
    · subst h2; rw [if_pos rfl, if_pos rfl, if_pos h]; rfl
    · rw [if_neg (fun e => h2 e.symm), if_neg h2, List.getD_eq_getElem?_getD]
theorem In.perm {n : Nat} {d d' : List Int} (h : In n d) (p : d'.Perm d) : In n d' := ⟨p.length_eq.trans h.1, fun x hx => h.2 x (p.mem_iff.1 hx)⟩
def Srt (S d : List Int) (i : Nat) : Prop := ∀ p q, p < q → q < i → key S d p ≤ key S d q
variable {S : List Int}
theorem cmp_ev (x y : Int) (k : Nat) : cmp_Compare_int_.f k x y = some (if x < y then -1 else if y < x then 1 else 0) := by
  have h : ∀ z : Int, cmp_isNaN_int_.f k z = some false := by
    intro z; rw [cmp_isNaN_int_.f]; simp
  simp only [cmp_Compare_int_.f, h, Option.bind_some, Bool.false_eq_true, if_false]
  split
  · rfl
  · split <;> rfl
theorem cmp2_ev (x y : Int) (hx : 0 ≤ x ∧ x < (S.length : Int)) (hy : 0 ≤ y ∧ y < (S.length : Int)) (k : Nat) : code_Kraft_2.f k x y S = some (if S.getD x.toNat 0 < S.getD y.toNat 0 then -1 else if S.getD y.toNat 0 < S.getD x.toNat 0 then 1 else 0) := by
  have e : ∀ z : Int, rd (Int.ofNat 0) S z = S.getD z.toNat 0 := fun z => rfl
  rw [code_Kraft_2.f, if_pos hx.1, if_pos hx.2, if_pos hy.1, if_pos hy.2, e, e, cmp_ev]; rfl
theorem ins_l4 (hS : S.length ≤ 20) (b : Int) (i : Nat) (hi : i < S.length) : ∀ (j : Nat) (d : List Int), In S.length d → j ≤ i → (∀ p q, p < q → q ≤ i → p ≠ j → q ≠ j → key S d p ≤ key S d q) → (∀ q, j < q → q ≤ i → key S d j ≤ key S d q) →
    ∃ d', d'.Perm d ∧ Srt S d' (i + 1) ∧ ∀ R : List Int, Ev (fun k => slices_insertionSortCmpFunc_int_.l1 k 0 b S ((i + 1 : Nat) : Int) d') R → Ev (fun k => slices_insertionSortCmpFunc_int_.l4 k 0 b S (i : Int) (j : Int) d) R := by
  intro j
  induction j with
  | zero =>
    intro d hd hj h1 h2
    refine ⟨d, List.Perm.refl _, fun p q hpq hq => ?_, fun R E => Ev.step (fun k => ?_) E⟩
    · by_cases hp : p = 0
      · subst hp; exact h2 q hpq (by omega)
      · exact h1 p q hpq (by omega) hp (by omega)
    · rw [slices_insertionSortCmpFunc_int_.l4, if_neg (by omega), wrS i (by omega)]
  | succ j ih =>
    intro d hd hj h1 h2
    have hl := hd.1
    have hx := hd.2 _ (getD_memI d (j + 1) (by omega))
    have hy := hd.2 _ (getD_memI d j (by omega))
    have e1 : d.getD ((j + 1 : Nat) : Int).toNat (Int.ofNat 0) = d.getD (j + 1) 0 := rfl
    have e2 : d.getD ((j : Nat) : Int).toNat (Int.ofNat 0) = d.getD j 0 := rfl
    by_cases hc : key S d (j + 1) < key S d j
    · have hg := fun p => sw_get d j p (by omega)
      have hk : ∀ p, key S (sw d j) p = if p = j then key S d (j + 1) else if p = j + 1 then key S d j else key S d p := by
        intro p; rw [key, hg]; split
        · rfl
        · split <;> rfl
      have hp := sw_perm d j (by omega)
      obtain ⟨d', p1, p2, p3⟩ := ih (sw d j) (hd.perm hp) (by omega) (fun p q hpq hq hpj hqj => by
        rw [hk, hk, if_neg hpj, if_neg hqj]
        by_cases a1 : p = j + 1
        · rw [if_pos a1, if_neg (by omega)]; exact h1 j q (by omega) hq (by omega) (by omega)
        · rw [if_neg a1]
          by_cases a2 : q = j + 1
          · rw [if_pos a2]; exact h1 p j (by omega) (by omega) (by omega) (by omega)
          · rw [if_neg a2]; exact h1 p q hpq hq a1 a2) (fun q hq hqi => by
        rw [hk, hk, if_pos rfl, if_neg (by omega)]
        by_cases a2 : q = j + 1
        · rw [if_pos a2]; omega
        · rw [if_neg a2]; exact h2 q (by omega) hqi)
      refine ⟨d', p1.trans hp, p2, fun R E => Ev.step (fun k => ?_) (p3 R E)⟩
      rw [slices_insertionSortCmpFunc_int_.l4, if_pos (by omega), if_pos (by omega), if_pos (by omega), wrP j (by omega), if_pos (by omega), if_pos (by omega), e1, e2, cmp2_ev _ _ hx hy, Option.bind_some]
      have hneg : (if S.getD (d.getD (j + 1) 0).toNat 0 < S.getD (d.getD j 0).toNat 0 then (-1 : Int) else if S.getD (d.getD j 0).toNat 0 < S.getD (d.getD (j + 1) 0).toNat 0 then 1 else 0) < 0 := by
        have hc' : S.getD (d.getD (j + 1) 0).toNat 0 < S.getD (d.getD j 0).toNat 0 := hc
        rw [if_pos hc']; decide
      rw [if_pos hneg, if_pos (by omega), if_pos (by omega), if_pos (by omega), if_pos (by omega), if_pos (by omega), if_pos (by omega), if_pos (by omega), if_pos (by rw [List.length_set]; omega)]
      rfl
    · refine ⟨d, List.Perm.refl _, fun p q hpq hq => ?_, fun R E => Ev.step (fun k => ?_) E⟩
      · by_cases a1 : p = j + 1
        · subst a1; exact h2 q hpq (by omega)
        · by_cases a2 : q = j + 1
          · subst a2
            by_cases a3 : p = j
            · subst a3; omega
            · have := h1 p j (by omega) (by omega) (by omega) (by omega); omega
          · exact h1 p q hpq (by omega) a1 a2
      · rw [slices_insertionSortCmpFunc_int_.l4, if_pos (by omega), if_pos (by omega), if_pos (by omega), wrP j (by omega), if_pos (by omega), if_pos (by omega), e1, e2, cmp2_ev _ _ hx hy, Option.bind_some]
        have hneg : ¬ (if S.getD (d.getD (j + 1) 0).toNat 0 < S.getD (d.getD j 0).toNat 0 then (-1 : Int) else if S.getD (d.getD j 0).toNat 0 < S.getD (d.getD (j + 1) 0).toNat 0 then 1 else 0) < 0 := by
          have hc' : ¬ S.getD (d.getD (j + 1) 0).toNat 0 < S.getD (d.getD j 0).toNat 0 := hc
          rw [if_neg hc']; split <;> decide
        rw [if_neg hneg, wrS i (by omega)]
theorem ins_l1 (hS : S.length ≤ 20) : ∀ m i d, S.length - i = m → i ≤ S.length → In S.length d → Srt S d i → ∃ d', d'.Perm d ∧ Srt S d' S.length ∧ Ev (fun k => slices_insertionSortCmpFunc_int_.l1 k 0 (S.length : Int) S (i : Int) d) d' := by
  intro m
  induction m with
  | zero =>
    intro i d hm hi hd hs
    have : i = S.length := by omega
    subst this
    refine ⟨d, List.Perm.refl _, hs, Ev.step (h := fun _ => some d) (fun k => ?_) (Ev.now _)⟩
    rw [slices_insertionSortCmpFunc_int_.l1, if_neg (by omega)]
  | succ m ih =>
    intro i d hm hi hd hs
    obtain ⟨d1, p1, p2, p3⟩ := ins_l4 hS (S.length : Int) i (by omega) i d hd (Nat.le_refl _) (fun p q hpq hq hp hq2 => hs p q hpq (by omega)) (fun q h1 h2 => by omega)
    obtain ⟨d2, q1, q2, q3⟩ := ih (i + 1) d1 (by omega) (by omega) (hd.perm p1) p2
    refine ⟨d2, q1.trans p1, q2, Ev.step (fun k => ?_) (p3 _ q3)⟩
    rw [slices_insertionSortCmpFunc_int_.l1, if_pos (by omega)]
theorem ins_none (a b : Int) (h : ¬ Go.IntKind.i64.wrap (a + 1) < b) (d : List Int) : Ev (fun k => slices_insertionSortCmpFunc_int_.f k a b S d) d := by
  simp only [slices_insertionSortCmpFunc_int_.f]
  refine Ev.step (h := fun _ => some d) (fun k => ?_) (Ev.now _)
  rw [slices_insertionSortCmpFunc_int_.l1, if_neg h]
theorem sort_ev (hS : S.length ≤ 20) (h1 : 1 ≤ S.length) (d : List Int) (hd : In S.length d) : ∃ d', d'.Perm d ∧ Srt S d' S.length ∧ Ev (fun k => slices_SortStableFunc___int_int_.f k S d) d' := by
  obtain ⟨d', p1, p2, p3⟩ := ins_l1 hS _ 1 d rfl h1 hd (fun p q hpq hq => by omega)
  refine ⟨d', p1, p2, ?_⟩
  have hi : Ev (fun k => slices_insertionSortCmpFunc_int_.f k 0 (S.length : Int) S d) d' := by
    simp only [slices_insertionSortCmpFunc_int_.f]; exact p3
  have hdl := hd.1
  have l7 : Ev (fun k => slices_stableCmpFunc_int_.l7 k (S.length : Int) S 20 d') d' := by
    refine Ev.step (h := fun _ => some d') (fun k => ?_) (Ev.now _)
    rw [slices_stableCmpFunc_int_.l7, if_neg (by omega)]
  simp only [slices_SortStableFunc___int_int_.f, slices_stableCmpFunc_int_.f, hdl]
  refine Ev.bind (x := d') ?_ (Ev.now _)
  by_cases h20 : S.length = 20
  · refine Ev.step (fun k => by rw [slices_stableCmpFunc_int_.l2, if_pos (by omega)]) (Ev.bind (x := d') ?_ ?_)
    · rw [h20] at hi; exact hi
    · refine Ev.step (fun k => by rw [slices_stableCmpFunc_int_.l2, if_neg (by rw [show Go.IntKind.i64.wrap (20 + 20) = 40 by decide]; omega)]) (Ev.bind (ins_none 20 _ (by rw [show Go.IntKind.i64.wrap (20 + 1) = 21 by decide]; omega) d') l7)
  · refine Ev.step (fun k => by rw [slices_stableCmpFunc_int_.l2, if_neg (by omega)]) (Ev.bind hi l7)
/-! The check. -/
def badS (n : Int) : Bool := decide (n < 1) || decide (30 < n)
theorem chk1 (n : Int) (k : Nat) : code_Kraft_1.f k n = some (badS n) := by
  rw [code_Kraft_1.f, badS]
  by_cases h : n < 1
  · rw [if_pos h, decide_eq_true h]; rfl
  · rw [if_neg h, decide_eq_false h]; rfl
theorem idx_l2 (s : List Int) (hs : s.length ≤ 100) : ∀ m i, s.length - i = m → i ≤ s.length → ∃ r, Ev (fun k => slices_IndexFunc___int_int_.l2 k s (s.length : Int) (i : Int)) r ∧ decide (0 ≤ r) = (s.drop i).any badS := by
  intro m
  induction m with
  | zero =>
    intro i hm hi
    refine ⟨-1, Ev.step (h := fun _ => some (-1)) (fun k => ?_) (Ev.now _), ?_⟩
    · rw [slices_IndexFunc___int_int_.l2, if_neg (by omega)]
    · rw [List.drop_eq_nil_of_le (by omega)]; rfl
  | succ m ih =>
    intro i hm hi
    obtain ⟨r, h1, h2⟩ := ih (i + 1) (by omega) (by omega)
    rw [drop_getD 0 s i (by omega), List.any_cons]
    have e : rd (Int.ofNat 0) s (i : Int) = s.getD i 0 := rd_nat _ _ _
    by_cases hb : badS (s.getD i 0) = true
    · refine ⟨(i : Int), Ev.step (h := fun _ => some (i : Int)) (fun k => ?_) (Ev.now _), ?_⟩
      · rw [slices_IndexFunc___int_int_.l2, if_pos (by omega), if_pos (by omega), if_pos (by omega), e, chk1, Option.bind_some, if_pos hb]
      · rw [hb, decide_eq_true (by omega), Bool.true_or]
    · refine ⟨r, Ev.step (fun k => ?_) h1, ?_⟩
      · rw [slices_IndexFunc___int_int_.l2, if_pos (by omega), if_pos (by omega), if_pos (by omega), e, chk1, Option.bind_some, if_neg hb, wrS i (by omega)]
      · rw [h2, (Bool.not_eq_true _).mp hb, Bool.false_or]
theorem con_ev (s : List Int) (hs : s.length ≤ 100) : Ev (fun k => slices_ContainsFunc___int_int_.f k s) (s.any badS) := by
  obtain ⟨r, h1, h2⟩ := idx_l2 s hs _ 0 rfl (by omega)
  simp only [slices_ContainsFunc___int_int_.f, slices_IndexFunc___int_int_.f]
  refine Ev.bind h1 ?_
  rw [List.drop_zero] at h2
  rw [h2]; exact Ev.now _
end Go.Proofs.YtmagglebkbiffaaSx.KR
namespace Go.Proofs.YtmagglebkbiffaaSx.KR
def WordOk (A : Int) (w : List Int) : Prop := ∀ x ∈ w, 0 ≤ x ∧ x < A
/-! Words as numbers. -/
def valR (B : Nat) : List Int → Nat
  | [] => 0
  | a :: r => a.toNat + B * valR B r
def val (B : Nat) (w : List Int) : Nat := valR B w.reverse
def incR (A : Int) : List Int → Option (List Int)
  | [] => none
  | a :: r => if a = A - 1 then (match incR A r with | some r' => some (0 :: r') | none => none) else some ((a + 1) :: r)
variable {A : Int}
theorem valR_lt (hA : 1 ≤ A) : ∀ r, WordOk A r → valR A.toNat r < A.toNat ^ r.length
  | [], _ => by simp [valR]
  | a :: r, h => by
    have ha := h a List.mem_cons_self
    have ih := valR_lt hA r (fun x hx => h x (List.mem_cons_of_mem _ hx))
    have : A.toNat * (valR A.toNat r + 1) ≤ A.toNat * A.toNat ^ r.length := Nat.mul_le_mul_left _ ih
    rw [Nat.mul_add, Nat.mul_one] at this
    rw [valR, List.length_cons, Nat.pow_succ, Nat.mul_comm (A.toNat ^ r.length)]
    omega
theorem valR_app (B : Nat) : ∀ r t, valR B (r ++ t) = valR B r + B ^ r.length * valR B t
  | [], t => by simp [valR]
  | a :: r, t => by
    rw [List.cons_append, valR, valR_app B r t, valR, List.length_cons, Nat.pow_succ, Nat.mul_add, Nat.mul_comm (B ^ r.length) B, Nat.mul_assoc]; omega
theorem valR_zero (B : Nat) : ∀ m, valR B (List.replicate m 0) = 0
  | 0 => rfl
  | m + 1 => by rw [List.replicate_succ, valR, valR_zero B m]; simp
theorem inc_spec (hA : 1 ≤ A) : ∀ r, WordOk A r → (∀ r', incR A r = some r' → r'.length = r.length ∧ WordOk A r' ∧ valR A.toNat r' = valR A.toNat r + 1) ∧ (incR A r = none → valR A.toNat r + 1 = A.toNat ^ r.length)
  | [], _ => ⟨fun r' h => by simp [incR] at h, fun _ => by simp [valR]⟩
  | a :: r, h => by
    have ha := h a List.mem_cons_self
    have hr : WordOk A r := fun x hx => h x (List.mem_cons_of_mem _ hx)
    obtain ⟨i1, i2⟩ := inc_spec hA r hr
    rw [incR]
    by_cases hc : a = A - 1
    · rw [if_pos hc]
      cases hi : incR A r with
      | none =>
        refine ⟨fun r' h' => by simp at h', fun _ => ?_⟩
        have := i2 hi
        rw [valR, List.length_cons, Nat.pow_succ, ← this, Nat.add_mul, Nat.mul_comm (valR A.toNat r)]; omega
      | some r2 =>
        obtain ⟨j1, j2, j3⟩ := i1 r2 hi
        refine ⟨fun r' h' => ?_, fun h' => by simp at h'⟩
        simp only [Option.some.injEq] at h'
        subst h'
        refine ⟨by rw [List.length_cons, List.length_cons, j1], fun x hx => ?_, ?_⟩
        · rcases List.mem_cons.1 hx with h' | h'
          · omega
          · exact j2 x h'
        · rw [valR, valR, j3, Nat.mul_add]; simp; omega
    · rw [if_neg hc]
      refine ⟨fun r' h' => ?_, fun h' => by simp at h'⟩
      simp only [Option.some.injEq] at h'
      subst h'
      refine ⟨rfl, fun x hx => ?_, ?_⟩
      · rcases List.mem_cons.1 hx with h' | h'
        · omega
        · exact hr x h'
      · rw [valR, valR]; omega
abbrev RK := Bool × Int × List (List Int)
theorem inc_l25 (hA : 1 ≤ A ∧ A ≤ 4) (n t : Int) (S : List Int) (l : List (List Int)) (ord : List Int) (R : RK) : ∀ (r : List Int) (j : Nat), r.length + j ≤ 100 → WordOk A r →
    (∀ r', incR A r = some r' → Ev (fun k => code_Kraft.j31 k A true n t S l (r'.reverse ++ List.replicate j 0) ord) R) → (incR A r = none → Ev (fun k => code_Kraft.j31 k A false n t S l (List.replicate (r.length + j) 0) ord) R) →
    Ev (fun k => code_Kraft.l25 k A ((r.length : Int) - 1) n t S l (r.reverse ++ List.replicate j 0) ord) R := by
  have hwA : Go.IntKind.i64.wrap (A - 1) = A - 1 := by rw [wr64] <;> omega
  intro r
  induction r with
  | nil =>
    intro j hj hw h1 h2
    have := h2 rfl
    rw [List.length_nil, Nat.zero_add] at this
    refine Ev.step (fun k => ?_) this
    rw [code_Kraft.l25, if_neg (by simp), if_neg (by simp)]; rfl
  | cons a r ih =>
    intro j hj hw h1 h2
    have ha := hw a List.mem_cons_self
    have e0 : ((a :: r).length : Int) - 1 = (r.length : Int) := by rw [List.length_cons]; omega
    have hlen : ((a :: r).reverse ++ List.replicate j (0 : Int)).length = r.length + 1 + j := by simp; omega
    have hg : ((a :: r).reverse ++ List.replicate j (0 : Int)).getD ((r.length : Nat) : Int).toNat (Int.ofNat 0) = a := by
      rw [Int.toNat_natCast, List.reverse_cons, List.append_assoc, List.getD_eq_getElem?_getD, List.getElem?_append_right (by simp), List.length_reverse, Nat.sub_self]; rfl
    have hset : ∀ y : Int, ((a :: r).reverse ++ List.replicate j (0 : Int)).set ((r.length : Nat) : Int).toNat y = r.reverse ++ (y :: List.replicate j 0) := by
      intro y
      rw [Int.toNat_natCast, List.reverse_cons, List.append_assoc, List.set_append_right _ _ (by simp), List.length_reverse, Nat.sub_self]; rfl
    rw [List.length_cons] at hj
    rw [e0]
    rw [incR] at h1 h2
    by_cases hc : a = A - 1
    · rw [if_pos hc] at h1 h2
      have hh := ih (j + 1) (by omega) (fun x hx => hw x (List.mem_cons_of_mem _ hx)) (fun r' hr' => by
        have := h1 (0 :: r') (by rw [hr'])
        rw [List.reverse_cons, List.append_assoc] at this
        rw [List.replicate_succ]; exact this) (fun hr' => by
        have := h2 (by rw [hr'])
        rw [List.length_cons] at this
        rw [show r.length + (j + 1) = r.length + 1 + j by omega]; exact this)
      refine Ev.step (fun k => ?_) hh
      rw [code_Kraft.l25, if_pos (by omega), if_pos (by omega), if_pos (by omega), hg, hwA, if_pos hc, if_pos (by omega), if_pos (by omega), hset, show Go.IntKind.i64.wrap ((r.length : Int) - 1) = (r.length : Int) - 1 by rw [wr64] <;> omega, List.replicate_succ]; rfl
    · rw [if_neg hc] at h1
      have := h1 _ rfl
      rw [List.reverse_cons, List.append_assoc] at this
      refine Ev.step (fun k => ?_) this
      rw [code_Kraft.l25, if_pos (by omega), if_pos (by omega), if_pos (by omega), hg, hwA, if_neg hc, if_pos (by omega), if_pos (by omega), if_pos (by omega), if_pos (by omega), if_pos (by omega), hset, show Go.IntKind.i64.wrap (a + 1) = a + 1 by rw [wr64] <;> omega, decide_eq_true (by omega)]; rfl
theorem clone_ev (b : List Int) (h : b.length < 1000000000) (k : Nat) : slices_Clone___int_int_.f k b = some b := by
  rw [slices_Clone___int_int_.f]; exact if_pos (short _ h)
theorem pad_l21 (n t : Int) (S : List Int) (i : Nat) (hi : i < S.length) (s : Nat) (hs : S.getD i 0 = (s : Int)) (hs30 : s ≤ 30) (l : List (List Int)) (hl : l.length = S.length) (ord : List Int) (R : RK) : ∀ (m : Nat) (nx : List Int), s - nx.length = m → nx.length ≤ s →
    Ev (fun k => code_Kraft.l25 k A ((s : Int) - 1) n t S (l.set i (nx ++ List.replicate m 0)) (nx ++ List.replicate m 0) ord) R → Ev (fun k => code_Kraft.l21 k A (i : Int) n t S l nx ord) R := by
  have er : rd (Int.ofNat 0) S (i : Int) = (s : Int) := by rw [rd_nat]; exact hs
  intro m
  induction m with
  | zero =>
    intro nx hm hn E
    have hns : nx.length = s := by omega
    rw [List.replicate_zero, List.append_nil] at E
    refine Ev.step (fun k => by rw [code_Kraft.l21, if_pos (by omega), if_pos (by omega), er, if_neg (by omega)]) (Ev.bind (Ev.all (clone_ev nx (by omega))) ?_)
    simp only [if_pos (show (0 : Int) ≤ (i : Int) by omega), if_pos (show (i : Int) < (l.length : Int) by omega), show Go.IntKind.i64.wrap ((nx.length : Int) - 1) = (s : Int) - 1 by rw [wr64] <;> omega, Int.toNat_natCast]
    exact E
  | succ m ih =>
    intro nx hm hn E
    have hl1 : (nx ++ [(0 : Int)]).length = nx.length + 1 := by rw [List.length_append]; rfl
    refine Ev.step (fun k => ?_) (ih (nx ++ [0]) (by omega) (by omega) (by
      rw [List.append_assoc]
      rw [List.replicate_succ] at E
      exact E))
    rw [code_Kraft.l21, if_pos (by omega), if_pos (by omega), er, if_pos (by omega)]
    exact if_pos (fit1 _ (by rw [List.length_append, List.length_singleton]; omega))
/-! The words, one by one. -/
/-- Is there room for words of such sizes? d: the size of the last one, f: how many words of that size are free. -/
def runK (B : Nat) : Nat → Nat → List Nat → Bool
  | _, _, [] => true
  | d, f, s :: rest => if f = 0 then false else runK B s (f * B ^ (s - d) - 1) rest
section
variable (S ord : List Int)
def oN (p : Nat) : Nat := (ord.getD p 0).toNat
def kN (p : Nat) : Nat := (key S ord p).toNat
end
/-- The sizes may be, and the order is one. -/
structure KOk (A : Int) (S ord : List Int) : Prop where
  a1 : 1 ≤ A
  a4 : A ≤ 4
  n20 : S.length ≤ 20
  sz : ∀ x ∈ S, 1 ≤ x ∧ x ≤ 30
  pm : In S.length ord
  nd : ord.Nodup
  st : Srt S ord S.length
variable {S ord : List Int}
theorem KOk.o (K : KOk A S ord) {p : Nat} (hp : p < S.length) : oN ord p < S.length ∧ ord.getD p 0 = (oN ord p : Int) := by
  have hl := K.pm.1
  have := K.pm.2 _ (getD_memI ord p (by omega))
  unfold oN; omega
theorem KOk.oinj (K : KOk A S ord) {p q : Nat} (hp : p < S.length) (hq : q < S.length) (h : oN ord p = oN ord q) : p = q := by
  have hl := K.pm.1
  have h1 := (K.o hp).2
  have h2 := (K.o hq).2
  rw [← h] at h2
  have e : ord.getD p 0 = ord.getD q 0 := by rw [h1, h2]
  rw [getD_el ord p (by omega), getD_el ord q (by omega)] at e
  have pw := List.pairwise_iff_getElem.1 K.nd
  rcases Nat.lt_trichotomy p q with h3 | h3 | h3
  · exact absurd e (pw p q (by omega) (by omega) h3)
  · exact h3
  · exact absurd e.symm (pw q p (by omega) (by omega) h3)
theorem KOk.k (K : KOk A S ord) {p : Nat} (hp : p < S.length) : S.getD (oN ord p) 0 = (kN S ord p : Int) ∧ 1 ≤ kN S ord p ∧ kN S ord p ≤ 30 := by
  have h1 := K.o hp
  have h2 := K.sz _ (getD_memI S (oN ord p) h1.1)
  have e : key S ord p = S.getD (oN ord p) 0 := rfl
  unfold kN
  rw [e]; omega
theorem KOk.mono (K : KOk A S ord) {p q : Nat} (h : p < q) (hq : q < S.length) : kN S ord p ≤ kN S ord q := by
  have := K.st p q h hq
  unfold kN; omega
/-- What was made so far. -/
structure J0 (A : Int) (S ord : List Int) (t : Nat) (l : List (List Int)) : Prop where
  len : l.length = S.length
  wd : ∀ p, p < t → WordOk A (l.getD (oN ord p) []) ∧ (l.getD (oN ord p) []).length = kN S ord p
  pr : ∀ p q, p < q → q < t → (val A.toNat (l.getD (oN ord p) []) + 1) * A.toNat ^ (kN S ord q - kN S ord p) ≤ val A.toNat (l.getD (oN ord q) [])
structure Jn (A : Int) (S ord : List Int) (t : Nat) (l : List (List Int)) (nx : List Int) : Prop where
  ok : WordOk A nx
  le : ∀ q, t ≤ q → q < S.length → nx.length ≤ kN S ord q
  ge : ∀ p, p < t → kN S ord p ≤ nx.length
  vl : ∀ p, p < t → (val A.toNat (l.getD (oN ord p) []) + 1) * A.toNat ^ (nx.length - kN S ord p) ≤ val A.toNat nx
theorem getD_setL (l : List (List Int)) (x y : Nat) (v : List Int) (hx : x < l.length) : (l.set x v).getD y [] = if x = y then v else l.getD y [] := by
  rw [List.getD_eq_getElem?_getD, List.getD_eq_getElem?_getD, List.getElem?_set]
  by_cases h : x = y
  · subst h; simp [hx]
  · simp [h]
theorem val_pad (B : Nat) (nx : List Int) (m : Nat) : val B (nx ++ List.replicate m 0) = B ^ m * val B nx := by
  rw [val, List.reverse_append, List.reverse_replicate, valR_app, valR_zero, List.length_replicate, Nat.zero_add]; rfl
theorem main_l17 (K : KOk A S ord) : ∀ (m t : Nat) (l : List (List Int)) (nx : List Int) (ok : Bool), S.length - t = m → t ≤ S.length → J0 A S ord t l → (ok = true → Jn A S ord t l nx) →
    ∃ lf, Ev (fun k => code_Kraft.l17 k A ok (S.length : Int) (t : Int) S l nx ord) (runK A.toNat nx.length (if ok = true then A.toNat ^ nx.length - val A.toNat nx else 0) ((List.range' t m).map (kN S ord)), 0, lf) ∧
      (runK A.toNat nx.length (if ok = true then A.toNat ^ nx.length - val A.toNat nx else 0) ((List.range' t m).map (kN S ord)) = true → J0 A S ord S.length lf) ∧
      (runK A.toNat nx.length (if ok = true then A.toNat ^ nx.length - val A.toNat nx else 0) ((List.range' t m).map (kN S ord)) = false → lf = []) := by
  have a1 := K.a1; have a4 := K.a4; have n20 := K.n20; have hol := K.pm.1
  intro m
  induction m with
  | zero =>
    intro t l nx ok hm ht H0 Hn
    have : t = S.length := by omega
    subst this
    refine ⟨l, Ev.step (h := fun _ => some (true, 0, l)) (fun k => ?_) (Ev.now _), fun _ => H0, fun h => by simp [runK] at h⟩
    rw [code_Kraft.l17, if_neg (by omega)]
  | succ m ih =>
    intro t l nx ok hm ht H0 Hn
    rw [List.range'_succ, List.map_cons, runK]
    cases ok with
    | false =>
      simp only [Bool.false_eq_true, if_false, if_true]
      refine ⟨[], Ev.step (h := fun _ => some (false, 0, [])) (fun k => ?_) (Ev.now _), fun h => h.elim, fun _ => rfl⟩
      rw [code_Kraft.l17, if_pos (by omega), if_pos (by omega), if_pos (by omega), if_neg (by decide)]
    | true =>
      have HN := Hn rfl
      obtain ⟨o1, o2⟩ := K.o (show t < S.length by omega)
      obtain ⟨k1, k2, k3⟩ := K.k (show t < S.length by omega)
      have hle := HN.le t (Nat.le_refl _) (by omega)
      have hvl : val A.toNat nx < A.toNat ^ nx.length := by
        have := valR_lt a1 nx.reverse (fun x hx => HN.ok x (List.mem_reverse.1 hx))
        rw [List.length_reverse] at this; exact this
      obtain ⟨d, hd⟩ : ∃ d, d = kN S ord t - nx.length := ⟨_, rfl⟩
      obtain ⟨nx', hnx'⟩ : ∃ nx', nx' = nx ++ List.replicate d 0 := ⟨_, rfl⟩
      have hln' : nx'.length = kN S ord t := by rw [hnx', List.length_append, List.length_replicate]; omega
      have hok' : WordOk A nx' := by
        intro x hx
        rw [hnx'] at hx
        rcases List.mem_append.1 hx with h | h
        · exact HN.ok x h
        · have := List.eq_of_mem_replicate h; omega
      have hv' : val A.toNat nx' = A.toNat ^ d * val A.toNat nx := by rw [hnx', val_pad]
      have hg : ∀ y, (l.set (oN ord t) nx').getD y [] = if oN ord t = y then nx' else l.getD y [] := fun y => getD_setL l _ y nx' (by rw [H0.len]; exact o1)
      have hgp : ∀ p, p < t → (l.set (oN ord t) nx').getD (oN ord p) [] = l.getD (oN ord p) [] := by
        intro p hp
        rw [hg, if_neg fun h => by have := K.oinj (show t < S.length by omega) (show p < S.length by omega) h; omega]
      have hgt : (l.set (oN ord t) nx').getD (oN ord t) [] = nx' := by rw [hg, if_pos rfl]
      have hvp : ∀ p, p < t → (val A.toNat (l.getD (oN ord p) []) + 1) * A.toNat ^ (kN S ord t - kN S ord p) ≤ val A.toNat nx' := by
        intro p hp
        have h1 := HN.vl p hp
        have h2 := HN.ge p hp
        have : A.toNat ^ (kN S ord t - kN S ord p) = A.toNat ^ (nx.length - kN S ord p) * A.toNat ^ d := by rw [← Nat.pow_add]; congr 1; omega
        rw [this, hv', ← Nat.mul_assoc, Nat.mul_comm (A.toNat ^ d)]
        exact Nat.mul_le_mul_right _ h1
      have H0' : J0 A S ord (t + 1) (l.set (oN ord t) nx') := by
        refine ⟨by rw [List.length_set]; exact H0.len, fun p hp => ?_, fun p q hpq hq => ?_⟩
        · by_cases e : p = t
          · subst e; rw [hgt]; exact ⟨hok', hln'⟩
          · rw [hgp p (by omega)]; exact H0.wd p (by omega)
        · by_cases e : q = t
          · subst e; rw [hgt, hgp p hpq]; exact hvp p hpq
          · rw [hgp p (by omega), hgp q (by omega)]; exact H0.pr p q hpq (by omega)
      have hpow : A.toNat ^ kN S ord t = A.toNat ^ nx.length * A.toNat ^ d := by rw [← Nat.pow_add]; congr 1; omega
      have hf : (A.toNat ^ nx.length - val A.toNat nx) * A.toNat ^ d = A.toNat ^ kN S ord t - val A.toNat nx' := by
        rw [Nat.sub_mul, hpow, hv', Nat.mul_comm (A.toNat ^ d)]
      have hfne : ¬ A.toNat ^ nx.length - val A.toNat nx = 0 := by omega
      have hsp := inc_spec a1 nx'.reverse (fun x hx => hok' x (List.mem_reverse.1 hx))
      rw [List.length_reverse, hln'] at hsp
      simp only [if_true, if_neg hfne]
      rw [← hd, hf]
      -- the step of the program, from whatever comes of the increment
      have step : ∀ R : RK, (∀ r', incR A nx'.reverse = some r' → Ev (fun k => code_Kraft.l17 k A true (S.length : Int) ((t + 1 : Nat) : Int) S (l.set (oN ord t) nx') r'.reverse ord) R) →
          (incR A nx'.reverse = none → Ev (fun k => code_Kraft.l17 k A false (S.length : Int) ((t + 1 : Nat) : Int) S (l.set (oN ord t) nx') (List.replicate (kN S ord t) 0) ord) R) →
          Ev (fun k => code_Kraft.l17 k A true (S.length : Int) (t : Int) S l nx ord) R := by
        intro R E1 E2
        have hog : ord.getD (t : Int).toNat (Int.ofNat 0) = (oN ord t : Int) := o2
        refine Ev.step (fun k => by rw [code_Kraft.l17, if_pos (by omega), if_pos (by omega), if_pos (by omega), if_pos rfl, hog]) ?_
        refine pad_l21 (A := A) _ _ S (oN ord t) o1 (kN S ord t) k1 k3 l H0.len ord R d nx hd.symm hle ?_
        rw [← hnx']
        have := inc_l25 (A := A) ⟨a1, a4⟩ (S.length : Int) (t : Int) S (l.set (oN ord t) nx') ord R nx'.reverse 0 (by rw [List.length_reverse]; omega) (fun x hx => hok' x (List.mem_reverse.1 hx)) (fun r' hr => by
          rw [List.replicate_zero, List.append_nil]
          refine Ev.step (fun k => ?_) (E1 r' hr)
          rw [code_Kraft.j31, wrS t (by omega)]) (fun hr => by
          rw [List.length_reverse, hln', Nat.add_zero]
          refine Ev.step (fun k => ?_) (E2 hr)
          rw [code_Kraft.j31, wrS t (by omega)])
        rw [List.reverse_reverse, List.replicate_zero, List.append_nil, List.length_reverse, hln'] at this
        exact this
      cases hi : incR A nx'.reverse with
      | some r2 =>
        obtain ⟨i1, i2, i3⟩ := hsp.1 r2 hi
        have hl2 : r2.reverse.length = kN S ord t := by rw [List.length_reverse]; exact i1
        have hv2 : val A.toNat r2.reverse = val A.toNat nx' + 1 := by rw [val, List.reverse_reverse]; exact i3
        obtain ⟨lf, g1, g2, g3⟩ := ih (t + 1) (l.set (oN ord t) nx') r2.reverse true (by omega) (by omega) H0' (fun _ => by
          refine ⟨fun x hx => i2 x (List.mem_reverse.1 hx), fun q hq hq2 => ?_, fun p hp => ?_, fun p hp => ?_⟩
          · rw [hl2]; exact K.mono (by omega) hq2
          · rw [hl2]
            by_cases e : p = t
            · subst e; exact Nat.le_refl _
            · exact K.mono (by omega) (by omega)
          · rw [hl2, hv2]
            by_cases e : p = t
            · subst e; rw [hgt, Nat.sub_self, Nat.pow_zero, Nat.mul_one]; exact Nat.le_refl _
            · rw [hgp p (by omega)]; have := hvp p (by omega); omega)
        simp only [if_true] at g1 g2 g3
        rw [hl2, hv2, show A.toNat ^ kN S ord t - (val A.toNat nx' + 1) = A.toNat ^ kN S ord t - val A.toNat nx' - 1 by omega] at g1 g2 g3
        refine ⟨lf, step _ (fun r' hr => ?_) (fun hr => by rw [hi] at hr; cases hr), g2, g3⟩
        rw [hi] at hr
        cases hr
        exact g1
      | none =>
        have i2 := hsp.2 hi
        have hz : A.toNat ^ kN S ord t - val A.toNat nx' - 1 = 0 := by
          have : valR A.toNat nx'.reverse = val A.toNat nx' := rfl
          omega
        obtain ⟨lf, g1, g2, g3⟩ := ih (t + 1) (l.set (oN ord t) nx') (List.replicate (kN S ord t) 0) false (by omega) (by omega) H0' (fun h => by cases h)
        simp only [Bool.false_eq_true, if_false, List.length_replicate] at g1 g2 g3
        rw [hz]
        refine ⟨lf, step _ (fun r' hr => by rw [hi] at hr; cases hr) (fun _ => g1), g2, g3⟩
end Go.Proofs.YtmagglebkbiffaaSx.KR
namespace Go.Proofs.YtmagglebkbiffaaSx.KR
variable {A : Int} {S ord : List Int}
/-! The reference. -/
def refR (A : Int) (S : List Int) : Nat → Nat → Int → Bool
  | 0, _, _ => true
  | m + 1, sz, room => if room - (S.count (sz : Int) : Int) < 0 then false else refR A S m (sz + 1) (if 100 < (room - (S.count (sz : Int) : Int)) * A then 100 else (room - (S.count (sz : Int) : Int)) * A)
theorem ref_l6 (hS : S.length ≤ 20) (sz : Nat) (R : Bool) : ∀ m i (room : Int), S.length - i = m → i ≤ S.length → -20 ≤ room - (m : Int) → room ≤ 100 →
    Ev (fun k => if room - ((S.drop i).count (sz : Int) : Int) < 0 then some false else if 100 < Go.IntKind.i64.wrap ((room - ((S.drop i).count (sz : Int) : Int)) * A) then evermoreref24_Kraft.j4 k A S 100 (sz : Int) else evermoreref24_Kraft.j4 k A S (Go.IntKind.i64.wrap ((room - ((S.drop i).count (sz : Int) : Int)) * A)) (sz : Int)) R →
    Ev (fun k => evermoreref24_Kraft.l6 k A S room (sz : Int) (i : Int)) R := by
  intro m
  induction m with
  | zero =>
    intro i room hm hi h1 h2 E
    rw [List.drop_eq_nil_of_le (by omega)] at E
    simp only [List.count_nil, Int.natCast_zero, Int.sub_zero] at E
    refine Ev.step (fun k => ?_) E
    rw [evermoreref24_Kraft.l6, if_neg (by omega)]
  | succ m ih =>
    intro i room hm hi h1 h2 E
    have e : rd (Int.ofNat 0) S (i : Int) = S.getD i 0 := rd_nat _ _ _
    rw [drop_getD 0 S i (by omega), List.count_cons] at E
    have j7 : ∀ (r : Int) k, evermoreref24_Kraft.j7 (k + 1) A S r (sz : Int) (i : Int) = evermoreref24_Kraft.l6 k A S r (sz : Int) ((i + 1 : Nat) : Int) := by
      intro r k; rw [evermoreref24_Kraft.j7, wrS i (by omega)]
    by_cases hc : S.getD i 0 = (sz : Int)
    · have hb : (S.getD i 0 == (sz : Int)) = true := by rw [hc]; exact beq_self_eq_true _
      rw [hb] at E
      simp only [if_true] at E
      refine Ev.step (h := fun k => evermoreref24_Kraft.j7 k A S (room - 1) (sz : Int) (i : Int)) (fun k => ?_) (Ev.step (j7 _) (ih (i + 1) (room - 1) (by omega) (by omega) (by omega) (by omega) ?_))
      · rw [evermoreref24_Kraft.l6, if_pos (by omega), if_pos (by omega), if_pos (by omega), e, if_pos hc, show Go.IntKind.i64.wrap (room - 1) = room - 1 by rw [wr64] <;> omega]
      · have e2 : room - (((S.drop (i + 1)).count (sz : Int) + 1 : Nat) : Int) = room - 1 - ((S.drop (i + 1)).count (sz : Int) : Int) := by omega
        simp only [e2] at E
        exact E
    · have hb : (S.getD i 0 == (sz : Int)) = false := by simpa using hc
      rw [hb] at E
      simp only [Bool.false_eq_true, if_false, Nat.add_zero] at E
      refine Ev.step (h := fun k => evermoreref24_Kraft.j7 k A S room (sz : Int) (i : Int)) (fun k => ?_) (Ev.step (j7 _) (ih (i + 1) room (by omega) (by omega) (by omega) (by omega) E))
      rw [evermoreref24_Kraft.l6, if_pos (by omega), if_pos (by omega), if_pos (by omega), e, if_neg hc]
theorem ref_l3 (hS : S.length ≤ 20) (hA : 1 ≤ A ∧ A ≤ 4) : ∀ (m sz : Nat) (room : Int), 31 - sz = m → sz ≤ 31 → 0 ≤ room → room ≤ 100 → Ev (fun k => evermoreref24_Kraft.l3 k A S room (sz : Int)) (refR A S m sz room) := by
  intro m
  induction m with
  | zero =>
    intro sz room hm hz h1 h2
    refine Ev.step (h := fun _ => some true) (fun k => ?_) (Ev.now _)
    rw [evermoreref24_Kraft.l3, if_neg (by omega)]
  | succ m ih =>
    intro sz room hm hz h1 h2
    have hc : S.count (sz : Int) ≤ S.length := List.count_le_length
    refine Ev.step (fun k => by rw [evermoreref24_Kraft.l3, if_pos (by omega)]; rfl) (ref_l6 (A := A) hS sz _ _ 0 room rfl (by omega) (by omega) h2 ?_)
    rw [List.drop_zero, refR]
    obtain ⟨r, hr⟩ : ∃ r, r = room - (S.count (sz : Int) : Int) := ⟨_, rfl⟩
    rw [← hr]
    have j4 : ∀ (x : Int) k, evermoreref24_Kraft.j4 (k + 1) A S x (sz : Int) = evermoreref24_Kraft.l3 k A S x ((sz + 1 : Nat) : Int) := by
      intro x k; rw [evermoreref24_Kraft.j4, wrS sz (by omega)]
    by_cases h0 : r < 0
    · simp only [if_pos h0]; exact Ev.now _
    · have hb : 0 ≤ r * A ∧ r * A ≤ 400 := ⟨Int.mul_nonneg (by omega) (by omega), by
        have : r * A ≤ 100 * 4 := Int.mul_le_mul (by omega) (by omega) (by omega) (by omega)
        omega⟩
      have hw : Go.IntKind.i64.wrap (r * A) = r * A := by rw [wr64] <;> omega
      simp only [if_neg h0, hw]
      by_cases h100 : 100 < r * A
      · simp only [if_pos h100]; exact Ev.step (j4 _) (ih (sz + 1) 100 (by omega) (by omega) (by omega) (by omega))
      · simp only [if_neg h100]; exact Ev.step (j4 _) (ih (sz + 1) (r * A) (by omega) (by omega) hb.1 (by omega))
/-! Without the cap. -/
def refU (B : Nat) : Nat → Nat → Nat → List Nat → Bool
  | 0, _, _, _ => true
  | m + 1, sz, U, L => if U < L.count sz then false else refU B m (sz + 1) ((U - L.count sz) * B) L
theorem refU_congr (B : Nat) : ∀ (m sz U : Nat) (L L' : List Nat), (∀ s, sz ≤ s → L.count s = L'.count s) → refU B m sz U L = refU B m sz U L'
  | 0, _, _, _, _, _ => rfl
  | m + 1, sz, U, L, L', h => by
    rw [refU, refU, h sz (Nat.le_refl _), refU_congr B m (sz + 1) _ L L' (fun s hs => h s (by omega))]
theorem run_refU (B : Nat) (hB : 1 ≤ B) : ∀ (m sz : Nat), m + sz = 31 → ∀ (L : List Nat) (U : Nat), L.Pairwise (· ≤ ·) → (∀ s ∈ L, sz ≤ s ∧ s ≤ 30) → runK B sz U L = refU B m sz U L := by
  intro m
  induction m with
  | zero =>
    intro sz hm L U hp hL
    cases L with
    | nil => rfl
    | cons s rest => have := hL s List.mem_cons_self; omega
  | succ m ih =>
    intro sz hm L
    induction L with
    | nil =>
      intro U hp hL
      rw [refU, List.count_nil, if_neg (by omega), ← ih (sz + 1) (by omega) [] _ List.Pairwise.nil (fun s hs => by simp at hs)]
      rfl
    | cons s rest ihL =>
      intro U hp hL
      have hp2 := List.pairwise_cons.1 hp
      have hs := hL s List.mem_cons_self
      by_cases hc : s = sz
      · subst hc
        have hcount : (s :: rest).count s = rest.count s + 1 := by simp
        rw [runK, Nat.sub_self, Nat.pow_zero, Nat.mul_one, refU, hcount]
        by_cases h0 : U = 0
        · rw [if_pos h0, if_pos (by omega)]
        · rw [if_neg h0, ihL (U - 1) hp2.2 (fun x hx => hL x (List.mem_cons_of_mem _ hx)), refU]
          have hcg : refU B m (s + 1) ((U - (rest.count s + 1)) * B) (s :: rest) = refU B m (s + 1) ((U - (rest.count s + 1)) * B) rest := refU_congr B m _ _ _ _ (fun x hx => by
            rw [List.count_cons]
            have : (s == x) = false := by simp; omega
            rw [this]; simp)
          by_cases h1 : U - 1 < rest.count s
          · rw [if_pos h1, if_pos (by omega)]
          · rw [if_neg h1, if_neg (by omega), hcg, Nat.sub_sub, Nat.add_comm 1]
      · have hall : ∀ x ∈ s :: rest, sz + 1 ≤ x ∧ x ≤ 30 := by
          intro x hx
          have h1 := hL x hx
          rcases List.mem_cons.1 hx with h2 | h2
          · omega
          · have := hp2.1 x h2; omega
        have hcount : (s :: rest).count sz = 0 := List.count_eq_zero.2 fun h => by have := hall sz h; omega
        rw [refU, hcount, if_neg (by omega), Nat.sub_zero, ← ih (sz + 1) (by omega) _ _ hp hall, runK, runK]
        by_cases h0 : U = 0
        · rw [if_pos h0, if_pos (by rw [h0, Nat.zero_mul])]
        · have : ¬ U * B = 0 := fun h => by
            rcases Nat.mul_eq_zero.1 h with h | h
            · exact h0 h
            · omega
          rw [if_neg h0, if_neg this, Nat.mul_assoc, ← Nat.pow_succ', show (s - (sz + 1)).succ = s - sz by omega]
theorem cnt_split (L : List Nat) (sz : Nat) : L.countP (fun x => decide (sz ≤ x)) = L.count sz + L.countP (fun x => decide (sz + 1 ≤ x)) := by
  induction L with
  | nil => rfl
  | cons a L ih =>
    rw [List.countP_cons, List.countP_cons, List.count_cons, ih]
    by_cases h1 : a = sz
    · subst h1
      simp [show ¬ a + 1 ≤ a by omega]; omega
    · have hb : (a == sz) = false := by simpa using h1
      rw [hb]
      by_cases h2 : sz ≤ a
      · have h3 : sz + 1 ≤ a := by omega
        simp only [h2, h3, decide_true, if_true]; simp; omega
      · have h3 : ¬ sz + 1 ≤ a := by omega
        simp only [h2, h3, decide_false]; simp
theorem refR_refU (hA : 1 ≤ A) (S : List Int) (L : List Nat) (hc : ∀ s : Nat, S.count (s : Int) = L.count s) (h20 : L.length ≤ 20) : ∀ (m sz : Nat) (R : Int) (U : Nat), (R = (U : Int) ∨ (80 + ((L.countP fun x => decide (sz ≤ x) : Nat) : Int) ≤ R ∧ R ≤ (U : Int))) → refR A S m sz R = refU A.toNat m sz U L := by
  intro m
  induction m with
  | zero => intro sz R U h; rfl
  | succ m ih =>
    intro sz R U h
    have hsp := cnt_split L sz
    have hle : L.countP (fun x => decide (sz + 1 ≤ x)) ≤ 20 := Nat.le_trans List.countP_le_length h20
    rw [refR, refU, hc]
    obtain ⟨c, hcc⟩ : ∃ c, c = L.count sz := ⟨_, rfl⟩
    rw [← hcc] at hsp ⊢
    by_cases h0 : R - (c : Int) < 0
    · rw [if_pos h0, if_pos (by rcases h with h | h <;> omega)]
    · have hUc : ¬ U < c := by rcases h with h | h <;> omega
      rw [if_neg h0, if_neg hUc]
      have hmul : (((U - c) * A.toNat : Nat) : Int) = ((U : Int) - c) * A := by
        rw [Int.natCast_mul, Int.toNat_of_nonneg (by omega), Int.ofNat_sub (by omega)]
      have hRU : R - c ≤ (U : Int) - c := by rcases h with h | h <;> omega
      have hm1 : (R - c) * A ≤ ((U : Int) - c) * A := Int.mul_le_mul_of_nonneg_right hRU (by omega)
      have hm2 : (R - c) * 1 ≤ (R - c) * A := Int.mul_le_mul_of_nonneg_left hA (by omega)
      refine ih (sz + 1) _ _ ?_
      rw [hmul]
      by_cases h100 : 100 < (R - c) * A
      · rw [if_pos h100]; right; omega
      · rw [if_neg h100]
        rcases h with h | h
        · left; rw [h]
        · right; omega
end Go.Proofs.YtmagglebkbiffaaSx.KR
namespace Go.Proofs.YtmagglebkbiffaaSx.KR
theorem words_l4 (a b : List Int) (ha : a.length ≤ 140737488351232) (hb : a.length = b.length) : ∀ n i, a.length - i = n → i ≤ a.length → Ev (fun k => evermoreref1_Words.l4 k a b (i : Int)) (decide (a.drop i = b.drop i)) := by
  intro n
  induction n with
  | zero =>
    intro i hn hi
    refine Ev.step (fun k => by rw [evermoreref1_Words.l4]) ?_
    simp only [if_neg (show ¬ (i : Int) < (a.length : Int) by omega)]
    rw [List.drop_eq_nil_of_le (by omega), List.drop_eq_nil_of_le (by omega)]; exact Ev.now _
  | succ n ih =>
    intro i hn hi
    refine Ev.step (fun k => by rw [evermoreref1_Words.l4]) ?_
    simp only [if_pos (show (i : Int) < (a.length : Int) by omega), if_pos (show (0 : Int) ≤ (i : Int) by omega), if_pos (show (i : Int) < (b.length : Int) by omega), rd_nat, wrS i (by omega)]
    rw [drop_getD (Int.ofNat 0) a i (by omega), drop_getD (Int.ofNat 0) b i (by omega)]
    by_cases h1 : a.getD i (Int.ofNat 0) = b.getD i (Int.ofNat 0)
    · simp only [if_pos h1]; refine (ih (i + 1) (by omega) (by omega)).cast ?_; simp only [List.cons.injEq, h1, true_and]
    · simp only [if_neg h1]; refine (Ev.now _).cast ?_; simp only [List.cons.injEq, h1, false_and, decide_false]
theorem words_ev (a b : List Int) (ha : a.length ≤ 140737488351232) : Ev (fun k => evermoreref1_Words.f k a b) (decide (a = b)) := by
  by_cases h : a.length = b.length
  · simp only [evermoreref1_Words.f, if_pos (show (a.length : Int) = (b.length : Int) by omega)]
    exact words_l4 a b ha h _ 0 rfl (by omega)
  · simp only [evermoreref1_Words.f, if_neg (show ¬ (a.length : Int) = (b.length : Int) by omega)]
    exact (Ev.now _).cast (decide_eq_false (fun e => h (congrArg _ e))).symm
theorem tk (w : List Int) (n : Nat) : List.take ((n : Int).toNat - Int.toNat 0) (List.drop (Int.toNat 0) w) = w.take n := by simp
theorem begins_ev (w v : List Int) (hw : w.length ≤ 1000) : Ev (fun k => evermoreref24_Begins.f k w v) (decide (v.length ≤ w.length ∧ w.take v.length = v)) := by
  by_cases h : (w.length : Int) < (v.length : Int)
  · simp only [evermoreref24_Begins.f, if_pos h]
    exact (Ev.now _).cast (decide_eq_false (fun h' => by have := h'.1; omega)).symm
  · simp only [evermoreref24_Begins.f, if_neg h, if_pos (show (0 : Int) ≤ 0 by decide), if_pos (show (0 : Int) ≤ (v.length : Int) by omega), if_pos (show (v.length : Int) ≤ (w.length : Int) by omega), tk]
    refine Ev.bind (words_ev (w.take v.length) v (by rw [List.length_take]; omega)) ((Ev.now _).cast ?_)
    by_cases h2 : w.take v.length = v
    · rw [decide_eq_true h2, decide_eq_true ⟨by omega, h2⟩]
    · rw [decide_eq_false h2, decide_eq_false (fun h' => h2 h'.2)]
variable {A : Int} {S ord : List Int}
theorem may_ev (hA : 1 ≤ A ∧ A ≤ 4) (w : List Int) (hw : WordOk A w) (hl : w.length ≤ 60) : Ev (fun k => evermoreref1_May.f k A w) 0 := by
  have l6 : ∀ m i, w.length - i = m → i ≤ w.length → Ev (fun k => evermoreref1_May.l6 k A w (i : Int)) 0 := by
    intro m
    induction m with
    | zero =>
      intro i hm hi
      refine Ev.step (h := fun _ => some 0) (fun k => ?_) (Ev.now _)
      rw [evermoreref1_May.l6, if_neg (by omega)]
    | succ m ih =>
      intro i hm hi
      have e : rd (Int.ofNat 0) w (i : Int) = w.getD i 0 := rd_nat _ _ _
      have hx := hw _ (getD_memI w i (by omega))
      refine Ev.step (fun k => ?_) (ih (i + 1) (by omega) (by omega))
      rw [evermoreref1_May.l6, if_pos (by omega), if_pos (by omega), if_pos (by omega), e, if_neg (by omega), if_pos (by omega), if_pos (by omega), if_neg (by omega), wrS i (by omega)]
  simp only [evermoreref1_May.f, if_neg (show ¬ A < 1 by omega), if_neg (show ¬ 4 < A by omega), if_neg (show ¬ (60 : Int) < (w.length : Int) by omega)]
  exact l6 _ 0 rfl (by omega)
/-! The law. -/
/-- What the law wants of the words. -/
structure LOk (A : Int) (S : List Int) (l : List (List Int)) : Prop where
  len : l.length = S.length
  w : ∀ i, i < S.length → WordOk A (l.getD i []) ∧ ((l.getD i []).length : Int) = S.getD i 0 ∧ (l.getD i []).length ≤ 30
  ap : ∀ i j, i < S.length → j < S.length → i ≠ j → ¬ ((l.getD j []).length ≤ (l.getD i []).length ∧ (l.getD i []).take (l.getD j []).length = l.getD j [])
theorem apart_ev {l : List (List Int)} (H : LOk A S l) (h20 : S.length ≤ 20) : Ev (fun k => evermoreref24_Apart.f k l) true := by
  have hl := H.len
  have l5 : ∀ (i : Nat), i < S.length → ∀ m j, S.length - j = m → j ≤ S.length → ∀ R, Ev (fun k => evermoreref24_Apart.l2 k l ((i + 1 : Nat) : Int)) R → Ev (fun k => evermoreref24_Apart.l5 k l (i : Int) (j : Int)) R := by
    intro i hi m
    induction m with
    | zero =>
      intro j hm hj R E
      refine Ev.step (fun k => ?_) E
      rw [evermoreref24_Apart.l5, if_neg (by omega), wrS i (by omega)]
    | succ m ih =>
      intro j hm hj R E
      have hw := H.w i hi
      have ei : rd [] l (i : Int) = l.getD i [] := rd_nat _ _ _
      have ej : rd [] l (j : Int) = l.getD j [] := rd_nat _ _ _
      refine Ev.step (fun k => by rw [evermoreref24_Apart.l5, if_pos (by omega), if_pos (by omega), if_pos (by omega), if_pos (by omega), if_pos (by omega), ei, ej]) (Ev.bind (begins_ev _ _ (by omega)) ?_)
      have hh := ih (j + 1) (by omega) (by omega) R E
      rw [wrS j (by omega)]
      by_cases hij : i = j
      · simp only [if_pos (show (i : Int) = (j : Int) by omega)]; exact hh
      · simp only [if_neg (show ¬ (i : Int) = (j : Int) by omega), decide_eq_false (H.ap i j hi (by omega) hij), Bool.false_eq_true, if_false]; exact hh
  have l2 : ∀ m i, S.length - i = m → i ≤ S.length → Ev (fun k => evermoreref24_Apart.l2 k l (i : Int)) true := by
    intro m
    induction m with
    | zero =>
      intro i hm hi
      refine Ev.step (h := fun _ => some true) (fun k => ?_) (Ev.now _)
      rw [evermoreref24_Apart.l2, if_neg (by omega)]
    | succ m ih =>
      intro i hm hi
      refine Ev.step (fun k => ?_) (l5 i (by omega) _ 0 rfl (by omega) _ (ih (i + 1) (by omega) (by omega)))
      rw [evermoreref24_Apart.l2, if_pos (by omega)]; rfl
  simp only [evermoreref24_Apart.f]
  exact l2 _ 0 rfl (by omega)
theorem law_l22 (hA : 1 ≤ A ∧ A ≤ 4) {l : List (List Int)} (H : LOk A S l) (h20 : S.length ≤ 20) : ∀ m i, S.length - i = m → i ≤ S.length → Ev (fun k => evermorelaw_CodeKraft.l22 k A S (i : Int) l) true := by
  have hl := H.len
  intro m
  induction m with
  | zero =>
    intro i hm hi
    refine Ev.step (fun k => by rw [evermorelaw_CodeKraft.l22, if_neg (by omega)]) (Ev.bind (apart_ev H h20) (Ev.now _))
  | succ m ih =>
    intro i hm hi
    obtain ⟨w1, w2, w3⟩ := H.w i (by omega)
    have e : rd (Int.ofNat 0) S (i : Int) = S.getD i 0 := rd_nat _ _ _
    refine Ev.step (fun k => by rw [evermorelaw_CodeKraft.l22, if_pos (by omega), if_pos (by omega), if_pos (by omega), Int.toNat_natCast]) (Ev.bind (may_ev hA _ w1 (by omega)) ?_)
    simp only [if_true, if_pos (show (0 : Int) ≤ (i : Int) by omega), if_pos (show (i : Int) < (l.length : Int) by omega), if_pos (show (i : Int) < (S.length : Int) by omega), e, if_pos w2, wrS i (by omega)]
    exact ih (i + 1) (by omega) (by omega)
theorem law_no (no i : Int) (h : no ≠ 0) : Ev (fun k => evermorelaw_CodeKraft.l8 k A S false no no i []) true := by
  refine Ev.step (h := fun _ => some true) (fun k => ?_) (Ev.now _)
  rw [evermorelaw_CodeKraft.l8]
  by_cases h1 : i < (S.length : Int)
  · rw [if_pos h1, if_neg h, if_neg h, if_pos rfl]; rfl
  · rw [if_neg h1, if_neg h, if_pos rfl]; rfl
theorem law_j7 (no : Int) (h : no ≠ 0) : Ev (fun k => evermorelaw_CodeKraft.j7 k A S false no no []) true :=
  Ev.step (fun k => by rw [evermorelaw_CodeKraft.j7]) (law_no (A := A) (S := S) no 0 h)
theorem law_bad (h20 : S.length ≤ 20) : ∀ m i, S.length - i = m → i ≤ S.length → (S.drop i).any badS = true → Ev (fun k => evermorelaw_CodeKraft.l8 k A S false 2 0 (i : Int) []) true := by
  intro m
  induction m with
  | zero =>
    intro i hm hi h
    rw [List.drop_eq_nil_of_le (by omega)] at h; cases h
  | succ m ih =>
    intro i hm hi h
    rw [drop_getD 0 S i (by omega), List.any_cons] at h
    have e : rd (Int.ofNat 0) S (i : Int) = S.getD i 0 := rd_nat _ _ _
    have j9 : ∀ k, evermorelaw_CodeKraft.j9 (k + 1) A S false 2 2 (i : Int) [] = evermorelaw_CodeKraft.l8 k A S false 2 2 (Go.IntKind.i64.wrap ((i : Int) + 1)) [] := fun k => by rw [evermorelaw_CodeKraft.j9]
    have E2 : Ev (fun k => evermorelaw_CodeKraft.j9 k A S false 2 2 (i : Int) []) true := Ev.step j9 (law_no (A := A) (S := S) 2 _ (by decide))
    by_cases h1 : S.getD i 0 < 1
    · refine Ev.step (fun k => ?_) E2
      rw [evermorelaw_CodeKraft.l8, if_pos (by omega), if_pos rfl, if_pos (by omega), if_pos (by omega), e, if_pos h1]
    · by_cases h2 : 30 < S.getD i 0
      · refine Ev.step (fun k => ?_) E2
        rw [evermorelaw_CodeKraft.l8, if_pos (by omega), if_pos rfl, if_pos (by omega), if_pos (by omega), e, if_neg h1, if_pos (by omega), if_pos (by omega), if_pos h2]
      · have hb : badS (S.getD i 0) = false := by rw [badS, decide_eq_false h1, decide_eq_false h2]; rfl
        rw [hb, Bool.false_or] at h
        refine Ev.step (h := fun k => evermorelaw_CodeKraft.j9 k A S false 2 0 (i : Int) []) (fun k => ?_) (Ev.step (fun k => ?_) (ih (i + 1) (by omega) (by omega) h))
        · rw [evermorelaw_CodeKraft.l8, if_pos (by omega), if_pos rfl, if_pos (by omega), if_pos (by omega), e, if_neg h1, if_pos (by omega), if_pos (by omega), if_neg h2]
        · rw [evermorelaw_CodeKraft.j9, wrS i (by omega)]
theorem law_good (h20 : S.length ≤ 20) (hs : ∀ x ∈ S, 1 ≤ x ∧ x ≤ 30) (is : Bool) (l : List (List Int)) (R : Bool) (E : Ev (fun k => evermorelaw_CodeKraft.l8 k A S is 0 0 (S.length : Int) l) R) : ∀ m i, S.length - i = m → i ≤ S.length → Ev (fun k => evermorelaw_CodeKraft.l8 k A S is 0 0 (i : Int) l) R := by
  intro m
  induction m with
  | zero =>
    intro i hm hi
    rw [show i = S.length by omega]; exact E
  | succ m ih =>
    intro i hm hi
    have e : rd (Int.ofNat 0) S (i : Int) = S.getD i 0 := rd_nat _ _ _
    have hx := hs _ (getD_memI S i (by omega))
    refine Ev.step (h := fun k => evermorelaw_CodeKraft.j9 k A S is 0 0 (i : Int) l) (fun k => ?_) (Ev.step (fun k => ?_) (ih (i + 1) (by omega) (by omega)))
    · rw [evermorelaw_CodeKraft.l8, if_pos (by omega), if_pos rfl, if_pos (by omega), if_pos (by omega), e, if_neg (by omega), if_pos (by omega), if_pos (by omega), if_neg (by omega)]
    · rw [evermorelaw_CodeKraft.j9, wrS i (by omega)]
/-! The places, in their first order. -/
def Fst (n : Nat) (o : List Int) : Prop := o.length = n ∧ ∀ j, j < n → o.getD j 0 = (j : Int)
theorem ini_l9 (h20 : S.length ≤ 20) (R : RK) (E : ∀ o, Fst S.length o → Ev (fun k => code_Kraft.l9 k A (S.length : Int) (S.length : Int) S o) R) : ∀ m i o, S.length - i = m → i ≤ S.length → o.length = S.length → (∀ j, j < i → o.getD j 0 = (j : Int)) →
    Ev (fun k => code_Kraft.l9 k A (S.length : Int) (i : Int) S o) R := by
  intro m
  induction m with
  | zero =>
    intro i o hm hi ho hj
    rw [show i = S.length by omega] at hj ⊢
    exact E o ⟨ho, hj⟩
  | succ m ih =>
    intro i o hm hi ho hj
    refine Ev.step (fun k => ?_) (ih (i + 1) (o.set i (i : Int)) (by omega) (by omega) (by rw [List.length_set]; exact ho) (fun j hj2 => ?_))
    · rw [code_Kraft.l9, if_pos (by omega), if_pos (by omega), if_pos (by omega), wrS i (by omega), Int.toNat_natCast]
    · rw [List.getD_eq_getElem?_getD, List.getElem?_set]
      by_cases h : i = j
      · subst h; simp [show i < o.length by omega]
      · rw [if_neg h, ← List.getD_eq_getElem?_getD]; exact hj j (by omega)
theorem Fst.in {n : Nat} {o : List Int} (h : Fst n o) : In n o := ⟨h.1, fun x hx => by
  obtain ⟨j, hj, rfl⟩ := List.mem_iff_getElem.1 hx
  have hl := h.1
  have := h.2 j (by omega)
  rw [getD_el o j hj] at this
  omega⟩
theorem Fst.nd {n : Nat} {o : List Int} (h : Fst n o) : o.Nodup := by
  have hl := h.1
  refine List.pairwise_iff_getElem.2 fun i j hi hj hij => ?_
  have h1 := h.2 i (by omega)
  have h2 := h.2 j (by omega)
  rw [getD_el o i hi] at h1
  rw [getD_el o j hj] at h2
  omega
theorem Fst.mem {n : Nat} {o : List Int} (h : Fst n o) (i : Nat) (hi : i < n) : (i : Int) ∈ o := by
  rw [← h.2 i hi]; exact getD_memI o i (by rw [h.1]; exact hi)
theorem Fst.map {o : List Int} (h : Fst S.length o) : o.map (fun x => S.getD x.toNat 0) = S := by
  refine List.ext_getElem (by rw [List.length_map]; exact h.1) fun i h1 h2 => ?_
  have h3 := h.2 i h2
  have hl := h.1
  rw [getD_el o i (by omega)] at h3
  rw [List.getElem_map, h3, Int.toNat_natCast, getD_el S i h2]
theorem keys_map (K : KOk A S ord) : ((List.range' 0 S.length).map (kN S ord)).map (fun s : Nat => (s : Int)) = ord.map (fun x => S.getD x.toNat 0) := by
  have hl := K.pm.1
  refine List.ext_getElem (by simp [hl]) fun i h1 h2 => ?_
  have hi : i < S.length := by simpa using h1
  have hk := (K.k hi).1
  have ho := (K.o hi).2
  rw [getD_el ord i (by omega)] at ho
  simp only [List.getElem_map, List.getElem_range', Nat.zero_add, Nat.one_mul]
  rw [ho, Int.toNat_natCast, hk]
theorem keys_count (K : KOk A S ord) {o : List Int} (ho : Fst S.length o) (hp : ord.Perm o) (s : Nat) : S.count (s : Int) = ((List.range' 0 S.length).map (kN S ord)).count s := by
  have h1 : (((List.range' 0 S.length).map (kN S ord)).map (fun s : Nat => (s : Int))).Perm S := by
    rw [keys_map K]
    have := hp.map (fun x => S.getD x.toNat 0)
    rw [ho.map] at this; exact this
  rw [← h1.count_eq (s : Int), List.count, List.countP_map, List.count]
  refine List.countP_congr fun x _ => ?_
  simp [Int.natCast_inj]
theorem keys_sorted (K : KOk A S ord) : ((List.range' 0 S.length).map (kN S ord)).Pairwise (· ≤ ·) := by
  refine List.pairwise_iff_getElem.2 fun i j hi hj hij => ?_
  have h2 : j < S.length := by simpa using hj
  simp only [List.getElem_map, List.getElem_range', Nat.zero_add, Nat.one_mul]
  exact K.mono hij h2
theorem J0.lok (K : KOk A S ord) {o : List Int} (ho : Fst S.length o) (hp : ord.Perm o) {l : List (List Int)} (J : J0 A S ord S.length l) : LOk A S l := by
  have a1 := K.a1
  have hl := K.pm.1
  have sur : ∀ i, i < S.length → ∃ p, p < S.length ∧ oN ord p = i := by
    intro i hi
    obtain ⟨p, hp1, hp2⟩ := List.mem_iff_getElem.1 (hp.mem_iff.2 (ho.mem i hi))
    refine ⟨p, by omega, ?_⟩
    unfold oN
    rw [getD_el ord p hp1, hp2, Int.toNat_natCast]
  refine ⟨J.len, fun i hi => ?_, fun i j hi hj hij => ?_⟩
  · obtain ⟨p, hp1, rfl⟩ := sur i hi
    obtain ⟨w1, w2⟩ := J.wd p hp1
    obtain ⟨k1, k2, k3⟩ := K.k hp1
    exact ⟨w1, by rw [w2, k1], by omega⟩
  · obtain ⟨p, hp1, rfl⟩ := sur i hi
    obtain ⟨q, hq1, rfl⟩ := sur j hj
    have hpq : p ≠ q := fun h => hij (by rw [h])
    obtain ⟨w1, w2⟩ := J.wd p hp1
    obtain ⟨v1, v2⟩ := J.wd q hq1
    rintro ⟨b1, b2⟩
    obtain ⟨w, hw⟩ : ∃ w, w = l.getD (oN ord p) [] := ⟨_, rfl⟩
    obtain ⟨v, hv⟩ : ∃ v, v = l.getD (oN ord q) [] := ⟨_, rfl⟩
    have hpr1 := J.pr p q
    have hpr2 := J.pr q p
    rw [← hw, ← hv] at b1 b2 hpr1 hpr2
    rw [← hw] at w1 w2
    rw [← hv] at v1 v2
    rcases Nat.lt_or_gt_of_ne hpq with h | h
    · have hm := K.mono h hq1
      have e : w = v := by rw [← b2, List.take_of_length_le (by omega)]
      have := hpr1 h hq1
      rw [show kN S ord q - kN S ord p = 0 by omega, Nat.pow_zero, Nat.mul_one, e] at this
      omega
    · have := hpr2 h hp1
      have hw2 : w = v ++ w.drop v.length := by
        conv => lhs; rw [← List.take_append_drop v.length w, b2]
      have hval : val A.toNat w = valR A.toNat (w.drop v.length).reverse + A.toNat ^ (w.drop v.length).length * val A.toNat v := by
        conv => lhs; rw [hw2]
        rw [val, List.reverse_append, valR_app, List.length_reverse]; rfl
      have hlt := valR_lt a1 (w.drop v.length).reverse (fun x hx => w1 x (List.mem_of_mem_drop (List.mem_reverse.1 hx)))
      rw [List.length_reverse] at hlt
      have hln : (w.drop v.length).length = kN S ord p - kN S ord q := by rw [List.length_drop]; omega
      rw [hln] at hval hlt
      rw [Nat.add_mul, Nat.one_mul, Nat.mul_comm (val A.toNat v)] at this
      omega
theorem CodeKraft : evermorelaw_CodeKraft.PureH := by
  intro A S okA okS
  refine Ev.get ?_
  simp only [evermorelaw_CodeKraft.f, code_Kraft.f]
  by_cases hA1 : A < 1
  · simp only [if_pos hA1]
    exact Ev.bind (x := (false, 2, [])) (Ev.now _) (law_j7 (A := A) (S := S) 2 (by decide))
  by_cases hA4 : 4 < A
  · simp only [if_neg hA1, if_pos hA4]
    exact Ev.bind (x := (false, 2, [])) (Ev.now _) (law_j7 (A := A) (S := S) 2 (by decide))
  by_cases hn1 : (S.length : Int) < 1
  · simp only [if_neg hA1, if_neg hA4, if_pos hn1]
    exact Ev.bind (x := (false, 1, [])) (Ev.now _) (law_j7 (A := A) (S := S) 1 (by decide))
  by_cases hn20 : 20 < (S.length : Int)
  · simp only [if_neg hA1, if_neg hA4, if_neg hn1, if_pos hn20]
    exact Ev.bind (x := (false, 1, [])) (Ev.now _) (law_j7 (A := A) (S := S) 1 (by decide))
  simp only [if_neg hA1, if_neg hA4, if_neg hn1, if_neg hn20]
  have h20 : S.length ≤ 20 := by omega
  cases hb : S.any badS with
  | true =>
    refine Ev.bind (x := (false, 2, [])) (Ev.bind (con_ev S (by omega)) ?_) ?_
    · simp only [hb, if_true]; exact Ev.now _
    · refine Ev.step (h := fun k => evermorelaw_CodeKraft.l8 k A S false 2 0 0 []) (fun k => by rw [evermorelaw_CodeKraft.j7]) ?_
      exact law_bad (A := A) h20 _ 0 rfl (by omega) (by rw [List.drop_zero]; exact hb)
  | false =>
    have hs : ∀ x ∈ S, 1 ≤ x ∧ x ≤ 30 := by
      intro x hx
      have := List.any_eq_false.1 hb x hx
      simp [badS] at this
      omega
    have hfin : ∀ o, Fst S.length o → ∃ lf b, refR A S 31 0 1 = b ∧ (b = true → LOk A S lf) ∧ (b = false → lf = []) ∧ Ev (fun k => code_Kraft.l9 k A (S.length : Int) (S.length : Int) S o) (b, 0, lf) := by
      intro o ho
      obtain ⟨ord, p1, p2, p3⟩ := sort_ev h20 (by omega) o ho.in
      have K : KOk A S ord := ⟨by omega, by omega, h20, hs, ho.in.perm p1, p1.nodup_iff.2 ho.nd, p2⟩
      have hol := K.pm.1
      obtain ⟨lf, g1, g2, g3⟩ := main_l17 K S.length 0 (List.replicate S.length []) [] true rfl (by omega)
        ⟨by rw [List.length_replicate], fun p hp => by omega, fun p q h hq => by omega⟩
        (fun _ => ⟨fun x hx => by simp at hx, fun q h hq => by simp, fun p hp => by omega, fun p hp => by omega⟩)
      have hv0 : val A.toNat [] = 0 := rfl
      simp only [if_true, hv0, List.length_nil, Nat.pow_zero, Nat.sub_zero] at g1 g2 g3
      have hrun : refR A S 31 0 1 = runK A.toNat 0 1 ((List.range' 0 S.length).map (kN S ord)) := by
        rw [run_refU A.toNat (by omega) 31 0 rfl _ 1 (keys_sorted K) (fun s hs => by
          obtain ⟨p, hp, rfl⟩ := List.mem_map.1 hs
          have := K.k (p := p) (by simpa using hp)
          omega)]
        exact refR_refU (by omega) S _ (keys_count K ho p1) (by simp; exact h20) 31 0 1 1 (.inl rfl)
      refine ⟨lf, _, hrun, fun h => (g2 h).lok K ho p1, g3, ?_⟩
      refine Ev.step (fun k => by rw [code_Kraft.l9, if_neg (by omega)]) (Ev.bind p3 ?_)
      simp only [if_pos (show (0 : Int) ≤ (S.length : Int) by omega), if_pos (show (S.length : Int) ≤ (S.length : Int) by omega), if_pos (show (S.length : Int) * ((24 : Int) + 1) ≤ 281474976710656 by omega), Int.toNat_natCast, hol]
      exact g1
    have hprog : ∃ lf b, refR A S 31 0 1 = b ∧ (b = true → LOk A S lf) ∧ (b = false → lf = []) ∧ Ev (fun k => code_Kraft.l9 k A (S.length : Int) 0 S (List.replicate S.length 0)) (b, 0, lf) := by
      obtain ⟨o, ho⟩ : ∃ o, Fst S.length o := ⟨(List.range S.length).map (fun j : Nat => (j : Int)), by simp, fun j hj => by simp [hj]⟩
      have ex : ∀ o', Fst S.length o' → o' = o := by
        intro o' ho'
        refine List.ext_getElem (by rw [ho.1, ho'.1]) fun i h1 h2 => ?_
        have e1 := ho'.2 i (by rw [← ho'.1]; exact h1)
        have e2 := ho.2 i (by rw [← ho.1]; exact h2)
        rw [getD_el _ _ h1] at e1
        rw [getD_el _ _ h2] at e2
        omega
      obtain ⟨lf, b, h1, h2, h3, h4⟩ := hfin o ho
      exact ⟨lf, b, h1, h2, h3, ini_l9 (A := A) h20 _ (fun o' ho' => by rw [ex o' ho']; exact h4) _ 0 _ rfl (by omega) (by simp) (fun j hj => by omega)⟩
    obtain ⟨lf, b, h1, h2, h3, h4⟩ := hprog
    refine Ev.bind (x := (b, 0, lf)) (Ev.bind (con_ev S (by omega)) ?_) ?_
    · simp only [hb, Bool.false_eq_true, if_false, if_pos (show (0 : Int) ≤ (S.length : Int) by omega), if_pos (show (S.length : Int) ≤ (S.length : Int) by omega), if_pos (show (S.length : Int) * ((8 : Int) + 1) ≤ 281474976710656 by omega), Int.toNat_natCast, List.length_replicate]
      exact h4
    · refine Ev.step (h := fun k => evermorelaw_CodeKraft.l8 k A S b 0 0 0 lf) (fun k => by rw [evermorelaw_CodeKraft.j7]) ?_
      refine law_good (A := A) h20 hs b lf _ ?_ _ 0 rfl (by omega)
      have hr : Ev (fun k => evermoreref24_Kraft.f k A S) b := by
        simp only [evermoreref24_Kraft.f]
        exact (ref_l3 (A := A) h20 ⟨by omega, by omega⟩ 31 0 1 rfl (by omega) (by decide) (by decide)).cast h1
      refine Ev.step (fun k => by rw [evermorelaw_CodeKraft.l8, if_neg (by omega), if_pos rfl]) (Ev.bind hr ?_)
      cases b with
      | true =>
        have H := h2 rfl
        simp only [if_true, Bool.not_true, show (false == true) = false from rfl, Bool.false_eq_true, if_false, if_pos (show (lf.length : Int) = (S.length : Int) by rw [H.len])]
        exact law_l22 (A := A) ⟨by omega, by omega⟩ H h20 _ 0 rfl (by omega)
      | false =>
        rw [h3 rfl]
        simp only [if_true, Bool.not_false, show (true == false) = false from rfl, Bool.false_eq_true, if_false]
        exact (Ev.now _).cast (by rfl)
end Go.Proofs.YtmagglebkbiffaaSx.KR
namespace Go.Proofs.Ytmagglebkbiffaa
theorem Pure.CodeKraft : Go.Proofs.YtmagglebkbiffaaSx.evermorelaw_CodeKraft.PureH := Go.Proofs.YtmagglebkbiffaaSx.KR.CodeKraft
end Go.Proofs.Ytmagglebkbiffaa
