-- Printed over the kit's print by a program of this session (wip/hprint.py), with contracts of its own hand.
import Derived.Test.YtaaibckhpbmbeaaPCodeSyncx0
namespace Go.Proofs.Ytaaibckhpbmbeaa.PCodeSync
open Go.RowKit Go.Proofs.YtaaibckhpbmbeaaW.PrintWords Go.Proofs.YtaaibckhpbmbeaaW.PrintLast Go.Proofs.YtaaibckhpbmbeaaW.PrintMore
attribute [local go_sem] max2_int min2_int max_two min_two max_three min_three max_four min_four   -- for this text's walks alone
set_option linter.unusedVariables false
set_option linter.unusedSimpArgs false

-- NOT PRINTED: function 131 (slices_IndexFunc_int_int_131)

-- NOT PRINTED: function 69 (slices_ContainsFunc_int_int_69)

-- NOT PRINTED: function 132 (slices_IndexFunc_int_int_132)

-- NOT PRINTED: function 71 (slices_ContainsFunc_int_int_71)

-- NOT PRINTED: function 127 (det_Check_1)

-- NOT PRINTED: function 128 (det_Check_2)

-- NOT PRINTED: function 129 (det_Check_3)

-- NOT PRINTED: function 130 (det_Check_4)

/-! ### det_Check: function 67 -/
/-- what lies in blocks of the call's own, in whatever later world -/
structure det_Check.Bx (w : World) (cs : List (Nat × Nat × Value)) (W : World) : Prop where
  below : Below w.heap.size w W
  cell : ∀ p ∈ cs, p.1 < W.heap.size ∧ W.cell? ⟨p.1, p.2.1, none⟩ = some p.2.2
theorem det_Check.Bx.step {w W W' : World} {cs : List (Nat × Nat × Value)} (h : det_Check.Bx w cs W) (hb : Below W.heap.size W W') : det_Check.Bx w cs W' :=
  ⟨below_step h.below hb, fun p hp => ⟨Nat.lt_of_lt_of_le (h.cell p hp).1 hb.size, (hb.cell (p := ⟨p.1, p.2.1, none⟩) (h.cell p hp).1).trans (h.cell p hp).2⟩⟩
theorem det_Check.Bx.at {w W : World} {cs : List (Nat × Nat × Value)} (h : det_Check.Bx w cs W) (i : Nat) {b o : Nat} {v : Value} (hi : cs[i]? = some (b, o, v)) : W.cell? ⟨b, o, none⟩ = some v :=
  (h.cell (b, o, v) (List.mem_of_getElem? hi)).2
/-- slices.IndexFunc at elements of one cell (int): the first one of which p holds. -/
def det_Check.idxI {α : Type} (p : α → Bool) : List α → Nat → Int
  | [], _ => -1
  | x :: xs, i => if p x = true then (i : Int) else det_Check.idxI p xs (i + 1)
theorem det_Check.idxI_any {α : Type} (p : α → Bool) : ∀ (xs : List α) (i : Nat), decide (det_Check.idxI p xs i ≥ 0) = xs.any p
  | [], _ => by simp [det_Check.idxI]
  | x :: xs, i => by
    have ih := det_Check.idxI_any p xs (i + 1)
    by_cases h : p x = true
    · rw [det_Check.idxI, if_pos h, List.any_cons, h]
      simp
    · rw [det_Check.idxI, if_neg h, List.any_cons, ih]
      simp [h]
set_option maxHeartbeats 4000000 in
set_option maxRecDepth 100000 in
theorem det_Check.IndexFuncI {α : Type} (d : Kd α) (hsz : d.sz = 1) (p : α → Bool) (g : Nat) (lb : Array Value) (eg : ∀ args w, (callFunc g args).run Try.prog w = .ok (.enter g args) w)
    (A : Option Addr) (c : Nat) (xs : List α) (w : World) (hr : d.C w A xs.length xs)
    (hp : ∀ (i : Nat) (x : α) (v : Value) (W : World), xs[i]? = some x → Below w.heap.size w W → d.K W x [v] → Calls Try.prog g (#[v] ++ lb) W fun e w' => e = .returned (.bool (p x)) ∧ Below w.heap.size w w') :
    Calls Try.prog 132 #[.slice A xs.length c, .func (.func g) #[] lb] w fun e w' => e = .returned (.int .i64 (det_Check.idxI p xs 0)) ∧ Below w.heap.size w w' := by
  have HR := Aside0.mk hr
  have hbig : xs.length ≤ 9223372036854775807 := hr.2.1
  clear hr
  go_enter Try.func132, Try.ntmps132
  go_wp2
  go_loopg [5, 8] xs.length (fun gg _ s8 wr => ∃ kk : Nat, kk ≤ xs.length ∧ xs.length - kk ≤ gg ∧ s8 = .int .i64 kk ∧ Aside0 (Below w.heap.size w wr) ∧ Aside0 (det_Check.idxI p xs 0 = det_Check.idxI p (xs.drop kk) kk))
  case atStart => exact ⟨0, Nat.zero_le _, by omega, rfl, ⟨Below.refl _ w⟩, ⟨rfl⟩⟩
  case round =>
    obtain ⟨kk, hkk, hg, rfl, BW, IX⟩ := hrel
    by_cases hlt : kk < xs.length
    · have hltz : (kk : Int) < (xs.length : Int) := by omega
      obtain ⟨ad, cs, hA, hcs, hK, hcell⟩ := Kd.C_get (Kd.C_below HR.out BW.out) (xs[kk]'hlt) (kk : Int) (by omega) hltz
      have hcs1 : cs.length = 1 := by rw [hcs, hsz]
      obtain ⟨v, rfl⟩ : ∃ v, cs = [v] := by
        match cs, hcs1 with
        | [v], _ => exact ⟨v, rfl⟩
      have hx : xs.getD (kk : Int).toNat (xs[kk]'hlt) = xs[kk]'hlt := by rw [Int.toNat_natCast, List.getD_eq_getElem?_getD, List.getElem?_eq_getElem hlt]; rfl
      rw [hx] at hK
      have hc0 := hcell 0 v rfl
      rw [hsz, Nat.mul_one, Nat.add_zero, Int.toNat_natCast] at hc0
      have hcall := hp kk (xs[kk]'hlt) v wr (List.getElem?_eq_getElem hlt) BW.out hK
      have IX2 := IX.out
      rw [List.drop_eq_getElem_cons hlt, det_Check.idxI] at IX2
      have IX3 := Aside0.mk IX2
      have v1 : v.oneCell' = true := d.K_one hK v (by simp)
      clear IX IX2 hcell hK hcs hcs1 hx hp
      subst hA
      cases hq : p (xs[kk]'hlt) with
      | true =>
        rw [hq] at hcall
        have Hq := Aside0.mk hq
        clear hq
        go_wp2_with (go_at_fn g; refine hcall.mono ?_; rintro e w' ⟨rfl, hb'⟩)
        go_ret
        refine ⟨?_, hb'⟩
        rw [IX3.out, if_pos Hq.out]
        rfl
      | false =>
        rw [hq] at hcall
        have Hq := Aside0.mk hq
        clear hq
        go_wp2_with (go_at_fn g; refine hcall.mono ?_; rintro e w' ⟨rfl, hb'⟩)
        go_roundg (xs.length - (kk + 1))
        case measure => omega
        case rel =>
          exact ⟨kk + 1, by omega, by omega, by go_num, ⟨hb'⟩, ⟨by rw [IX3.out, if_neg (by rw [Hq.out]; decide)]⟩⟩
    · have hltz : ¬ (kk : Int) < (xs.length : Int) := by omega
      have hkl : xs.length ≤ kk := by omega
      go_wp2
      go_ret
      refine ⟨?_, BW.out⟩
      rw [IX.out, List.drop_of_length_le hkl, det_Check.idxI]
      rfl
set_option maxHeartbeats 4000000 in
set_option maxRecDepth 100000 in
theorem det_Check.ContainsFuncI {α : Type} (d : Kd α) (hsz : d.sz = 1) (p : α → Bool) (g : Nat) (lb : Array Value) (eg : ∀ args w, (callFunc g args).run Try.prog w = .ok (.enter g args) w)
    (A : Option Addr) (c : Nat) (xs : List α) (w : World) (hr : d.C w A xs.length xs)
    (hp : ∀ (i : Nat) (x : α) (v : Value) (W : World), xs[i]? = some x → Below w.heap.size w W → d.K W x [v] → Calls Try.prog g (#[v] ++ lb) W fun e w' => e = .returned (.bool (p x)) ∧ Below w.heap.size w w') :
    Calls Try.prog 71 #[.slice A xs.length c, .func (.func g) #[] lb] w fun e w' => e = .returned (.bool (xs.any p)) ∧ Below w.heap.size w w' := by
  have hX := Aside0.mk (det_Check.IndexFuncI d hsz p g lb eg A c xs w hr hp)
  have hY := Aside0.mk (det_Check.idxI_any p xs 0)
  clear hr hp
  go_enter Try.func71, Try.ntmps71
  go_wp2_with (go_at_call 132; refine hX.out.mono ?_; rintro e w' ⟨rfl, hb'⟩)
  go_ret
  exact ⟨by rw [← hY.out]; simp, hb'⟩
/-- slices.IndexFunc at elements of one cell ([]int): the first one of which p holds. -/
def det_Check.idxL {α : Type} (p : α → Bool) : List α → Nat → Int
  | [], _ => -1
  | x :: xs, i => if p x = true then (i : Int) else det_Check.idxL p xs (i + 1)
theorem det_Check.idxL_any {α : Type} (p : α → Bool) : ∀ (xs : List α) (i : Nat), decide (det_Check.idxL p xs i ≥ 0) = xs.any p
  | [], _ => by simp [det_Check.idxL]
  | x :: xs, i => by
    have ih := det_Check.idxL_any p xs (i + 1)
    by_cases h : p x = true
    · rw [det_Check.idxL, if_pos h, List.any_cons, h]
      simp
    · rw [det_Check.idxL, if_neg h, List.any_cons, ih]
      simp [h]
set_option maxHeartbeats 4000000 in
set_option maxRecDepth 100000 in
theorem det_Check.IndexFuncL {α : Type} (d : Kd α) (hsz : d.sz = 1) (p : α → Bool) (g : Nat) (lb : Array Value) (eg : ∀ args w, (callFunc g args).run Try.prog w = .ok (.enter g args) w)
    (A : Option Addr) (c : Nat) (xs : List α) (w : World) (hr : d.C w A xs.length xs)
    (hp : ∀ (i : Nat) (x : α) (v : Value) (W : World), xs[i]? = some x → Below w.heap.size w W → d.K W x [v] → Calls Try.prog g (#[v] ++ lb) W fun e w' => e = .returned (.bool (p x)) ∧ Below w.heap.size w w') :
    Calls Try.prog 131 #[.slice A xs.length c, .func (.func g) #[] lb] w fun e w' => e = .returned (.int .i64 (det_Check.idxL p xs 0)) ∧ Below w.heap.size w w' := by
  have HR := Aside0.mk hr
  have hbig : xs.length ≤ 9223372036854775807 := hr.2.1
  clear hr
  go_enter Try.func131, Try.ntmps131
  go_wp2
  go_loopg [5, 8] xs.length (fun gg _ s8 wr => ∃ kk : Nat, kk ≤ xs.length ∧ xs.length - kk ≤ gg ∧ s8 = .int .i64 kk ∧ Aside0 (Below w.heap.size w wr) ∧ Aside0 (det_Check.idxL p xs 0 = det_Check.idxL p (xs.drop kk) kk))
  case atStart => exact ⟨0, Nat.zero_le _, by omega, rfl, ⟨Below.refl _ w⟩, ⟨rfl⟩⟩
  case round =>
    obtain ⟨kk, hkk, hg, rfl, BW, IX⟩ := hrel
    by_cases hlt : kk < xs.length
    · have hltz : (kk : Int) < (xs.length : Int) := by omega
      obtain ⟨ad, cs, hA, hcs, hK, hcell⟩ := Kd.C_get (Kd.C_below HR.out BW.out) (xs[kk]'hlt) (kk : Int) (by omega) hltz
      have hcs1 : cs.length = 1 := by rw [hcs, hsz]
      obtain ⟨v, rfl⟩ : ∃ v, cs = [v] := by
        match cs, hcs1 with
        | [v], _ => exact ⟨v, rfl⟩
      have hx : xs.getD (kk : Int).toNat (xs[kk]'hlt) = xs[kk]'hlt := by rw [Int.toNat_natCast, List.getD_eq_getElem?_getD, List.getElem?_eq_getElem hlt]; rfl
      rw [hx] at hK
      have hc0 := hcell 0 v rfl
      rw [hsz, Nat.mul_one, Nat.add_zero, Int.toNat_natCast] at hc0
      have hcall := hp kk (xs[kk]'hlt) v wr (List.getElem?_eq_getElem hlt) BW.out hK
      have IX2 := IX.out
      rw [List.drop_eq_getElem_cons hlt, det_Check.idxL] at IX2
      have IX3 := Aside0.mk IX2
      have v1 : v.oneCell' = true := d.K_one hK v (by simp)
      clear IX IX2 hcell hK hcs hcs1 hx hp
      subst hA
      cases hq : p (xs[kk]'hlt) with
      | true =>
        rw [hq] at hcall
        have Hq := Aside0.mk hq
        clear hq
        go_wp2_with (go_at_fn g; refine hcall.mono ?_; rintro e w' ⟨rfl, hb'⟩)
        go_ret
        refine ⟨?_, hb'⟩
        rw [IX3.out, if_pos Hq.out]
        rfl
      | false =>
        rw [hq] at hcall
        have Hq := Aside0.mk hq
        clear hq
        go_wp2_with (go_at_fn g; refine hcall.mono ?_; rintro e w' ⟨rfl, hb'⟩)
        go_roundg (xs.length - (kk + 1))
        case measure => omega
        case rel =>
          exact ⟨kk + 1, by omega, by omega, by go_num, ⟨hb'⟩, ⟨by rw [IX3.out, if_neg (by rw [Hq.out]; decide)]⟩⟩
    · have hltz : ¬ (kk : Int) < (xs.length : Int) := by omega
      have hkl : xs.length ≤ kk := by omega
      go_wp2
      go_ret
      refine ⟨?_, BW.out⟩
      rw [IX.out, List.drop_of_length_le hkl, det_Check.idxL]
      rfl
set_option maxHeartbeats 4000000 in
set_option maxRecDepth 100000 in
theorem det_Check.ContainsFuncL {α : Type} (d : Kd α) (hsz : d.sz = 1) (p : α → Bool) (g : Nat) (lb : Array Value) (eg : ∀ args w, (callFunc g args).run Try.prog w = .ok (.enter g args) w)
    (A : Option Addr) (c : Nat) (xs : List α) (w : World) (hr : d.C w A xs.length xs)
    (hp : ∀ (i : Nat) (x : α) (v : Value) (W : World), xs[i]? = some x → Below w.heap.size w W → d.K W x [v] → Calls Try.prog g (#[v] ++ lb) W fun e w' => e = .returned (.bool (p x)) ∧ Below w.heap.size w w') :
    Calls Try.prog 69 #[.slice A xs.length c, .func (.func g) #[] lb] w fun e w' => e = .returned (.bool (xs.any p)) ∧ Below w.heap.size w w' := by
  have hX := Aside0.mk (det_Check.IndexFuncL d hsz p g lb eg A c xs w hr hp)
  have hY := Aside0.mk (det_Check.idxL_any p xs 0)
  clear hr hp
  go_enter Try.func69, Try.ntmps69
  go_wp2_with (go_at_call 131; refine hX.out.mono ?_; rintro e w' ⟨rfl, hb'⟩)
  go_ret
  exact ⟨by rw [← hY.out]; simp, hb'⟩
set_option maxHeartbeats 4000000 in
set_option maxRecDepth 100000 in
theorem det_Check.clolen (b : Nat) (base : Int) (x : List Int) (A : Option Addr) (c : Nat) (W : World) (hc : W.cell? ⟨b, 0, none⟩ = some (.int .i64 base)) :
    Calls Try.prog 127 #[.slice A x.length c, .pointer (some ⟨b, 0, none⟩)] W fun e W' => e = .returned (.bool (decide ((x.length : Int) ≠ base))) ∧ Below W.heap.size W W' := by
  by_cases h : (x.length : Int) = base
  · have c1 : ((x.length : Int) != base) = false := by rw [bne_eq_false_iff_eq]; exact h
    have c2 := Aside0.mk h
    clear h
    go_enter Try.func127, Try.ntmps127
    go_wp2
    go_ret
    exact ⟨by simp [c2.out], Below.refl _ _⟩
  · have c1 : ((x.length : Int) != base) = true := by rw [bne_iff_ne]; exact h
    have c2 := Aside0.mk h
    clear h
    go_enter Try.func127, Try.ntmps127
    go_wp2
    go_ret
    exact ⟨by simp [c2.out], Below.refl _ _⟩
def det_Check.bad (n : Int) (b : Int) : Bool := decide (b < 0) || decide (b ≥ n)
set_option maxHeartbeats 4000000 in
set_option maxRecDepth 100000 in
theorem det_Check.clono (b : Nat) (n : Int) (x : Int) (W : World) (hc : W.cell? ⟨b, 0, none⟩ = some (.int .i64 n)) :
    Calls Try.prog 128 #[.int .i64 x, .pointer (some ⟨b, 0, none⟩)] W fun e W' => e = .returned (.bool (det_Check.bad n x)) ∧ Below W.heap.size W W' := by
  have hs : ∀ y, y = det_Check.bad n x → Aside0 (det_Check.bad n x = y) := fun y hy => ⟨hy.symm⟩
  by_cases h : x < 0
  · have H := hs true (by unfold det_Check.bad; simp [h])
    go_enter Try.func128, Try.ntmps128
    go_wp2
    go_ret
    exact ⟨by rw [H.out]; simp, Below.refl _ _⟩
  · by_cases h2 : n ≤ x
    · have H := hs true (by unfold det_Check.bad; simp [h2])
      go_enter Try.func128, Try.ntmps128
      go_wp2
      go_ret
      exact ⟨by rw [H.out]; simp, Below.refl _ _⟩
    · have H := hs false (by unfold det_Check.bad; simp [h, h2])
      go_enter Try.func128, Try.ntmps128
      go_wp2
      go_ret
      exact ⟨by rw [H.out]; simp, Below.refl _ _⟩
/- the closure that looks a row over with another closure -/
set_option maxHeartbeats 4000000 in
set_option maxRecDepth 100000 in
theorem det_Check.cloall (B b : Nat) (n : Int) (x : List Int) (A : Option Addr) (c : Nat) (W : World) (hB : W.cell? ⟨B, 0, none⟩ = some (.func (.func 128) #[] #[.pointer (some ⟨b, 0, none⟩)])) (hlt : b < W.heap.size) (hb : W.cell? ⟨b, 0, none⟩ = some (.int .i64 n)) (hC : Kd.C (Kd.int .i64) W A x.length x) :
    Calls Try.prog 129 #[.slice A x.length c, .pointer (some ⟨B, 0, none⟩)] W fun e W' => e = .returned (.bool (x.any (det_Check.bad n))) ∧ Below W.heap.size W W' := by
  have eg : ∀ args w, (callFunc 128 args).run Try.prog w = .ok (.enter 128 args) w := enters_of Try.func128 (by kernel_rfl) rfl
  have HK := Aside0.mk (det_Check.ContainsFuncI (Kd.int .i64) rfl (det_Check.bad n) 128 #[.pointer (some ⟨b, 0, none⟩)] eg A c x W hC (fun i y v W1 _ hw hk => by
    have hv : v = .int .i64 y := by injection hk
    subst hv
    exact (det_Check.clono b n y W1 ((hw.cell (p := ⟨b, 0, none⟩) hlt).trans hb)).mono fun e w' ⟨he, hb'⟩ => ⟨he, below_step hw hb'⟩))
  clear hC hlt hb
  go_enter Try.func129, Try.ntmps129
  go_wp2_with fail
  refine HK.out.mono ?_
  rintro e w1 ⟨rfl, hb1⟩
  have HB := Aside0.mk hb1
  clear hb1
  go_wp2_with fail
  go_ret
  exact ⟨rfl, HB.out⟩
def det_Check.badm (m : Int) : Bool := decide (m ≠ 0) && decide (m ≠ 1)
set_option maxHeartbeats 4000000 in
set_option maxRecDepth 100000 in
theorem det_Check.clomark (x : Int) (W : World) :
    Calls Try.prog 130 #[.int .i64 x] W fun e W' => e = .returned (.bool (det_Check.badm x)) ∧ Below W.heap.size W W' := by
  have hs : ∀ y, y = det_Check.badm x → Aside0 (det_Check.badm x = y) := fun y hy => ⟨hy.symm⟩
  by_cases h : x = 0
  · have H := hs false (by unfold det_Check.badm; simp [h])
    have c1 : (x != 0) = false := bne_eq_false_iff_eq.2 h
    clear h
    go_enter Try.func130, Try.ntmps130
    go_wp2
    go_ret
    exact ⟨by rw [H.out]; try simp, Below.refl _ _⟩
  · have c1 : (x != 0) = true := bne_iff_ne.2 h
    by_cases h2 : x = 1
    · have H := hs false (by unfold det_Check.badm; simp [h2])
      have c2 : (x != 1) = false := bne_eq_false_iff_eq.2 h2
      clear h h2
      go_enter Try.func130, Try.ntmps130
      go_wp2
      go_ret
      exact ⟨by rw [H.out]; try simp, Below.refl _ _⟩
    · have H := hs true (by unfold det_Check.badm; simp [h, h2])
      have c2 : (x != 1) = true := bne_iff_ne.2 h2
      clear h h2
      go_enter Try.func130, Try.ntmps130
      go_wp2
      go_ret
      exact ⟨by rw [H.out]; try simp, Below.refl _ _⟩
def det_Check.v (a s : Int) (next : List (List Int)) (mark : List Int) : Int :=
  if a < 1 ∨ a > 4 then 2 else if next.length < 1 ∨ next.length > 3000 then 1 else if mark.length ≠ next.length ∨ next.any (fun x => decide ((x.length : Int) ≠ a)) = true then 3
  else if det_Check.bad next.length s = true ∨ next.any (fun x => x.any (det_Check.bad next.length)) = true then 2 else if mark.any det_Check.badm = true then 2 else 0
def det_Check.f (a0 : Int) (a1 : Int) (l2 : List (List Int)) (l3 : List Int) : Option (Int) := some (det_Check.v a0 a1 l2 l3)
set_option maxHeartbeats 16000000 in
set_option maxRecDepth 100000 in
theorem det_Check.calls (a0_0 : Int) (a0_1 : Int) (A0_2 : Option Addr) (c0_2 : Nat) (l0_2 : List (List Int)) (A0_3 : Option Addr) (c0_3 : Nat) (l0_3 : List Int) (r : Int) (w : World) (hr0_2 : Kd.C (Kd.slice 3 (Kd.int .i64)) w A0_2 l0_2.length l0_2) (hc0_2 : l0_2.length ≤ c0_2) (hr0_3 : Kd.C (Kd.int .i64) w A0_3 l0_3.length l0_3) (hc0_3 : l0_3.length ≤ c0_3) (h : det_Check.f a0_0 a0_1 l0_2 l0_3 = some r) :
    Calls Try.prog 67 #[.agg #[.int .i64 a0_0, .int .i64 a0_1, .slice A0_2 l0_2.length c0_2, .slice A0_3 l0_3.length c0_3]] w fun e w' => e = .returned (.int .i64 r) ∧ Below w.heap.size w w' := by
  have HR1 := Aside0.mk hr0_2
  have HR2 := Aside0.mk hr0_3
  have hm1 : l0_2.length ≤ 9223372036854775807 := hr0_2.2.1
  have hm2 : l0_3.length ≤ 9223372036854775807 := hr0_3.2.1
  clear hr0_2 hr0_3
  obtain rfl := Option.some.inj h
  clear h
  have HV : ∀ y, det_Check.v a0_0 a0_1 l0_2 l0_3 = y → Aside0 (y = det_Check.v a0_0 a0_1 l0_2 l0_3) := fun y hy => ⟨hy.symm⟩
  by_cases p1 : a0_0 < 1
  · have H := HV 2 (by unfold det_Check.v; rw [if_pos (.inl p1)])
    clear HV
    go_enter Try.func67, Try.ntmps67
    go_wp2
    go_ret
    exact ⟨by rw [← H.out]; rfl, by repeat (first | exact Below.refl _ _ | apply below_alloc)⟩
  by_cases p2 : 4 < a0_0
  · have H := HV 2 (by unfold det_Check.v; rw [if_pos (.inr p2)])
    clear HV
    go_enter Try.func67, Try.ntmps67
    go_wp2
    go_ret
    exact ⟨by rw [← H.out]; rfl, by repeat (first | exact Below.refl _ _ | apply below_alloc)⟩
  by_cases p3 : l0_2.length < 1
  · have H := HV 1 (by unfold det_Check.v; rw [if_neg (by omega), if_pos (.inl p3)])
    clear HV
    go_enter Try.func67, Try.ntmps67
    go_wp2
    go_ret
    exact ⟨by rw [← H.out]; rfl, by repeat (first | exact Below.refl _ _ | apply below_alloc)⟩
  by_cases p4 : 3000 < l0_2.length
  · have H := HV 1 (by unfold det_Check.v; rw [if_neg (by omega), if_pos (.inr p4)])
    clear HV
    go_enter Try.func67, Try.ntmps67
    go_wp2
    go_ret
    exact ⟨by rw [← H.out]; rfl, by repeat (first | exact Below.refl _ _ | apply below_alloc)⟩
  by_cases p5 : l0_3.length = l0_2.length
  case neg =>
    have H := HV 3 (by unfold det_Check.v; rw [if_neg (by omega), if_neg (by omega), if_pos (.inl p5)])
    clear HV
    have c5 : ((l0_3.length : Int) != (l0_2.length : Int)) = true := by rw [bne_iff_ne]; omega
    clear p5
    go_enter Try.func67, Try.ntmps67
    go_wp2
    go_ret
    exact ⟨by rw [← H.out]; rfl, by repeat (first | exact Below.refl _ _ | apply below_alloc)⟩
  have c5 : ((l0_3.length : Int) != (l0_2.length : Int)) = false := by rw [bne_eq_false_iff_eq]; omega
  have C5 := Aside0.mk p5
  clear p5
  have e60 : ∀ args w, (callFunc 127 args).run Try.prog w = .ok (.enter 127 args) w := enters_of Try.func127 (by kernel_rfl) rfl
  have e61 : ∀ args w, (callFunc 128 args).run Try.prog w = .ok (.enter 128 args) w := enters_of Try.func128 (by kernel_rfl) rfl
  have e62 : ∀ args w, (callFunc 129 args).run Try.prog w = .ok (.enter 129 args) w := enters_of Try.func129 (by kernel_rfl) rfl
  have e63 : ∀ args w, (callFunc 130 args).run Try.prog w = .ok (.enter 130 args) w := enters_of Try.func130 (by kernel_rfl) rfl
  have hp : ∀ W0 : World, W0.cell? ⟨w.heap.size, 0, none⟩ = some (.int .i64 a0_0) → w.heap.size < W0.heap.size → ∀ (i : Nat) (x : List Int) (v : Value) (W : World), l0_2[i]? = some x → Below W0.heap.size W0 W → (Kd.slice 3 (Kd.int .i64)).K W x [v] →
      Calls Try.prog 127 (#[v] ++ #[.pointer (some ⟨w.heap.size, 0, none⟩)]) W fun e w' => e = .returned (.bool ((fun x : List Int => decide ((x.length : Int) ≠ a0_0)) x)) ∧ Below W0.heap.size W0 w' := by
    intro W0 hc hlt i x v W _ hb hK
    obtain ⟨A, c, hv, _, hC⟩ := hK
    injection hv with hv
    subst hv
    exact (det_Check.clolen w.heap.size a0_0 x A c W ((hb.cell (p := ⟨w.heap.size, 0, none⟩) hlt).trans hc)).mono fun e w' ⟨he, hb'⟩ => ⟨he, below_step hb hb'⟩
  have HP := Aside0.mk hp
  clear hp
  cases p6 : l0_2.any (fun x : List Int => decide ((x.length : Int) ≠ a0_0)) with
  | true =>
    have H := HV 3 (by unfold det_Check.v; rw [if_neg (by omega), if_neg (by omega), if_pos (.inr p6)])
    clear HV
    have P6 := Aside0.mk p6
    clear p6
    go_enter Try.func67, Try.ntmps67
    go_wp2_with fail
    refine (det_Check.ContainsFuncL (Kd.slice 3 (Kd.int .i64)) rfl (fun x : List Int => decide ((x.length : Int) ≠ a0_0)) 127 #[.pointer (some ⟨w.heap.size, 0, none⟩)] e60 A0_2 c0_2 l0_2 _ (Kd.C_alloc (Kd.C_alloc HR1.out _) _) (HP.out _ (by go_simp) (by simp; omega))).mono ?_
    rintro e w1 ⟨rfl, hb1⟩
    rw [P6.out]
    have HB := Aside0.mk (show Below w.heap.size w w1 from below_step (by repeat (first | exact Below.refl _ _ | apply below_alloc)) hb1)
    clear hb1
    go_wp2_with fail
    go_ret
    exact ⟨by rw [← H.out]; rfl, HB.out⟩
  | false =>
    have P6 := Aside0.mk p6
    clear p6
    have hsh : ¬ (l0_3.length ≠ l0_2.length ∨ l0_2.any (fun x : List Int => decide ((x.length : Int) ≠ a0_0)) = true) := by rw [P6.out, C5.out]; simp
    have HS := Aside0.mk hsh
    clear hsh
    cases p7 : det_Check.bad (l0_2.length : Int) a0_1 with
    | true =>
      have H := HV 2 (by unfold det_Check.v; rw [if_neg (by omega), if_neg (by omega), if_neg HS.out, if_pos (.inl p7)])
      clear HV
      have P7 := Aside0.mk p7
      clear p7
      go_enter Try.func67, Try.ntmps67
      go_wp2_with fail
      refine (det_Check.ContainsFuncL (Kd.slice 3 (Kd.int .i64)) rfl (fun x : List Int => decide ((x.length : Int) ≠ a0_0)) 127 #[.pointer (some ⟨w.heap.size, 0, none⟩)] e60 A0_2 c0_2 l0_2 _ (Kd.C_alloc (Kd.C_alloc HR1.out _) _) (HP.out _ (by go_simp) (by simp; omega))).mono ?_
      rintro e w1 ⟨rfl, hb1⟩
      rw [P6.out]
      have HX := Aside0.mk (show det_Check.Bx w [(w.heap.size, 0, .int .i64 a0_0), (w.heap.size, 1, .int .i64 a0_1), (w.heap.size, 2, .slice A0_2 l0_2.length c0_2), (w.heap.size, 3, .slice A0_3 l0_3.length c0_3), (w.heap.size + 1, 0, .int .i64 (l0_2.length : Int))] w1 from
        det_Check.Bx.step ⟨by repeat (first | exact Below.refl _ _ | apply below_alloc), by
          simp only [List.forall_mem_cons, List.not_mem_nil, false_imp_iff, implies_true, and_true]
          refine ⟨⟨?_, by go_simp⟩, ⟨?_, by go_simp⟩, ⟨?_, by go_simp⟩, ⟨?_, by go_simp⟩, ⟨?_, by go_simp⟩⟩ <;> (simp <;> omega)⟩ hb1)
      have b0 := HX.out.at 0 rfl
      have b1 := HX.out.at 1 rfl
      have b2 := HX.out.at 2 rfl
      have b3 := HX.out.at 3 rfl
      have b4 := HX.out.at 4 rfl
      have hsz : w.heap.size + 1 < w1.heap.size := (HX.out.cell (w.heap.size + 1, 0, .int .i64 (l0_2.length : Int)) (by simp)).1
      have a0 := fun o => ((below_alloc (Below.refl w1.heap.size w1) o).cell (p := ⟨w.heap.size, 0, none⟩) (show w.heap.size < w1.heap.size by omega)).trans b0
      have a1 := fun o => ((below_alloc (Below.refl w1.heap.size w1) o).cell (p := ⟨w.heap.size, 1, none⟩) (show w.heap.size < w1.heap.size by omega)).trans b1
      have a2 := fun o => ((below_alloc (Below.refl w1.heap.size w1) o).cell (p := ⟨w.heap.size, 2, none⟩) (show w.heap.size < w1.heap.size by omega)).trans b2
      have a3 := fun o => ((below_alloc (Below.refl w1.heap.size w1) o).cell (p := ⟨w.heap.size, 3, none⟩) (show w.heap.size < w1.heap.size by omega)).trans b3
      have a4 := fun o => ((below_alloc (Below.refl w1.heap.size w1) o).cell (p := ⟨w.heap.size + 1, 0, none⟩) (show w.heap.size + 1 < w1.heap.size by omega)).trans b4
      clear hb1
      go_wp2_with fail
      refine (det_Check.clono (w.heap.size + 1) (l0_2.length : Int) a0_1 _ ?_).mono ?_
      · exact a4 _
      rintro e w2 ⟨rfl, hb2⟩
      rw [P7.out]
      have HX2 := Aside0.mk (show det_Check.Bx w ([(w.heap.size, 0, .int .i64 a0_0), (w.heap.size, 1, .int .i64 a0_1), (w.heap.size, 2, .slice A0_2 l0_2.length c0_2), (w.heap.size, 3, .slice A0_3 l0_3.length c0_3), (w.heap.size + 1, 0, .int .i64 (l0_2.length : Int))] ++ [(w1.heap.size, 0, .func (.func 128) #[] #[.pointer (some ⟨w.heap.size + 1, 0, none⟩)])]) w2 from
        det_Check.Bx.step ⟨below_alloc HX.out.below _, by
          intro p hp
          rcases List.mem_append.1 hp with hp | hp
          · have h1 := HX.out.cell p hp
            refine ⟨by simp; omega, ?_⟩
            exact ((below_alloc (Below.refl _ _) _).cell (p := ⟨p.1, p.2.1, none⟩) h1.1).trans h1.2
          · rw [List.mem_singleton.1 hp]
            exact ⟨by simp, by go_simp⟩⟩ hb2)
      clear hb2 b0 b1 b2 b3 b4 a0 a1 a2 a3 a4
      have b0 := HX2.out.at 0 rfl
      have b1 := HX2.out.at 1 rfl
      have b2 := HX2.out.at 2 rfl
      have b3 := HX2.out.at 3 rfl
      have b4 := HX2.out.at 4 rfl
      have b5 := HX2.out.at 5 rfl
      go_wp2_with fail
      go_ret
      exact ⟨by rw [← H.out]; rfl, HX2.out.below⟩
    | false =>
      have P7 := Aside0.mk p7
      clear p7
      cases p8 : l0_2.any (fun x : List Int => x.any (det_Check.bad (l0_2.length : Int))) with
      | true =>
        have H := HV 2 (by unfold det_Check.v; rw [if_neg (by omega), if_neg (by omega), if_neg HS.out, if_pos (.inr p8)])
        clear HV
        have P8 := Aside0.mk p8
        clear p8
        go_enter Try.func67, Try.ntmps67
        go_wp2_with fail
        refine (det_Check.ContainsFuncL (Kd.slice 3 (Kd.int .i64)) rfl (fun x : List Int => decide ((x.length : Int) ≠ a0_0)) 127 #[.pointer (some ⟨w.heap.size, 0, none⟩)] e60 A0_2 c0_2 l0_2 _ (Kd.C_alloc (Kd.C_alloc HR1.out _) _) (HP.out _ (by go_simp) (by simp; omega))).mono ?_
        rintro e w1 ⟨rfl, hb1⟩
        rw [P6.out]
        have HX := Aside0.mk (show det_Check.Bx w [(w.heap.size, 0, .int .i64 a0_0), (w.heap.size, 1, .int .i64 a0_1), (w.heap.size, 2, .slice A0_2 l0_2.length c0_2), (w.heap.size, 3, .slice A0_3 l0_3.length c0_3), (w.heap.size + 1, 0, .int .i64 (l0_2.length : Int))] w1 from
          det_Check.Bx.step ⟨by repeat (first | exact Below.refl _ _ | apply below_alloc), by
            simp only [List.forall_mem_cons, List.not_mem_nil, false_imp_iff, implies_true, and_true]
            refine ⟨⟨?_, by go_simp⟩, ⟨?_, by go_simp⟩, ⟨?_, by go_simp⟩, ⟨?_, by go_simp⟩, ⟨?_, by go_simp⟩⟩ <;> (simp <;> omega)⟩ hb1)
        have b0 := HX.out.at 0 rfl
        have b1 := HX.out.at 1 rfl
        have b2 := HX.out.at 2 rfl
        have b3 := HX.out.at 3 rfl
        have b4 := HX.out.at 4 rfl
        have hsz : w.heap.size + 1 < w1.heap.size := (HX.out.cell (w.heap.size + 1, 0, .int .i64 (l0_2.length : Int)) (by simp)).1
        have a0 := fun o => ((below_alloc (Below.refl w1.heap.size w1) o).cell (p := ⟨w.heap.size, 0, none⟩) (show w.heap.size < w1.heap.size by omega)).trans b0
        have a1 := fun o => ((below_alloc (Below.refl w1.heap.size w1) o).cell (p := ⟨w.heap.size, 1, none⟩) (show w.heap.size < w1.heap.size by omega)).trans b1
        have a2 := fun o => ((below_alloc (Below.refl w1.heap.size w1) o).cell (p := ⟨w.heap.size, 2, none⟩) (show w.heap.size < w1.heap.size by omega)).trans b2
        have a3 := fun o => ((below_alloc (Below.refl w1.heap.size w1) o).cell (p := ⟨w.heap.size, 3, none⟩) (show w.heap.size < w1.heap.size by omega)).trans b3
        have a4 := fun o => ((below_alloc (Below.refl w1.heap.size w1) o).cell (p := ⟨w.heap.size + 1, 0, none⟩) (show w.heap.size + 1 < w1.heap.size by omega)).trans b4
        clear hb1
        go_wp2_with fail
        refine (det_Check.clono (w.heap.size + 1) (l0_2.length : Int) a0_1 _ ?_).mono ?_
        · exact a4 _
        rintro e w2 ⟨rfl, hb2⟩
        rw [P7.out]
        have HX2 := Aside0.mk (show det_Check.Bx w ([(w.heap.size, 0, .int .i64 a0_0), (w.heap.size, 1, .int .i64 a0_1), (w.heap.size, 2, .slice A0_2 l0_2.length c0_2), (w.heap.size, 3, .slice A0_3 l0_3.length c0_3), (w.heap.size + 1, 0, .int .i64 (l0_2.length : Int))] ++ [(w1.heap.size, 0, .func (.func 128) #[] #[.pointer (some ⟨w.heap.size + 1, 0, none⟩)])]) w2 from
          det_Check.Bx.step ⟨below_alloc HX.out.below _, by
            intro p hp
            rcases List.mem_append.1 hp with hp | hp
            · have h1 := HX.out.cell p hp
              refine ⟨by simp; omega, ?_⟩
              exact ((below_alloc (Below.refl _ _) _).cell (p := ⟨p.1, p.2.1, none⟩) h1.1).trans h1.2
            · rw [List.mem_singleton.1 hp]
              exact ⟨by simp, by go_simp⟩⟩ hb2)
        clear hb2 b0 b1 b2 b3 b4 a0 a1 a2 a3 a4
        have b0 := HX2.out.at 0 rfl
        have b1 := HX2.out.at 1 rfl
        have b2 := HX2.out.at 2 rfl
        have b3 := HX2.out.at 3 rfl
        have b4 := HX2.out.at 4 rfl
        have b5 := HX2.out.at 5 rfl
        go_wp2_with fail
        refine (det_Check.ContainsFuncL (Kd.slice 3 (Kd.int .i64)) rfl (fun x : List Int => x.any (det_Check.bad (l0_2.length : Int))) 129 #[.pointer (some ⟨w1.heap.size, 0, none⟩)] e62 A0_2 c0_2 l0_2 w2 (Kd.C_below HR1.out HX2.out.below) (by
          intro i x v W _ hb hK
          obtain ⟨A, c, hv, _, hC⟩ := hK
          injection hv with hv
          subst hv
          have h5 := HX2.out.cell (w1.heap.size, 0, .func (.func 128) #[] #[.pointer (some ⟨w.heap.size + 1, 0, none⟩)]) (by simp)
          have h4 := HX2.out.cell (w.heap.size + 1, 0, .int .i64 (l0_2.length : Int)) (by simp)
          exact (det_Check.cloall w1.heap.size (w.heap.size + 1) (l0_2.length : Int) x A c W ((hb.cell (p := ⟨w1.heap.size, 0, none⟩) h5.1).trans h5.2) (Nat.lt_of_lt_of_le h4.1 hb.size) ((hb.cell (p := ⟨w.heap.size + 1, 0, none⟩) h4.1).trans h4.2) hC).mono fun e w' ⟨he, hb'⟩ => ⟨he, below_step hb hb'⟩)).mono ?_
        rintro e w3 ⟨rfl, hb3⟩
        rw [P8.out]
        have HX3 := Aside0.mk (HX2.out.step hb3)
        clear hb3 b0 b1 b2 b3 b4 b5
        have b0 := HX3.out.at 0 rfl
        have b1 := HX3.out.at 1 rfl
        have b2 := HX3.out.at 2 rfl
        have b3 := HX3.out.at 3 rfl
        go_wp2_with fail
        go_ret
        exact ⟨by rw [← H.out]; rfl, HX3.out.below⟩
      | false =>
        have P8 := Aside0.mk p8
        clear p8
        have hno : ¬ (det_Check.bad (l0_2.length : Int) a0_1 = true ∨ l0_2.any (fun x : List Int => x.any (det_Check.bad (l0_2.length : Int))) = true) := by rw [P7.out, P8.out]; simp
        have HN := Aside0.mk hno
        clear hno
        cases p9 : l0_3.any det_Check.badm with
        | true =>
          have H := HV 2 (by unfold det_Check.v; rw [if_neg (by omega), if_neg (by omega), if_neg HS.out, if_neg HN.out, if_pos p9])
          clear HV
          have P9 := Aside0.mk p9
          clear p9
          go_enter Try.func67, Try.ntmps67
          go_wp2_with fail
          refine (det_Check.ContainsFuncL (Kd.slice 3 (Kd.int .i64)) rfl (fun x : List Int => decide ((x.length : Int) ≠ a0_0)) 127 #[.pointer (some ⟨w.heap.size, 0, none⟩)] e60 A0_2 c0_2 l0_2 _ (Kd.C_alloc (Kd.C_alloc HR1.out _) _) (HP.out _ (by go_simp) (by simp; omega))).mono ?_
          rintro e w1 ⟨rfl, hb1⟩
          rw [P6.out]
          have HX := Aside0.mk (show det_Check.Bx w [(w.heap.size, 0, .int .i64 a0_0), (w.heap.size, 1, .int .i64 a0_1), (w.heap.size, 2, .slice A0_2 l0_2.length c0_2), (w.heap.size, 3, .slice A0_3 l0_3.length c0_3), (w.heap.size + 1, 0, .int .i64 (l0_2.length : Int))] w1 from
            det_Check.Bx.step ⟨by repeat (first | exact Below.refl _ _ | apply below_alloc), by
              simp only [List.forall_mem_cons, List.not_mem_nil, false_imp_iff, implies_true, and_true]
              refine ⟨⟨?_, by go_simp⟩, ⟨?_, by go_simp⟩, ⟨?_, by go_simp⟩, ⟨?_, by go_simp⟩, ⟨?_, by go_simp⟩⟩ <;> (simp <;> omega)⟩ hb1)
          have b0 := HX.out.at 0 rfl
          have b1 := HX.out.at 1 rfl
          have b2 := HX.out.at 2 rfl
          have b3 := HX.out.at 3 rfl
          have b4 := HX.out.at 4 rfl
          have hsz : w.heap.size + 1 < w1.heap.size := (HX.out.cell (w.heap.size + 1, 0, .int .i64 (l0_2.length : Int)) (by simp)).1
          have a0 := fun o => ((below_alloc (Below.refl w1.heap.size w1) o).cell (p := ⟨w.heap.size, 0, none⟩) (show w.heap.size < w1.heap.size by omega)).trans b0
          have a1 := fun o => ((below_alloc (Below.refl w1.heap.size w1) o).cell (p := ⟨w.heap.size, 1, none⟩) (show w.heap.size < w1.heap.size by omega)).trans b1
          have a2 := fun o => ((below_alloc (Below.refl w1.heap.size w1) o).cell (p := ⟨w.heap.size, 2, none⟩) (show w.heap.size < w1.heap.size by omega)).trans b2
          have a3 := fun o => ((below_alloc (Below.refl w1.heap.size w1) o).cell (p := ⟨w.heap.size, 3, none⟩) (show w.heap.size < w1.heap.size by omega)).trans b3
          have a4 := fun o => ((below_alloc (Below.refl w1.heap.size w1) o).cell (p := ⟨w.heap.size + 1, 0, none⟩) (show w.heap.size + 1 < w1.heap.size by omega)).trans b4
          clear hb1
          go_wp2_with fail
          refine (det_Check.clono (w.heap.size + 1) (l0_2.length : Int) a0_1 _ ?_).mono ?_
          · exact a4 _
          rintro e w2 ⟨rfl, hb2⟩
          rw [P7.out]
          have HX2 := Aside0.mk (show det_Check.Bx w ([(w.heap.size, 0, .int .i64 a0_0), (w.heap.size, 1, .int .i64 a0_1), (w.heap.size, 2, .slice A0_2 l0_2.length c0_2), (w.heap.size, 3, .slice A0_3 l0_3.length c0_3), (w.heap.size + 1, 0, .int .i64 (l0_2.length : Int))] ++ [(w1.heap.size, 0, .func (.func 128) #[] #[.pointer (some ⟨w.heap.size + 1, 0, none⟩)])]) w2 from
            det_Check.Bx.step ⟨below_alloc HX.out.below _, by
              intro p hp
              rcases List.mem_append.1 hp with hp | hp
              · have h1 := HX.out.cell p hp
                refine ⟨by simp; omega, ?_⟩
                exact ((below_alloc (Below.refl _ _) _).cell (p := ⟨p.1, p.2.1, none⟩) h1.1).trans h1.2
              · rw [List.mem_singleton.1 hp]
                exact ⟨by simp, by go_simp⟩⟩ hb2)
          clear hb2 b0 b1 b2 b3 b4 a0 a1 a2 a3 a4
          have b0 := HX2.out.at 0 rfl
          have b1 := HX2.out.at 1 rfl
          have b2 := HX2.out.at 2 rfl
          have b3 := HX2.out.at 3 rfl
          have b4 := HX2.out.at 4 rfl
          have b5 := HX2.out.at 5 rfl
          go_wp2_with fail
          refine (det_Check.ContainsFuncL (Kd.slice 3 (Kd.int .i64)) rfl (fun x : List Int => x.any (det_Check.bad (l0_2.length : Int))) 129 #[.pointer (some ⟨w1.heap.size, 0, none⟩)] e62 A0_2 c0_2 l0_2 w2 (Kd.C_below HR1.out HX2.out.below) (by
            intro i x v W _ hb hK
            obtain ⟨A, c, hv, _, hC⟩ := hK
            injection hv with hv
            subst hv
            have h5 := HX2.out.cell (w1.heap.size, 0, .func (.func 128) #[] #[.pointer (some ⟨w.heap.size + 1, 0, none⟩)]) (by simp)
            have h4 := HX2.out.cell (w.heap.size + 1, 0, .int .i64 (l0_2.length : Int)) (by simp)
            exact (det_Check.cloall w1.heap.size (w.heap.size + 1) (l0_2.length : Int) x A c W ((hb.cell (p := ⟨w1.heap.size, 0, none⟩) h5.1).trans h5.2) (Nat.lt_of_lt_of_le h4.1 hb.size) ((hb.cell (p := ⟨w.heap.size + 1, 0, none⟩) h4.1).trans h4.2) hC).mono fun e w' ⟨he, hb'⟩ => ⟨he, below_step hb hb'⟩)).mono ?_
          rintro e w3 ⟨rfl, hb3⟩
          rw [P8.out]
          have HX3 := Aside0.mk (HX2.out.step hb3)
          clear hb3 b0 b1 b2 b3 b4 b5
          have b0 := HX3.out.at 0 rfl
          have b1 := HX3.out.at 1 rfl
          have b2 := HX3.out.at 2 rfl
          have b3 := HX3.out.at 3 rfl
          go_wp2_with fail
          refine (det_Check.ContainsFuncI (Kd.int .i64) rfl det_Check.badm 130 #[] e63 A0_3 c0_3 l0_3 w3 (Kd.C_below HR2.out HX3.out.below) (by
            intro i x v W _ hb hK
            have hv : v = .int .i64 x := by injection hK
            subst hv
            exact (det_Check.clomark x W).mono fun e w' ⟨he, hb'⟩ => ⟨he, below_step hb hb'⟩)).mono ?_
          rintro e w4 ⟨rfl, hb4⟩
          rw [P9.out]
          have HX4 := Aside0.mk (HX3.out.step hb4)
          clear hb4
          go_wp2_with fail
          go_ret
          exact ⟨by rw [← H.out]; rfl, HX4.out.below⟩
        | false =>
          have H := HV 0 (by unfold det_Check.v; rw [if_neg (by omega), if_neg (by omega), if_neg HS.out, if_neg HN.out, if_neg (by rw [p9]; simp)])
          clear HV
          have P9 := Aside0.mk p9
          clear p9
          go_enter Try.func67, Try.ntmps67
          go_wp2_with fail
          refine (det_Check.ContainsFuncL (Kd.slice 3 (Kd.int .i64)) rfl (fun x : List Int => decide ((x.length : Int) ≠ a0_0)) 127 #[.pointer (some ⟨w.heap.size, 0, none⟩)] e60 A0_2 c0_2 l0_2 _ (Kd.C_alloc (Kd.C_alloc HR1.out _) _) (HP.out _ (by go_simp) (by simp; omega))).mono ?_
          rintro e w1 ⟨rfl, hb1⟩
          rw [P6.out]
          have HX := Aside0.mk (show det_Check.Bx w [(w.heap.size, 0, .int .i64 a0_0), (w.heap.size, 1, .int .i64 a0_1), (w.heap.size, 2, .slice A0_2 l0_2.length c0_2), (w.heap.size, 3, .slice A0_3 l0_3.length c0_3), (w.heap.size + 1, 0, .int .i64 (l0_2.length : Int))] w1 from
            det_Check.Bx.step ⟨by repeat (first | exact Below.refl _ _ | apply below_alloc), by
              simp only [List.forall_mem_cons, List.not_mem_nil, false_imp_iff, implies_true, and_true]
              refine ⟨⟨?_, by go_simp⟩, ⟨?_, by go_simp⟩, ⟨?_, by go_simp⟩, ⟨?_, by go_simp⟩, ⟨?_, by go_simp⟩⟩ <;> (simp <;> omega)⟩ hb1)
          have b0 := HX.out.at 0 rfl
          have b1 := HX.out.at 1 rfl
          have b2 := HX.out.at 2 rfl
          have b3 := HX.out.at 3 rfl
          have b4 := HX.out.at 4 rfl
          have hsz : w.heap.size + 1 < w1.heap.size := (HX.out.cell (w.heap.size + 1, 0, .int .i64 (l0_2.length : Int)) (by simp)).1
          have a0 := fun o => ((below_alloc (Below.refl w1.heap.size w1) o).cell (p := ⟨w.heap.size, 0, none⟩) (show w.heap.size < w1.heap.size by omega)).trans b0
          have a1 := fun o => ((below_alloc (Below.refl w1.heap.size w1) o).cell (p := ⟨w.heap.size, 1, none⟩) (show w.heap.size < w1.heap.size by omega)).trans b1
          have a2 := fun o => ((below_alloc (Below.refl w1.heap.size w1) o).cell (p := ⟨w.heap.size, 2, none⟩) (show w.heap.size < w1.heap.size by omega)).trans b2
          have a3 := fun o => ((below_alloc (Below.refl w1.heap.size w1) o).cell (p := ⟨w.heap.size, 3, none⟩) (show w.heap.size < w1.heap.size by omega)).trans b3
          have a4 := fun o => ((below_alloc (Below.refl w1.heap.size w1) o).cell (p := ⟨w.heap.size + 1, 0, none⟩) (show w.heap.size + 1 < w1.heap.size by omega)).trans b4
          clear hb1
          go_wp2_with fail
          refine (det_Check.clono (w.heap.size + 1) (l0_2.length : Int) a0_1 _ ?_).mono ?_
          · exact a4 _
          rintro e w2 ⟨rfl, hb2⟩
          rw [P7.out]
          have HX2 := Aside0.mk (show det_Check.Bx w ([(w.heap.size, 0, .int .i64 a0_0), (w.heap.size, 1, .int .i64 a0_1), (w.heap.size, 2, .slice A0_2 l0_2.length c0_2), (w.heap.size, 3, .slice A0_3 l0_3.length c0_3), (w.heap.size + 1, 0, .int .i64 (l0_2.length : Int))] ++ [(w1.heap.size, 0, .func (.func 128) #[] #[.pointer (some ⟨w.heap.size + 1, 0, none⟩)])]) w2 from
            det_Check.Bx.step ⟨below_alloc HX.out.below _, by
              intro p hp
              rcases List.mem_append.1 hp with hp | hp
              · have h1 := HX.out.cell p hp
                refine ⟨by simp; omega, ?_⟩
                exact ((below_alloc (Below.refl _ _) _).cell (p := ⟨p.1, p.2.1, none⟩) h1.1).trans h1.2
              · rw [List.mem_singleton.1 hp]
                exact ⟨by simp, by go_simp⟩⟩ hb2)
          clear hb2 b0 b1 b2 b3 b4 a0 a1 a2 a3 a4
          have b0 := HX2.out.at 0 rfl
          have b1 := HX2.out.at 1 rfl
          have b2 := HX2.out.at 2 rfl
          have b3 := HX2.out.at 3 rfl
          have b4 := HX2.out.at 4 rfl
          have b5 := HX2.out.at 5 rfl
          go_wp2_with fail
          refine (det_Check.ContainsFuncL (Kd.slice 3 (Kd.int .i64)) rfl (fun x : List Int => x.any (det_Check.bad (l0_2.length : Int))) 129 #[.pointer (some ⟨w1.heap.size, 0, none⟩)] e62 A0_2 c0_2 l0_2 w2 (Kd.C_below HR1.out HX2.out.below) (by
            intro i x v W _ hb hK
            obtain ⟨A, c, hv, _, hC⟩ := hK
            injection hv with hv
            subst hv
            have h5 := HX2.out.cell (w1.heap.size, 0, .func (.func 128) #[] #[.pointer (some ⟨w.heap.size + 1, 0, none⟩)]) (by simp)
            have h4 := HX2.out.cell (w.heap.size + 1, 0, .int .i64 (l0_2.length : Int)) (by simp)
            exact (det_Check.cloall w1.heap.size (w.heap.size + 1) (l0_2.length : Int) x A c W ((hb.cell (p := ⟨w1.heap.size, 0, none⟩) h5.1).trans h5.2) (Nat.lt_of_lt_of_le h4.1 hb.size) ((hb.cell (p := ⟨w.heap.size + 1, 0, none⟩) h4.1).trans h4.2) hC).mono fun e w' ⟨he, hb'⟩ => ⟨he, below_step hb hb'⟩)).mono ?_
          rintro e w3 ⟨rfl, hb3⟩
          rw [P8.out]
          have HX3 := Aside0.mk (HX2.out.step hb3)
          clear hb3 b0 b1 b2 b3 b4 b5
          have b0 := HX3.out.at 0 rfl
          have b1 := HX3.out.at 1 rfl
          have b2 := HX3.out.at 2 rfl
          have b3 := HX3.out.at 3 rfl
          go_wp2_with fail
          refine (det_Check.ContainsFuncI (Kd.int .i64) rfl det_Check.badm 130 #[] e63 A0_3 c0_3 l0_3 w3 (Kd.C_below HR2.out HX3.out.below) (by
            intro i x v W _ hb hK
            have hv : v = .int .i64 x := by injection hK
            subst hv
            exact (det_Check.clomark x W).mono fun e w' ⟨he, hb'⟩ => ⟨he, below_step hb hb'⟩)).mono ?_
          rintro e w4 ⟨rfl, hb4⟩
          rw [P9.out]
          have HX4 := Aside0.mk (HX3.out.step hb4)
          clear hb4
          go_wp2_with fail
          go_ret
          exact ⟨by rw [← H.out]; rfl, HX4.out.below⟩

/-! ### slices_Clone_int_int: function 68 -/
theorem slices_Clone_int_int.info : (Try.prog.info? 3).map (fun i => (i.zero, i.size, i.bytes)) = some (some (.int .i64 0), 1, 8) := by kernel_rfl
def slices_Clone_int_int.f (l0 : List Int) : Option (List Int) := if l0.length < 17592186044416 then some l0 else none
set_option maxHeartbeats 4000000 in
set_option maxRecDepth 100000 in
theorem slices_Clone_int_int.calls (A0 : Option Addr) (c0 : Nat) (l0 : List Int) (r : List Int) (w : World) (hr0 : Kd.C (Kd.int .i64) w A0 l0.length l0) (hc0 : l0.length ≤ c0) (h : slices_Clone_int_int.f l0 = some r) :
    Calls Try.prog 68 #[.slice A0 l0.length c0] w fun e w' => ∃ v0_ : Value, e = .returned (v0_) ∧ Kd.R (Kd.int .i64) 3 w' w.heap.size (fun _ => True) v0_ r ∧ Below w.heap.size w w' := by
  unfold slices_Clone_int_int.f at h
  by_cases hl : l0.length < 17592186044416
  · rw [if_pos hl] at h
    obtain rfl := Option.some.inj h
    clear h
    cases A0 with
    | none =>
      have hn : l0 = [] := by
        rcases Nat.eq_zero_or_pos l0.length with h0 | h0
        · exact List.eq_nil_of_length_eq_zero h0
        · obtain ⟨ad, h1, _⟩ := hr0.2.2 h0
          cases h1
      subst hn
      clear hr0 hl
      have heq := Lib.run_eql_slice_nil (P := Try.prog) w 23 3 none 0 c0 0 0 Try.underlying23
      go_enter Try.func68, Try.ntmps68
      go_wp2
      go_ret
      exact ⟨_, rfl, Kd.R_nil _ _ _ _ _, Below.refl _ _⟩
    | some ad =>
      have HR0 := Aside0.mk hr0
      clear hr0
      have HL := Aside0.mk hl
      clear hl
      have heq := Lib.run_eql_slice_nil (P := Try.prog) w 23 3 (some ad) l0.length c0 0 0 Try.underlying23
      have HO := Aside0.mk (show Kd.R (Kd.int .i64) 3 (w.alloc (.cells #[] 3)) w.heap.size (fun _ => True) (.slice (some ⟨w.heap.size, 0, none⟩) 0 0) [] from
        ⟨fun _ _ => trivial, [], own_lit w w.heap.size 3 .i64 [] (Nat.le_refl _) (by simp), Reps.none _ _⟩)
      go_enter Try.func68, Try.ntmps68
      go_wp2_with (at_builtin; refine Kd.R_append_rows (Kd.int .i64) (w0 := w) w.heap.size rfl (.tmp 5) (.tmp 6) 23 3 (.int .i64 0) 8 rfl Try.underlying23 slices_Clone_int_int.info rfl (by decide) (by omega) (.slice (some ⟨w.heap.size, 0, none⟩) 0 0) [] l0 (some ad) l0.length c0 (fun _ => True) (fun _ => False) rfl rfl HO.out (Kd.C_alloc HR0.out _) (fun _ _ h => h) (fun _ h => h.elim) (fun _ _ => trivial) (below_alloc (Below.refl _ _) _) (by simp) (by have := HL.out; simp; omega) ?_; intro v1 w1 ho hb _ _; clear HO)
      have HO1 := Aside0.mk ho
      have HB1 := Aside0.mk hb
      clear ho hb
      obtain ⟨A1, d1, e1, _⟩ := Kd.R_reads HO1.out
      subst e1
      go_ret
      exact ⟨_, rfl, HO1.out, HB1.out⟩
  · rw [if_neg hl] at h
    exact absurd h (by simp)

end Go.Proofs.Ytaaibckhpbmbeaa.PCodeSync
