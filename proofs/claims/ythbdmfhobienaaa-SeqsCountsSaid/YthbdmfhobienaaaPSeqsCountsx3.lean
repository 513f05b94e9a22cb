-- Printed over the kit's print by a program of this session (wip/hprint.py), with contracts of its own hand.
import Derived.Test.YthbdmfhobienaaaPSeqsCountsx0
namespace Go.Proofs.Ythbdmfhobienaaa.PSeqsCounts
open Go.RowKit Go.Proofs.YthbdmfhobienaaaW.PrintWords Go.Proofs.YthbdmfhobienaaaW.PrintLast Go.Proofs.YthbdmfhobienaaaW.PrintMore
attribute [local go_sem] max2_int min2_int max_two min_two max_three min_three max_four min_four   -- for this text's walks alone
set_option linter.unusedVariables false
set_option linter.unusedSimpArgs false

-- NOT PRINTED: function 76 (slices_IndexFunc_int_int_76)

-- NOT PRINTED: function 58 (slices_ContainsFunc_int_int_58)

-- NOT PRINTED: function 77 (slices_IndexFunc_int_int_77)

-- NOT PRINTED: function 60 (slices_ContainsFunc_int_int_60)

/-! ### seqs_Check: function 26 -/
/-- what lies in blocks of the call's own, in whatever later world -/
structure seqs_Check.Bx (w : World) (cs : List (Nat × Nat × Value)) (W : World) : Prop where
  below : Below w.heap.size w W
  cell : ∀ p ∈ cs, p.1 < W.heap.size ∧ W.cell? ⟨p.1, p.2.1, none⟩ = some p.2.2
theorem seqs_Check.Bx.step {w W W' : World} {cs : List (Nat × Nat × Value)} (h : seqs_Check.Bx w cs W) (hb : Below W.heap.size W W') : seqs_Check.Bx w cs W' :=
  ⟨below_step h.below hb, fun p hp => ⟨Nat.lt_of_lt_of_le (h.cell p hp).1 hb.size, (hb.cell (p := ⟨p.1, p.2.1, none⟩) (h.cell p hp).1).trans (h.cell p hp).2⟩⟩
theorem seqs_Check.Bx.at {w W : World} {cs : List (Nat × Nat × Value)} (h : seqs_Check.Bx w cs W) (i : Nat) {b o : Nat} {v : Value} (hi : cs[i]? = some (b, o, v)) : W.cell? ⟨b, o, none⟩ = some v :=
  (h.cell (b, o, v) (List.mem_of_getElem? hi)).2
/-- slices.IndexFunc at elements of one cell (int): the first one of which p holds. -/
def seqs_Check.idxI {α : Type} (p : α → Bool) : List α → Nat → Int
  | [], _ => -1
  | x :: xs, i => if p x = true then (i : Int) else seqs_Check.idxI p xs (i + 1)
theorem seqs_Check.idxI_any {α : Type} (p : α → Bool) : ∀ (xs : List α) (i : Nat), decide (seqs_Check.idxI p xs i ≥ 0) = xs.any p
  | [], _ => by simp [seqs_Check.idxI]
  | x :: xs, i => by
    have ih := seqs_Check.idxI_any p xs (i + 1)
    by_cases h : p x = true
    · rw [seqs_Check.idxI, if_pos h, List.any_cons, h]
      simp
    · rw [seqs_Check.idxI, if_neg h, List.any_cons, ih]
      simp [h]
set_option maxHeartbeats 4000000 in
set_option maxRecDepth 100000 in
theorem seqs_Check.IndexFuncI {α : Type} (d : Kd α) (hsz : d.sz = 1) (p : α → Bool) (g : Nat) (lb : Array Value) (eg : ∀ args w, (callFunc g args).run Try.prog w = .ok (.enter g args) w)
    (A : Option Addr) (c : Nat) (xs : List α) (w : World) (hr : d.C w A xs.length xs)
    (hp : ∀ (i : Nat) (x : α) (v : Value) (W : World), xs[i]? = some x → Below w.heap.size w W → d.K W x [v] → Calls Try.prog g (#[v] ++ lb) W fun e w' => e = .returned (.bool (p x)) ∧ Below w.heap.size w w') :
    Calls Try.prog 76 #[.slice A xs.length c, .func (.func g) #[] lb] w fun e w' => e = .returned (.int .i64 (seqs_Check.idxI p xs 0)) ∧ Below w.heap.size w w' := by
  have HR := Aside0.mk hr
  have hbig : xs.length ≤ 9223372036854775807 := hr.2.1
  clear hr
  go_enter Try.func76, Try.ntmps76
  go_wp2
  go_loopg [5, 8] xs.length (fun gg _ s8 wr => ∃ kk : Nat, kk ≤ xs.length ∧ xs.length - kk ≤ gg ∧ s8 = .int .i64 kk ∧ Aside0 (Below w.heap.size w wr) ∧ Aside0 (seqs_Check.idxI p xs 0 = seqs_Check.idxI p (xs.drop kk) kk))
  case atStart => exact ⟨0, Nat.zero_le _, by omega, rfl, ⟨Below.refl _ w⟩, ⟨rfl⟩⟩
  case round =>
    obtain ⟨kk, hkk, hg, rfl, BW, IX⟩ := hrel
    by_cases hlt : kk < xs.length
    · have hltz : (kk : Int) < (xs.length : Int) := by omega
      obtain ⟨ad, cs, hA, hcs, hK, hcell⟩ := Kd.C_get (Kd.C_below HR.out BW.out) (xs[kk]'hlt) (kk : Int) (by omega) hltz
      have hcs1 : cs.length = 1 := by rw [hcs, hsz]
      obtain ⟨v, rfl⟩ : ∃ v, cs = [v] := by
        match cs, hcs1 with
        | [v], _ => exact ⟨v, rfl⟩
      have hx : xs.getD (kk : Int).toNat (xs[kk]'hlt) = xs[kk]'hlt := by rw [Int.toNat_natCast, List.getD_eq_getElem?_getD, List.getElem?_eq_getElem hlt]; rfl
      rw [hx] at hK
      have hc0 := hcell 0 v rfl
      rw [hsz, Nat.mul_one, Nat.add_zero, Int.toNat_natCast] at hc0
      have hcall := hp kk (xs[kk]'hlt) v wr (List.getElem?_eq_getElem hlt) BW.out hK
      have IX2 := IX.out
      rw [List.drop_eq_getElem_cons hlt, seqs_Check.idxI] at IX2
      have IX3 := Aside0.mk IX2
      have v1 : v.oneCell' = true := d.K_one hK v (by simp)
      clear IX IX2 hcell hK hcs hcs1 hx hp
      subst hA
      cases hq : p (xs[kk]'hlt) with
      | true =>
        rw [hq] at hcall
        have Hq := Aside0.mk hq
        clear hq
        go_wp2_with (go_at_fn g; refine hcall.mono ?_; rintro e w' ⟨rfl, hb'⟩)
        go_ret
        refine ⟨?_, hb'⟩
        rw [IX3.out, if_pos Hq.out]
        rfl
      | false =>
        rw [hq] at hcall
        have Hq := Aside0.mk hq
        clear hq
        go_wp2_with (go_at_fn g; refine hcall.mono ?_; rintro e w' ⟨rfl, hb'⟩)
        go_roundg (xs.length - (kk + 1))
        case measure => omega
        case rel =>
          exact ⟨kk + 1, by omega, by omega, by go_num, ⟨hb'⟩, ⟨by rw [IX3.out, if_neg (by rw [Hq.out]; decide)]⟩⟩
    · have hltz : ¬ (kk : Int) < (xs.length : Int) := by omega
      have hkl : xs.length ≤ kk := by omega
      go_wp2
      go_ret
      refine ⟨?_, BW.out⟩
      rw [IX.out, List.drop_of_length_le hkl, seqs_Check.idxI]
      rfl
set_option maxHeartbeats 4000000 in
set_option maxRecDepth 100000 in
theorem seqs_Check.ContainsFuncI {α : Type} (d : Kd α) (hsz : d.sz = 1) (p : α → Bool) (g : Nat) (lb : Array Value) (eg : ∀ args w, (callFunc g args).run Try.prog w = .ok (.enter g args) w)
    (A : Option Addr) (c : Nat) (xs : List α) (w : World) (hr : d.C w A xs.length xs)
    (hp : ∀ (i : Nat) (x : α) (v : Value) (W : World), xs[i]? = some x → Below w.heap.size w W → d.K W x [v] → Calls Try.prog g (#[v] ++ lb) W fun e w' => e = .returned (.bool (p x)) ∧ Below w.heap.size w w') :
    Calls Try.prog 58 #[.slice A xs.length c, .func (.func g) #[] lb] w fun e w' => e = .returned (.bool (xs.any p)) ∧ Below w.heap.size w w' := by
  have hX := Aside0.mk (seqs_Check.IndexFuncI d hsz p g lb eg A c xs w hr hp)
  have hY := Aside0.mk (seqs_Check.idxI_any p xs 0)
  clear hr hp
  go_enter Try.func58, Try.ntmps58
  go_wp2_with (go_at_call 76; refine hX.out.mono ?_; rintro e w' ⟨rfl, hb'⟩)
  go_ret
  exact ⟨by rw [← hY.out]; simp, hb'⟩
/-- slices.IndexFunc at elements of one cell ([]int): the first one of which p holds. -/
def seqs_Check.idxL {α : Type} (p : α → Bool) : List α → Nat → Int
  | [], _ => -1
  | x :: xs, i => if p x = true then (i : Int) else seqs_Check.idxL p xs (i + 1)
theorem seqs_Check.idxL_any {α : Type} (p : α → Bool) : ∀ (xs : List α) (i : Nat), decide (seqs_Check.idxL p xs i ≥ 0) = xs.any p
  | [], _ => by simp [seqs_Check.idxL]
  | x :: xs, i => by
    have ih := seqs_Check.idxL_any p xs (i + 1)
    by_cases h : p x = true
    · rw [seqs_Check.idxL, if_pos h, List.any_cons, h]
      simp
    · rw [seqs_Check.idxL, if_neg h, List.any_cons, ih]
      simp [h]
set_option maxHeartbeats 4000000 in
set_option maxRecDepth 100000 in
theorem seqs_Check.IndexFuncL {α : Type} (d : Kd α) (hsz : d.sz = 1) (p : α → Bool) (g : Nat) (lb : Array Value) (eg : ∀ args w, (callFunc g args).run Try.prog w = .ok (.enter g args) w)
    (A : Option Addr) (c : Nat) (xs : List α) (w : World) (hr : d.C w A xs.length xs)
    (hp : ∀ (i : Nat) (x : α) (v : Value) (W : World), xs[i]? = some x → Below w.heap.size w W → d.K W x [v] → Calls Try.prog g (#[v] ++ lb) W fun e w' => e = .returned (.bool (p x)) ∧ Below w.heap.size w w') :
    Calls Try.prog 77 #[.slice A xs.length c, .func (.func g) #[] lb] w fun e w' => e = .returned (.int .i64 (seqs_Check.idxL p xs 0)) ∧ Below w.heap.size w w' := by
  have HR := Aside0.mk hr
  have hbig : xs.length ≤ 9223372036854775807 := hr.2.1
  clear hr
  go_enter Try.func77, Try.ntmps77
  go_wp2
  go_loopg [5, 8] xs.length (fun gg _ s8 wr => ∃ kk : Nat, kk ≤ xs.length ∧ xs.length - kk ≤ gg ∧ s8 = .int .i64 kk ∧ Aside0 (Below w.heap.size w wr) ∧ Aside0 (seqs_Check.idxL p xs 0 = seqs_Check.idxL p (xs.drop kk) kk))
  case atStart => exact ⟨0, Nat.zero_le _, by omega, rfl, ⟨Below.refl _ w⟩, ⟨rfl⟩⟩
  case round =>
    obtain ⟨kk, hkk, hg, rfl, BW, IX⟩ := hrel
    by_cases hlt : kk < xs.length
    · have hltz : (kk : Int) < (xs.length : Int) := by omega
      obtain ⟨ad, cs, hA, hcs, hK, hcell⟩ := Kd.C_get (Kd.C_below HR.out BW.out) (xs[kk]'hlt) (kk : Int) (by omega) hltz
      have hcs1 : cs.length = 1 := by rw [hcs, hsz]
      obtain ⟨v, rfl⟩ : ∃ v, cs = [v] := by
        match cs, hcs1 with
        | [v], _ => exact ⟨v, rfl⟩
      have hx : xs.getD (kk : Int).toNat (xs[kk]'hlt) = xs[kk]'hlt := by rw [Int.toNat_natCast, List.getD_eq_getElem?_getD, List.getElem?_eq_getElem hlt]; rfl
      rw [hx] at hK
      have hc0 := hcell 0 v rfl
      rw [hsz, Nat.mul_one, Nat.add_zero, Int.toNat_natCast] at hc0
      have hcall := hp kk (xs[kk]'hlt) v wr (List.getElem?_eq_getElem hlt) BW.out hK
      have IX2 := IX.out
      rw [List.drop_eq_getElem_cons hlt, seqs_Check.idxL] at IX2
      have IX3 := Aside0.mk IX2
      have v1 : v.oneCell' = true := d.K_one hK v (by simp)
      clear IX IX2 hcell hK hcs hcs1 hx hp
      subst hA
      cases hq : p (xs[kk]'hlt) with
      | true =>
        rw [hq] at hcall
        have Hq := Aside0.mk hq
        clear hq
        go_wp2_with (go_at_fn g; refine hcall.mono ?_; rintro e w' ⟨rfl, hb'⟩)
        go_ret
        refine ⟨?_, hb'⟩
        rw [IX3.out, if_pos Hq.out]
        rfl
      | false =>
        rw [hq] at hcall
        have Hq := Aside0.mk hq
        clear hq
        go_wp2_with (go_at_fn g; refine hcall.mono ?_; rintro e w' ⟨rfl, hb'⟩)
        go_roundg (xs.length - (kk + 1))
        case measure => omega
        case rel =>
          exact ⟨kk + 1, by omega, by omega, by go_num, ⟨hb'⟩, ⟨by rw [IX3.out, if_neg (by rw [Hq.out]; decide)]⟩⟩
    · have hltz : ¬ (kk : Int) < (xs.length : Int) := by omega
      have hkl : xs.length ≤ kk := by omega
      go_wp2
      go_ret
      refine ⟨?_, BW.out⟩
      rw [IX.out, List.drop_of_length_le hkl, seqs_Check.idxL]
      rfl
set_option maxHeartbeats 4000000 in
set_option maxRecDepth 100000 in
theorem seqs_Check.ContainsFuncL {α : Type} (d : Kd α) (hsz : d.sz = 1) (p : α → Bool) (g : Nat) (lb : Array Value) (eg : ∀ args w, (callFunc g args).run Try.prog w = .ok (.enter g args) w)
    (A : Option Addr) (c : Nat) (xs : List α) (w : World) (hr : d.C w A xs.length xs)
    (hp : ∀ (i : Nat) (x : α) (v : Value) (W : World), xs[i]? = some x → Below w.heap.size w W → d.K W x [v] → Calls Try.prog g (#[v] ++ lb) W fun e w' => e = .returned (.bool (p x)) ∧ Below w.heap.size w w') :
    Calls Try.prog 60 #[.slice A xs.length c, .func (.func g) #[] lb] w fun e w' => e = .returned (.bool (xs.any p)) ∧ Below w.heap.size w w' := by
  have hX := Aside0.mk (seqs_Check.IndexFuncL d hsz p g lb eg A c xs w hr hp)
  have hY := Aside0.mk (seqs_Check.idxL_any p xs 0)
  clear hr hp
  go_enter Try.func60, Try.ntmps60
  go_wp2_with (go_at_call 77; refine hX.out.mono ?_; rintro e w' ⟨rfl, hb'⟩)
  go_ret
  exact ⟨by rw [← hY.out]; simp, hb'⟩
def seqs_Check.bad (n : Int) (b : Int) : Bool := decide (b < 0) || decide (b ≥ n)
set_option maxHeartbeats 4000000 in
set_option maxRecDepth 100000 in
theorem seqs_Check.clo1 (b : Nat) (base : Int) (x : List Int) (A : Option Addr) (c : Nat) (W : World) (hc : W.cell? ⟨b, 0, none⟩ = some (.int .i64 base)) :
    Calls Try.prog 61 #[.slice A x.length c, .pointer (some ⟨b, 0, none⟩)] W fun e W' => e = .returned (.bool (decide ((x.length : Int) ≠ base))) ∧ Below W.heap.size W W' := by
  by_cases h : (x.length : Int) = base
  · have c1 : ((x.length : Int) != base) = false := by rw [bne_eq_false_iff_eq]; exact h
    have c2 := Aside0.mk h
    clear h
    go_enter Try.func61, Try.ntmps61
    go_wp2
    go_ret
    exact ⟨by simp [c2.out], Below.refl _ _⟩
  · have c1 : ((x.length : Int) != base) = true := by rw [bne_iff_ne]; exact h
    have c2 := Aside0.mk h
    clear h
    go_enter Try.func61, Try.ntmps61
    go_wp2
    go_ret
    exact ⟨by simp [c2.out], Below.refl _ _⟩
set_option maxHeartbeats 4000000 in
set_option maxRecDepth 100000 in
theorem seqs_Check.clo2 (b : Nat) (n : Int) (x : Int) (W : World) (hc : W.cell? ⟨b, 0, none⟩ = some (.int .i64 n)) :
    Calls Try.prog 62 #[.int .i64 x, .pointer (some ⟨b, 0, none⟩)] W fun e W' => e = .returned (.bool (seqs_Check.bad n x)) ∧ Below W.heap.size W W' := by
  have hs : ∀ y, y = seqs_Check.bad n x → Aside0 (seqs_Check.bad n x = y) := fun y hy => ⟨hy.symm⟩
  by_cases h : x < 0
  · have H := hs true (by unfold seqs_Check.bad; simp [h])
    go_enter Try.func62, Try.ntmps62
    go_wp2
    go_ret
    exact ⟨by rw [H.out]; simp, Below.refl _ _⟩
  · by_cases h2 : n ≤ x
    · have H := hs true (by unfold seqs_Check.bad; simp [h2])
      go_enter Try.func62, Try.ntmps62
      go_wp2
      go_ret
      exact ⟨by rw [H.out]; simp, Below.refl _ _⟩
    · have H := hs false (by unfold seqs_Check.bad; simp [h, h2])
      go_enter Try.func62, Try.ntmps62
      go_wp2
      go_ret
      exact ⟨by rw [H.out]; simp, Below.refl _ _⟩
def seqs_Check.rowBad (n : Int) (imgs : List (List Int)) (cod : List Int) (i : Nat) : Bool := (imgs.getD i []).any (seqs_Check.bad n) || decide (rd cod (i : Int) < 0) || decide (rd cod (i : Int) > 9)
def seqs_Check.v (base : Int) (imgs : List (List Int)) (cod : List Int) : Int :=
  if base < 2 ∨ base > 4 then 2 else if imgs.length < 1 ∨ imgs.length > 4 then 1 else if cod.length ≠ imgs.length ∨ imgs.any (fun x => decide ((x.length : Int) ≠ base)) = true then 3
  else if (List.range imgs.length).any (seqs_Check.rowBad imgs.length imgs cod) = true then 2 else if rd (imgs.getD 0 []) 0 ≠ 0 then 3 else 0
def seqs_Check.f (a0 : Int) (l1 : List (List Int)) (l2 : List Int) : Option (Int) := some (seqs_Check.v a0 l1 l2)
set_option maxHeartbeats 4000000 in
set_option maxRecDepth 100000 in
theorem seqs_Check.calls (a0_0 : Int) (A0_1 : Option Addr) (c0_1 : Nat) (l0_1 : List (List Int)) (A0_2 : Option Addr) (c0_2 : Nat) (l0_2 : List Int) (r : Int) (w : World) (hr0_1 : Kd.C (Kd.slice 3 (Kd.int .i64)) w A0_1 l0_1.length l0_1) (hc0_1 : l0_1.length ≤ c0_1) (hr0_2 : Kd.C (Kd.int .i64) w A0_2 l0_2.length l0_2) (hc0_2 : l0_2.length ≤ c0_2) (h : seqs_Check.f a0_0 l0_1 l0_2 = some r) :
    Calls Try.prog 26 #[.agg #[.int .i64 a0_0, .slice A0_1 l0_1.length c0_1, .slice A0_2 l0_2.length c0_2]] w fun e w' => e = .returned (.int .i64 r) ∧ Below w.heap.size w w' := by
  have HR1 := Aside0.mk hr0_1
  have HR2 := Aside0.mk hr0_2
  have hm1 : l0_1.length ≤ 9223372036854775807 := hr0_1.2.1
  have hm2 : l0_2.length ≤ 9223372036854775807 := hr0_2.2.1
  clear hr0_1 hr0_2
  obtain rfl := Option.some.inj h
  clear h
  have HV : ∀ y, seqs_Check.v a0_0 l0_1 l0_2 = y → Aside0 (y = seqs_Check.v a0_0 l0_1 l0_2) := fun y hy => ⟨hy.symm⟩
  by_cases p1 : a0_0 < 2
  · have H := HV 2 (by unfold seqs_Check.v; rw [if_pos (.inl p1)])
    clear HV
    go_enter Try.func26, Try.ntmps26
    go_wp2
    go_ret
    exact ⟨by rw [← H.out]; rfl, by repeat (first | exact Below.refl _ _ | apply below_alloc)⟩
  by_cases p2 : 4 < a0_0
  · have H := HV 2 (by unfold seqs_Check.v; rw [if_pos (.inr p2)])
    clear HV
    go_enter Try.func26, Try.ntmps26
    go_wp2
    go_ret
    exact ⟨by rw [← H.out]; rfl, by repeat (first | exact Below.refl _ _ | apply below_alloc)⟩
  by_cases p3 : l0_1.length < 1
  · have H := HV 1 (by unfold seqs_Check.v; rw [if_neg (by omega), if_pos (.inl p3)])
    clear HV
    go_enter Try.func26, Try.ntmps26
    go_wp2
    go_ret
    exact ⟨by rw [← H.out]; rfl, by repeat (first | exact Below.refl _ _ | apply below_alloc)⟩
  by_cases p4 : 4 < l0_1.length
  · have H := HV 1 (by unfold seqs_Check.v; rw [if_neg (by omega), if_pos (.inr p4)])
    clear HV
    go_enter Try.func26, Try.ntmps26
    go_wp2
    go_ret
    exact ⟨by rw [← H.out]; rfl, by repeat (first | exact Below.refl _ _ | apply below_alloc)⟩
  by_cases p5 : l0_2.length = l0_1.length
  case neg =>
    have H := HV 3 (by unfold seqs_Check.v; rw [if_neg (by omega), if_neg (by omega), if_pos (.inl p5)])
    clear HV
    have c5 : ((l0_2.length : Int) != (l0_1.length : Int)) = true := by rw [bne_iff_ne]; omega
    clear p5
    go_enter Try.func26, Try.ntmps26
    go_wp2
    go_ret
    exact ⟨by rw [← H.out]; rfl, by repeat (first | exact Below.refl _ _ | apply below_alloc)⟩
  have c5 : ((l0_2.length : Int) != (l0_1.length : Int)) = false := by rw [bne_eq_false_iff_eq]; omega
  have C5 := Aside0.mk p5
  clear p5
  have e60 : ∀ args w, (callFunc 61 args).run Try.prog w = .ok (.enter 61 args) w := enters_of Try.func61 (by kernel_rfl) rfl
  have e61 : ∀ args w, (callFunc 62 args).run Try.prog w = .ok (.enter 62 args) w := enters_of Try.func62 (by kernel_rfl) rfl
  have hp : ∀ W0 : World, W0.cell? ⟨w.heap.size, 0, none⟩ = some (.int .i64 a0_0) → w.heap.size < W0.heap.size → ∀ (i : Nat) (x : List Int) (v : Value) (W : World), l0_1[i]? = some x → Below W0.heap.size W0 W → (Kd.slice 3 (Kd.int .i64)).K W x [v] →
      Calls Try.prog 61 (#[v] ++ #[.pointer (some ⟨w.heap.size, 0, none⟩)]) W fun e w' => e = .returned (.bool ((fun x : List Int => decide ((x.length : Int) ≠ a0_0)) x)) ∧ Below W0.heap.size W0 w' := by
    intro W0 hc hlt i x v W _ hb hK
    obtain ⟨A, c, hv, _, hC⟩ := hK
    injection hv with hv
    subst hv
    exact (seqs_Check.clo1 w.heap.size a0_0 x A c W ((hb.cell (p := ⟨w.heap.size, 0, none⟩) hlt).trans hc)).mono fun e w' ⟨he, hb'⟩ => ⟨he, below_step hb hb'⟩
  have HP := Aside0.mk hp
  clear hp
  cases p6 : l0_1.any (fun x : List Int => decide ((x.length : Int) ≠ a0_0)) with
  | true =>
    have H := HV 3 (by unfold seqs_Check.v; rw [if_neg (by omega), if_neg (by omega), if_pos (.inr p6)])
    clear HV
    have P6 := Aside0.mk p6
    clear p6
    go_enter Try.func26, Try.ntmps26
    go_wp2_with fail
    refine (seqs_Check.ContainsFuncL (Kd.slice 3 (Kd.int .i64)) rfl (fun x : List Int => decide ((x.length : Int) ≠ a0_0)) 61 #[.pointer (some ⟨w.heap.size, 0, none⟩)] e60 A0_1 c0_1 l0_1 _ (Kd.C_alloc (Kd.C_alloc HR1.out _) _) (HP.out _ (by go_simp) (by simp; omega))).mono ?_
    rintro e w1 ⟨rfl, hb1⟩
    rw [P6.out]
    have HB := Aside0.mk (show Below w.heap.size w w1 from below_step (by repeat (first | exact Below.refl _ _ | apply below_alloc)) hb1)
    clear hb1
    go_wp2_with fail
    go_ret
    exact ⟨by rw [← H.out]; rfl, HB.out⟩
  | false =>
    have P6 := Aside0.mk p6
    clear p6
    go_enter Try.func26, Try.ntmps26
    go_wp2_with fail
    refine (seqs_Check.ContainsFuncL (Kd.slice 3 (Kd.int .i64)) rfl (fun x : List Int => decide ((x.length : Int) ≠ a0_0)) 61 #[.pointer (some ⟨w.heap.size, 0, none⟩)] e60 A0_1 c0_1 l0_1 _ (Kd.C_alloc (Kd.C_alloc HR1.out _) _) (HP.out _ (by go_simp) (by simp; omega))).mono ?_
    rintro e w1 ⟨rfl, hb1⟩
    rw [P6.out]
    have HX := Aside0.mk (show seqs_Check.Bx w [(w.heap.size, 0, .int .i64 a0_0), (w.heap.size, 1, .slice A0_1 l0_1.length c0_1), (w.heap.size, 2, .slice A0_2 l0_2.length c0_2), (w.heap.size + 1, 0, .int .i64 (l0_1.length : Int))] w1 from
      seqs_Check.Bx.step ⟨by repeat (first | exact Below.refl _ _ | apply below_alloc), by
        simp only [List.forall_mem_cons, List.not_mem_nil, false_imp_iff, implies_true, and_true]
        refine ⟨⟨?_, by go_simp⟩, ⟨?_, by go_simp⟩, ⟨?_, by go_simp⟩, ⟨?_, by go_simp⟩⟩ <;> (simp <;> omega)⟩ hb1)
    have b0 := HX.out.at 0 rfl
    have b1 := HX.out.at 1 rfl
    have b2 := HX.out.at 2 rfl
    have b3 := HX.out.at 3 rfl
    clear hb1
    go_wp2_with fail
    go_loopg [37] l0_1.length (fun gg v37 wr => ∃ kk : Nat, kk ≤ l0_1.length ∧ l0_1.length - kk ≤ gg ∧ v37 = .int .i64 kk ∧ Aside0 (seqs_Check.Bx w [(w.heap.size, 0, .int .i64 a0_0), (w.heap.size, 1, .slice A0_1 l0_1.length c0_1), (w.heap.size, 2, .slice A0_2 l0_2.length c0_2), (w.heap.size + 1, 0, .int .i64 (l0_1.length : Int))] wr) ∧ Aside0 (∀ j, j < kk → seqs_Check.rowBad l0_1.length l0_1 l0_2 j = false))
    case atStart => exact ⟨0, Nat.zero_le _, by omega, rfl, HX, ⟨fun j hj => absurd hj (Nat.not_lt_zero _)⟩⟩
    case round =>
      clear b0 b1 b2 b3 HX
      obtain ⟨kk, hkk, hg, rfl, HX, NB⟩ := hrel
      have b0 := HX.out.at 0 rfl
      have b1 := HX.out.at 1 rfl
      have b2 := HX.out.at 2 rfl
      have b3 := HX.out.at 3 rfl
      by_cases hlt : kk < l0_1.length
      · have hltz : (kk : Int) < (l0_1.length : Int) := by omega
        have hltz2 : (kk : Int) < (l0_2.length : Int) := by have := C5.out; omega
        obtain ⟨ad, cs, hA, hcs, hK, hcell⟩ := Kd.C_get (Kd.C_below HR1.out HX.out.below) ([] : List Int) (kk : Int) (by omega) hltz
        obtain ⟨Ai, ci, rfl, hli, hCi⟩ := hK
        subst hA
        have hc0 := hcell 0 _ rfl
        rw [show (Kd.slice 3 (Kd.int .i64)).sz = 1 from rfl, Nat.mul_one, Nat.add_zero, Int.toNat_natCast] at hc0
        rw [Int.toNat_natCast] at hCi hli
        clear hcell hcs
        obtain ⟨ad2, hA2, hd0⟩ := Kd.at_int (Kd.C_below HR2.out HX.out.below) (kk : Int) (by omega) hltz2
        subst hA2
        rw [Int.toNat_natCast] at hd0
        have hx : l0_1.getD kk [] = l0_1.getD kk [] := rfl
        generalize hX : l0_1.getD kk [] = X at hc0 hCi hli hx
        generalize hY : rd l0_2 (kk : Int) = Y at hd0
        have HRB := Aside0.mk (show seqs_Check.rowBad l0_1.length l0_1 l0_2 kk = (X.any (seqs_Check.bad l0_1.length) || decide (Y < 0) || decide (Y > 9)) by unfold seqs_Check.rowBad; rw [hX, hY])
        have HY := Aside0.mk hY
        clear hX hY hx
        have hcon := seqs_Check.ContainsFuncI (Kd.int .i64) rfl (seqs_Check.bad l0_1.length) 62 #[.pointer (some ⟨w.heap.size + 1, 0, none⟩)] e61 Ai ci X wr hCi (by
          intro i x v W _ hb hK
          injection hK with hv
          subst hv
          have hb3 := HX.out.cell (w.heap.size + 1, 0, .int .i64 (l0_1.length : Int)) (by simp)
          exact (seqs_Check.clo2 (w.heap.size + 1) (l0_1.length : Int) x W ((hb.cell (p := ⟨w.heap.size + 1, 0, none⟩) hb3.1).trans hb3.2)).mono fun e w' ⟨he, hb'⟩ => ⟨he, below_step hb hb'⟩)
        have bad : seqs_Check.rowBad l0_1.length l0_1 l0_2 kk = true → Aside0 (2 = seqs_Check.v a0_0 l0_1 l0_2) := fun hb => HV 2 (by
          unfold seqs_Check.v
          rw [if_neg (by omega), if_neg (by omega), if_neg (by rw [P6.out, C5.out]; simp), if_pos (List.any_eq_true.2 ⟨kk, List.mem_range.2 hlt, hb⟩)])
        have HC := Aside0.mk hcon
        clear hcon
        cases q1 : X.any (seqs_Check.bad l0_1.length) with
        | true =>
          have H := bad (by rw [HRB.out, q1]; rfl)
          have Q1 := Aside0.mk q1
          clear q1 HV bad
          go_wp2_with fail
          refine HC.out.mono ?_
          rintro e w2 ⟨rfl, hb2⟩
          rw [Q1.out]
          have HX2 := Aside0.mk (HX.out.step hb2)
          clear hb2
          go_wp2_with fail
          go_ret
          exact ⟨by rw [← H.out]; rfl, HX2.out.below⟩
        | false =>
          have Q1 := Aside0.mk q1
          clear q1
          by_cases q2 : Y < 0
          · have H := bad (by rw [HRB.out, Q1.out, decide_eq_true q2]; rfl)
            clear HV bad
            go_wp2_with fail
            refine HC.out.mono ?_
            rintro e w2 ⟨rfl, hb2⟩
            rw [Q1.out]
            have HX2 := Aside0.mk (HX.out.step hb2)
            have b2' := HX2.out.at 2 rfl
            obtain ⟨ad3, hA3, hd1⟩ := Kd.at_int (Kd.C_below HR2.out HX2.out.below) (kk : Int) (by omega) hltz2
            obtain rfl := Option.some.inj hA3
            rw [Int.toNat_natCast, HY.out] at hd1
            clear hb2 hA3 hd0 b0 b1 b2 b3
            go_wp2_with fail
            go_ret
            exact ⟨by rw [← H.out]; rfl, HX2.out.below⟩
          · by_cases q3 : 9 < Y
            · have H := bad (by rw [HRB.out, Q1.out, decide_eq_true (show Y > 9 from q3), Bool.or_true])
              clear HV bad
              go_wp2_with fail
              refine HC.out.mono ?_
              rintro e w2 ⟨rfl, hb2⟩
              rw [Q1.out]
              have HX2 := Aside0.mk (HX.out.step hb2)
              have b2' := HX2.out.at 2 rfl
              obtain ⟨ad3, hA3, hd1⟩ := Kd.at_int (Kd.C_below HR2.out HX2.out.below) (kk : Int) (by omega) hltz2
              obtain rfl := Option.some.inj hA3
              rw [Int.toNat_natCast, HY.out] at hd1
              clear hb2 hA3 hd0 b0 b1 b2 b3
              go_wp2_with fail
              go_ret
              exact ⟨by rw [← H.out]; rfl, HX2.out.below⟩
            · have HN := Aside0.mk (show seqs_Check.rowBad l0_1.length l0_1 l0_2 kk = false by rw [HRB.out, Q1.out, decide_eq_false q2, decide_eq_false (show ¬ Y > 9 from q3)]; rfl)
              clear HV bad
              go_wp2_with fail
              refine HC.out.mono ?_
              rintro e w2 ⟨rfl, hb2⟩
              rw [Q1.out]
              have HX2 := Aside0.mk (HX.out.step hb2)
              have b2' := HX2.out.at 2 rfl
              obtain ⟨ad3, hA3, hd1⟩ := Kd.at_int (Kd.C_below HR2.out HX2.out.below) (kk : Int) (by omega) hltz2
              obtain rfl := Option.some.inj hA3
              rw [Int.toNat_natCast, HY.out] at hd1
              clear hb2 hA3 hd0 b0 b1 b2 b3
              go_wp2_with fail
              go_roundg (l0_1.length - (kk + 1))
              case measure => omega
              case rel =>
                exact ⟨kk + 1, by omega, by omega, by go_num, HX2, ⟨fun j hj => by
                  by_cases e : j = kk
                  · rw [e]; exact HN.out
                  · exact NB.out j (by omega)⟩⟩
      · have hkl : kk = l0_1.length := by omega
        subst hkl
        have hlt0 : ¬ ((l0_1.length : Int) < (l0_1.length : Int)) := by omega
        have hz : (0 : Int) < (l0_1.length : Int) := by omega
        obtain ⟨ad, cs, hA, hcs, hK, hcell⟩ := Kd.C_get (Kd.C_below HR1.out HX.out.below) ([] : List Int) (0 : Int) (by omega) hz
        obtain ⟨Ai, ci, rfl, hli, hCi⟩ := hK
        subst hA
        have hc0 := hcell 0 _ rfl
        rw [show (Kd.slice 3 (Kd.int .i64)).sz = 1 from rfl, Nat.mul_one, Nat.add_zero] at hc0
        clear hcell hcs
        have hlen : ((l0_1.getD (0 : Int).toNat []).length : Int) = a0_0 := by
          have h6 := P6.out
          rw [List.any_eq_false] at h6
          have h7 := h6 (l0_1.getD 0 []) (by
            rw [List.getD_eq_getElem?_getD, List.getElem?_eq_getElem (show 0 < l0_1.length by omega)]
            exact List.getElem_mem _)
          have h8 : ¬ (((l0_1.getD 0 []).length : Int) ≠ a0_0) := by simpa using h7
          show ((l0_1.getD 0 []).length : Int) = a0_0
          omega
        have hl2 : (0 : Int) < ((l0_1.getD (0 : Int).toNat []).length : Int) := by omega
        clear hlen
        obtain ⟨ad2, hA2, hd0⟩ := Kd.at_int hCi (0 : Int) (by omega) hl2
        subst hA2
        have hx : l0_1.getD (0 : Int).toNat [] = l0_1.getD 0 [] := rfl
        generalize hX : l0_1.getD (0 : Int).toNat [] = X at hc0 hCi hli hx hd0 hl2
        generalize hY : rd X 0 = Y at hd0
        have HXY := Aside0.mk (show rd (l0_1.getD 0 []) 0 = Y by rw [← hx]; exact hY)
        have hval := fun y (hy : (if rd (l0_1.getD 0 []) 0 ≠ 0 then (3 : Int) else 0) = y) => HV y (by
          unfold seqs_Check.v
          rw [if_neg (by omega), if_neg (by omega), if_neg (by rw [P6.out, C5.out]; simp), if_neg (by
            intro ha
            obtain ⟨j, hj, hb⟩ := List.any_eq_true.1 ha
            rw [NB.out j (List.mem_range.1 hj)] at hb
            cases hb)]
          exact hy)
        rw [show ad.add (Int.toNat 0) = ad from by cases ad; rfl] at hc0
        rw [show ad2.add (Int.toNat 0) = ad2 from by cases ad2; rfl] at hd0
        clear hX hY hx HV
        by_cases q : Y = 0
        · have H := hval 0 (by rw [HXY.out, if_neg (by simp [q])])
          have q1 : (Y != 0) = false := bne_eq_false_iff_eq.2 q
          clear hval q
          go_wp2_with fail
          go_ret
          exact ⟨by rw [← H.out]; rfl, HX.out.below⟩
        · have H := hval 3 (by rw [HXY.out, if_pos q])
          have q1 : (Y != 0) = true := bne_iff_ne.2 q
          clear hval q
          go_wp2_with fail
          go_ret
          exact ⟨by rw [← H.out]; rfl, HX.out.below⟩

/-! ### seqs_letter: function 63 -/
def seqs_letter.f : Nat → Int → List (List Int) → List Int → Int → Option (Int)
  | 0, _, _, _, _ => none
  | k + 1, a0_0, l0_1, l0_2, a1 => if a1 = 0 then (some 0) else (if a0_0 = 0 then (none) else ((seqs_letter.f k a0_0 l0_1 l0_2 (wrap64 (Int.tdiv a1 a0_0))).bind fun t114 => (if 0 ≤ t114 then (if t114 < (l0_1.length : Int) then (if 0 ≤ (Int.tmod a1 a0_0) then (if (Int.tmod a1 a0_0) < ((rd_L1 l0_1 t114).length : Int) then (some (rd (rd_L1 l0_1 t114) (Int.tmod a1 a0_0))) else (none)) else (none)) else (none)) else (none))))
theorem seqs_letter.mono_l : ∀ k, (∀ y0 y1 y2 y3, LeO (seqs_letter.f k y0 y1 y2 y3) (seqs_letter.f (k + 1) y0 y1 y2 y3))
  | 0 => fun _ _ _ _ r h => by simp [seqs_letter.f] at h
  | k + 1 => by
    have ih0 := seqs_letter.mono_l k
    · intro y0 y1 y2 y3
      unfold seqs_letter.f
      repeat' first
      | (with_reducible exact ih0 _ _ _ _)
      | (with_reducible exact LeO.refl _)
      | (with_reducible exact LeO.none _)
      | (with_reducible refine LeO.ite ?_ ?_)
      | (with_reducible refine LeO.bind ?_ (fun _ => ?_))
      | exact ih0 _ _ _ _
      | exact LeO.none _
      | refine LeO.ite ?_ ?_
      | refine LeO.bind ?_ (fun _ => ?_)
theorem seqs_letter.mono : ∀ a0 a1 a2 a3 k, LeO (seqs_letter.f k a0 a1 a2 a3) (seqs_letter.f (k + 1) a0 a1 a2 a3) := by
  intro a0 a1 a2 a3 k
  have ih0 := seqs_letter.mono_l k
  exact ih0 a0 a1 a2 a3
def seqs_letter.T3 : Bool × List (List Nat × List Nat) := (true, [([], []), ([0], [0]), ([], []), ([], []), ([], []), ([4], [4]), ([3, 5], [3, 5]), ([2, 6], [2, 6]), ([1, 7], [1, 7]), ([8], [8]), ([], []), ([], []), ([11], [11]), ([10, 12], [10, 12]), ([9, 13], [9, 13]), ([14], [14]), ([15, 7, 0, 1, 2, 3, 4, 5, 6, 7, 8, 9, 10, 11, 12, 13, 14, 15], [15])])
def seqs_letter.B3 : List Nat := [0, 1, 0, 0, 0, 16, 56, 124, 255, 511, 0, 0, 2048, 7168, 16383, 32767, 65535]
theorem seqs_letter.tab3 : rtab .any (opsOf Try.f63 3) = seqs_letter.T3 := by kernel_rfl
theorem seqs_letter.bits3 : waitsOk seqs_letter.T3.2 seqs_letter.B3 = true := by kernel_rfl
set_option maxHeartbeats 8000000 in
set_option maxRecDepth 100000 in
theorem seqs_letter.calls (k : Nat) : ∀ (a0_0 : Int) (A0_1 : Option Addr) (c0_1 : Nat) (l0_1 : List (List Int)) (A0_2 : Option Addr) (c0_2 : Nat) (l0_2 : List Int) (a1 : Int) (r : Int) (w : World) (hr0_1 : Kd.C (Kd.slice 3 (Kd.int .i64)) w A0_1 l0_1.length l0_1) (hc0_1 : l0_1.length ≤ c0_1) (hr0_2 : Kd.C (Kd.int .i64) w A0_2 l0_2.length l0_2) (hc0_2 : l0_2.length ≤ c0_2) (h : seqs_letter.f k a0_0 l0_1 l0_2 a1 = some r),
    Calls Try.prog 63 #[.agg #[.int .i64 a0_0, .slice A0_1 l0_1.length c0_1, .slice A0_2 l0_2.length c0_2], .int .i64 a1] w fun e w' => e = .returned (.int .i64 r) ∧ Below w.heap.size w w' := by
  induction k using Nat.strongRecOn with
  | _ k ih =>
  intro a0_0 A0_1 c0_1 l0_1 A0_2 c0_2 l0_2 a1 r w hr0_1 hc0_1 hr0_2 hc0_2 h
  cases k with
  | zero => exact absurd h (by simp [seqs_letter.f])
  | succ k =>
  simp only [seqs_letter.f] at h
  have hu47 := Try.underlying47
  have HR0_1 := Aside0.mk hr0_1
  have HC0_1 := Aside0.mk hc0_1
  clear hr0_1 hc0_1
  have HR0_2 := Aside0.mk hr0_2
  have HC0_2 := Aside0.mk hc0_2
  clear hr0_2 hc0_2
  have HB := Aside0.mk (Below.refl w.heap.size w)
  have H : (if a1 = 0 then (some 0) else (if a0_0 = 0 then (none) else ((seqs_letter.f k a0_0 l0_1 l0_2 (wrap64 (Int.tdiv a1 a0_0))).bind fun t114 => (if 0 ≤ t114 then (if t114 < (l0_1.length : Int) then (if 0 ≤ (Int.tmod a1 a0_0) then (if (Int.tmod a1 a0_0) < ((rd_L1 l0_1 t114).length : Int) then (some (rd (rd_L1 l0_1 t114) (Int.tmod a1 a0_0))) else (none)) else (none)) else (none)) else (none))))) = some r := h
  clear h
  by_cases c3 : a1 = 0
  · rw [if_pos c3] at H
    have c3b0 : (a1 == 0) = true := beq_iff_eq.mpr c3
    have c3b1 : (a1 != 0) = false := bne_eq_false_iff_eq.mpr c3
    clear c3
    obtain rfl := Option.some.inj H
    go_enter Try.func63, Try.ntmps63
    go_wp2_with (first | ((with_reducible refine gate_dst (N := 2) rfl ?_); refine box_event ?hg (N := 2) ?hd (cs := #[.int .i64 a0_0, .slice A0_1 l0_1.length c0_1, .slice A0_2 l0_2.length c0_2]) (t := 47) ?hr ?_; (case hd => rfl); (case hg => rfl); (case hr => first | (go_simp; done) | (go_simp; rfl)); intro gb113 hg w4 hbox hb; have n0_ := Aside0.mk (below_step (by repeat (first | (with_reducible first | exact HB.out | apply below_alloc | apply pw_below_drewN | apply below_drew1) | exact HB.out)) hb); have n1_ := Aside0.mk (hbox); have n2_ := Aside0.mk ((by rw [hg]; exact (below_size (by repeat (first | (with_reducible first | exact HB.out | apply below_alloc | apply pw_below_drewN | apply below_drew1) | exact HB.out))) : w.heap.size ≤ gb113)); have n3_ := Aside0.mk ((by rw [hg]; exact (below_size (by repeat (first | (with_reducible first | exact HB.out | apply below_alloc | apply pw_below_drewN | apply below_drew1) | exact HB.out))) : w.heap.size ≤ gb113)); clear HB; have HB := n0_; have BK113 := n1_; have GW113 := n2_; have GE113 := n3_; clear n0_ n1_ n2_ n3_; clear hb hbox hg))
    go_ret
    exact ⟨by first | rfl | (simp [errW_none, errW_some] <;> rfl) | (simp [*, errW_none, errW_some] <;> rfl), by repeat (first | (with_reducible first | exact HB.out | apply below_alloc | apply pw_below_drewN | apply below_drew1 | refine below_set ?_ GE113.out) | exact HB.out)⟩
  · rw [if_neg c3] at H
    have c3b0 : (a1 == 0) = false := beq_eq_false_iff_ne.mpr c3
    have c3b1 : (a1 != 0) = true := bne_iff_ne.mpr c3
    by_cases c5 : a0_0 = 0
    · rw [if_pos c5] at H
      exact absurd H (by simp)
    · rw [if_neg c5] at H
      have c5b0 : (a0_0 == 0) = false := beq_eq_false_iff_ne.mpr c5
      have c5b1 : (a0_0 != 0) = true := bne_iff_ne.mpr c5
      replace H := Option.bind_eq_some_iff.mp H
      obtain ⟨t114, A60, H⟩ := H
      replace H : (if 0 ≤ t114 then (if t114 < (l0_1.length : Int) then (if 0 ≤ (Int.tmod a1 a0_0) then (if (Int.tmod a1 a0_0) < ((rd_L1 l0_1 t114).length : Int) then (some (rd (rd_L1 l0_1 t114) (Int.tmod a1 a0_0))) else (none)) else (none)) else (none)) else (none)) = some r := H
      have A6 := Aside0.mk A60
      clear A60
      by_cases c7 : 0 ≤ t114
      · rw [if_pos c7] at H
        have c7b0 : decide (0 ≤ t114) = true := decide_eq_true c7
        clear c7
        by_cases c8 : t114 < (l0_1.length : Int)
        · rw [if_pos c8] at H
          have c8b0 : decide (t114 < (l0_1.length : Int)) = true := decide_eq_true c8
          clear c8
          obtain ⟨ji9, hji9⟩ : ∃ j_ : Int, (Int.tmod a1 a0_0) = j_ := ⟨_, rfl⟩
          replace H : (if 0 ≤ (ji9) then (if (ji9) < ((rd_L1 l0_1 t114).length : Int) then (some (rd (rd_L1 l0_1 t114) (ji9))) else (none)) else (none)) = some r := by first | (rw [hji9] at H; exact H) | (simp only [hji9] at H ⊢; exact H)
          (try rw [hji9] at A6)
          by_cases c10 : 0 ≤ (ji9)
          · rw [if_pos c10] at H
            have c10b0 : decide (0 ≤ (ji9)) = true := decide_eq_true c10
            clear c10
            by_cases c11 : (ji9) < ((rd_L1 l0_1 t114).length : Int)
            · rw [if_pos c11] at H
              have c11b0 : decide ((ji9) < ((rd_L1 l0_1 t114).length : Int)) = true := decide_eq_true c11
              clear c11
              obtain rfl := Option.some.inj H
              go_enter Try.func63, Try.ntmps63
              try go_wp2_with (first | ((with_reducible refine gate_dst (N := 2) rfl ?_); refine box_event ?hg (N := 2) ?hd (cs := #[.int .i64 a0_0, .slice A0_1 l0_1.length c0_1, .slice A0_2 l0_2.length c0_2]) (t := 47) ?hr ?_; (case hd => rfl); (case hg => rfl); (case hr => first | (go_simp; done) | (go_simp; rfl)); intro gb113 hg w12 hbox hb; have n0_ := Aside0.mk (below_step (by repeat (first | (with_reducible first | exact HB.out | apply below_alloc | apply pw_below_drewN | apply below_drew1) | exact HB.out)) hb); have n1_ := Aside0.mk (hbox); have n2_ := Aside0.mk ((by rw [hg]; exact (below_size (by repeat (first | (with_reducible first | exact HB.out | apply below_alloc | apply pw_below_drewN | apply below_drew1) | exact HB.out))) : w.heap.size ≤ gb113)); have n3_ := Aside0.mk ((by rw [hg]; exact (below_size (by repeat (first | (with_reducible first | exact HB.out | apply below_alloc | apply pw_below_drewN | apply below_drew1) | exact HB.out))) : w.heap.size ≤ gb113)); clear HB; have HB := n0_; have BK113 := n1_; have GW113 := n2_; have GE113 := n3_; clear n0_ n1_ n2_ n3_; clear hb hbox hg))
              have n0_ := Aside0.mk (blk_drew BK113.out)
              have n1_ := Aside0.mk (below_drew1 HB.out)
              clear BK113
              clear HB
              have BK113 := n0_
              have HB := n1_
              clear n0_ n1_
              have p115 : 0 ≤ (t114 : Int) := of_decide_eq_true (by first | (with_reducible assumption) | assumption)
              have q115 : t114 < (l0_1.length : Int) := of_decide_eq_true (by first | (with_reducible assumption) | assumption)
              obtain ⟨ad115, A115_0, c115_0, e115, hx115_0, hl115_0, hi115_0⟩ := at_L1 HR0_1.out t114 p115 q115
              have hw115_0 := hx115_0
              cases e115
              replace hx115_0 := (HB.out.cell (World.block_lt_of_cell? w _ hx115_0)).trans hx115_0
              have HR115_0 := Aside0.mk hi115_0
              have HC115_0 := Aside0.mk hl115_0
              clear hi115_0 hl115_0
              replace p115 := eq_true p115
              replace q115 := eq_true q115
              have p116 : 0 ≤ ((ji9) : Int) := of_decide_eq_true (by first | (with_reducible assumption) | assumption)
              have q116 : (ji9) < ((rd_L1 l0_1 t114).length : Int) := of_decide_eq_true (by first | (with_reducible assumption) | assumption)
              obtain ⟨ad116, e116, hx116_0⟩ := Kd.at_int HR115_0.out (ji9) p116 q116
              have hw116_0 := hx116_0
              cases e116
              replace hx116_0 := (HB.out.cell (World.block_lt_of_cell? w _ hx116_0)).trans hx116_0
              replace p116 := eq_true p116
              replace q116 := eq_true q116
              refine start_ (n := 17) (S := fun w' => w'.cell? ⟨gb113, 0, none⟩ = some (.int .i64 a0_0) ∧ w'.cell? ⟨gb113, 1, none⟩ = some (.slice (some ad115) l0_1.length c0_1) ∧ w'.cell? ⟨gb113, 2, none⟩ = some (.slice A0_2 l0_2.length c0_2) ∧ w'.cell? (ad115.add (t114).toNat) = some (.slice (some ad116) (rd_L1 l0_1 t114).length c115_0) ∧ w'.cell? (ad116.add ((ji9)).toNat) = some (.int .i64 (rd (rd_L1 l0_1 t114) (ji9)))) (ds := []) #[false, false, false, false, false, false, false, false, false, false, false, false, false, false, false, false, false] (by kernel_rfl) rfl rfl ⟨(blk_cell BK113.out 0).trans rfl, (blk_cell BK113.out 1).trans rfl, (blk_cell BK113.out 2).trans rfl, ((HB.out.cell (World.block_lt_of_cell? w _ hw115_0)).trans hw115_0), ((HB.out.cell (World.block_lt_of_cell? w _ hw116_0)).trans hw116_0)⟩ (fun hHeld => ?_); refine with_tabW seqs_letter.tab3 seqs_letter.bits3 (fun HT_ HW_ => ?_)
              generalize w12.drew = w13 at BK113 HB HR115_0 hx115_0 hx116_0 hHeld ⊢
              refine pure_ (i := 0) (N := some 7) (v := ?_) (a' := ?_) #[true, false, false, false, false, false, false, false, false, false, false, false, false, false, false, false, false] rfl rfl (any_of HT_.out (by kernel_rfl)) (fun _ _ _ h => h) (Or.inl ⟨by rfl, ?_⟩) ?_ ?_
              rotate_left
              · intro w'
                go_simp
                first | with_reducible rfl | (rw [if_neg (bne_iff_ne.1 (by assumption))] <;> with_reducible rfl)
              rotate_left
              · simp only [Act.put, List.setIfInBounds_toArray, List.set_cons_zero, List.set_cons_succ, i64_w, i32_w]
                rfl
              refine pure_ (i := 3) (N := some 10) (v := ?_) (a' := ?_) #[true, false, false, true, false, false, false, false, false, false, false, false, false, false, false, false, false] rfl rfl (any_of HT_.out (by kernel_rfl)) (fun _ _ _ h => h) (Or.inl ⟨by rfl, ?_⟩) ?_ ?_
              rotate_left
              · intro w'
                go_simp
                first | with_reducible rfl | (rw [if_neg (bne_iff_ne.1 (by assumption))] <;> with_reducible rfl)
              rotate_left
              · simp only [Act.put, List.setIfInBounds_toArray, List.set_cons_zero, List.set_cons_succ, i64_w, i32_w]
                rfl
              refine pure_ (i := 4) (N := some 11) (v := ?_) (a' := ?_) #[true, false, false, true, true, false, false, false, false, false, false, false, false, false, false, false, false] rfl rfl (any_of HT_.out (by kernel_rfl)) (fun _ _ _ h => h) (Or.inl ⟨by rfl, ?_⟩) ?_ ?_
              rotate_left
              · intro w'
                go_simp
                first | with_reducible rfl | (rw [if_neg (bne_iff_ne.1 (by assumption))] <;> with_reducible rfl)
              rotate_left
              · simp only [Act.put, List.setIfInBounds_toArray, List.set_cons_zero, List.set_cons_succ, i64_w, i32_w]
                rfl
              refine pure_ (i := 10) (N := some 17) (v := ?_) (a' := ?_) #[true, false, false, true, true, false, false, false, false, false, true, false, false, false, false, false, false] rfl rfl (any_of HT_.out (by kernel_rfl)) (fun _ _ _ h => h) (Or.inl ⟨by rfl, ?_⟩) ?_ ?_
              rotate_left
              · intro w'
                go_simp
                first | with_reducible rfl | (rw [if_neg (bne_iff_ne.1 (by assumption))] <;> with_reducible rfl)
              rotate_left
              · simp only [Act.put, List.setIfInBounds_toArray, List.set_cons_zero, List.set_cons_succ, i64_w, i32_w]
                rfl
              refine pure_ (i := 11) (N := some 18) (v := ?_) (a' := ?_) #[true, false, false, true, true, false, false, false, false, false, true, true, false, false, false, false, false] rfl rfl (any_of HT_.out (by kernel_rfl)) (fun _ _ _ h => h) (Or.inl ⟨by rfl, ?_⟩) ?_ ?_
              rotate_left
              · intro w'
                go_simp
                first | with_reducible rfl | (rw [if_neg (bne_iff_ne.1 (by assumption))] <;> with_reducible rfl)
              rotate_left
              · simp only [Act.put, List.setIfInBounds_toArray, List.set_cons_zero, List.set_cons_succ, i64_w, i32_w]
                rfl
              refine take_ (i := 1) (N := some 8) (v := ?_) (a' := ?_) #[true, true, false, true, true, false, false, false, false, false, true, true, false, false, false, false, false] rfl rfl (take_ofW HT_.out HW_.out (by kernel_rfl)) (fun _ _ _ h => h) (Or.inl ⟨by rfl, ?_⟩) hHeld ?_ ?_
              rotate_left
              · rintro w' ⟨s0, s1, s2, s3, s4⟩
                go_simp
                first | with_reducible rfl | (rw [if_neg (bne_iff_ne.1 (by assumption))] <;> with_reducible rfl)
              rotate_left
              · simp only [Act.put, List.setIfInBounds_toArray, List.set_cons_zero, List.set_cons_succ, i64_w, i32_w]
                rfl
              refine take_ (i := 2) (N := some 9) (v := ?_) (a' := ?_) #[true, true, true, true, true, false, false, false, false, false, true, true, false, false, false, false, false] rfl rfl (take_ofW HT_.out HW_.out (by kernel_rfl)) (fun _ _ _ h => h) (Or.inl ⟨by rfl, ?_⟩) hHeld ?_ ?_
              rotate_left
              · rintro w' ⟨s0, s1, s2, s3, s4⟩
                go_simp
                first | with_reducible rfl | (rw [if_neg (bne_iff_ne.1 (by assumption))] <;> with_reducible rfl)
              rotate_left
              · simp only [Act.put, List.setIfInBounds_toArray, List.set_cons_zero, List.set_cons_succ, i64_w, i32_w]
                rfl
              refine take_ (i := 5) (N := some 12) (v := ?_) (a' := ?_) #[true, true, true, true, true, true, false, false, false, false, true, true, false, false, false, false, false] rfl rfl (take_ofW HT_.out HW_.out (by kernel_rfl)) (fun _ _ _ h => h) (Or.inl ⟨by rfl, ?_⟩) hHeld ?_ ?_
              rotate_left
              · rintro w' ⟨s0, s1, s2, s3, s4⟩
                go_simp
                first | with_reducible rfl | (rw [if_neg (bne_iff_ne.1 (by assumption))] <;> with_reducible rfl)
              rotate_left
              · simp only [Act.put, List.setIfInBounds_toArray, List.set_cons_zero, List.set_cons_succ, i64_w, i32_w]
                rfl
              refine pure_ (i := 6) (N := some 13) (v := ?_) (a' := ?_) #[true, true, true, true, true, true, true, false, false, false, true, true, false, false, false, false, false] rfl rfl (any_of HT_.out (by kernel_rfl)) (fun _ _ _ h => h) (Or.inl ⟨by rfl, ?_⟩) ?_ ?_
              rotate_left
              · intro w'
                go_simp
                first | with_reducible rfl | (rw [if_neg (bne_iff_ne.1 (by assumption))] <;> with_reducible rfl)
              rotate_left
              · simp only [Act.put, List.setIfInBounds_toArray, List.set_cons_zero, List.set_cons_succ, i64_w, i32_w]
                rfl
              refine take_ (i := 12) (N := some 19) (v := ?_) (a' := ?_) #[true, true, true, true, true, true, true, false, false, false, true, true, true, false, false, false, false] rfl rfl (take_ofW HT_.out HW_.out (by kernel_rfl)) (fun _ _ _ h => h) (Or.inl ⟨by rfl, ?_⟩) hHeld ?_ ?_
              rotate_left
              · rintro w' ⟨s0, s1, s2, s3, s4⟩
                go_simp
                first | with_reducible rfl | (rw [if_neg (bne_iff_ne.1 (by assumption))] <;> with_reducible rfl)
              rotate_left
              · simp only [Act.put, List.setIfInBounds_toArray, List.set_cons_zero, List.set_cons_succ, i64_w, i32_w]
                rfl
              refine pure_ (i := 13) (N := some 20) (v := ?_) (a' := ?_) #[true, true, true, true, true, true, true, false, false, false, true, true, true, true, false, false, false] rfl rfl (any_of HT_.out (by kernel_rfl)) (fun _ _ _ h => h) (Or.inl ⟨by rfl, ?_⟩) ?_ ?_
              rotate_left
              · intro w'
                go_simp
                first | with_reducible rfl | (rw [if_neg (bne_iff_ne.1 (by assumption))] <;> with_reducible rfl)
              rotate_left
              · simp only [Act.put, List.setIfInBounds_toArray, List.set_cons_zero, List.set_cons_succ, i64_w, i32_w]
                rfl
              refine one_ (i := 7) (N := some 14) #[true, true, true, true, true, true, true, true, false, false, true, true, true, true, false, false, false] rfl rfl (one_of HT_.out (by kernel_rfl)) (by decide) (fun K hK => ?_)
              refine goes_ Try.func63 (by kernel_rfl) rfl #[.agg #[.int .i64 a0_0, .slice (some ad115) l0_1.length c0_1, .slice A0_2 l0_2.length c0_2], .int .i64 (wrap64 (Int.tdiv a1 a0_0))] (by rfl) rfl rfl (by (try simp only [List.map_toArray, List.map_cons, List.map_nil]); first | done | rfl | (simp only [List.length_drop, List.length_take]; rfl)) ?_
              with_reducible refine (ih k (by omega) a0_0 _ _ l0_1 _ _ l0_2 (wrap64 (Int.tdiv a1 a0_0)) t114 _ ?side1 ?side2 ?side3 ?side4 A6.out).mono ?_
              (case side1 => repeat (first | exact (Kd.C_below HR0_1.out HB.out) | (with_reducible refine Kd.C_alloc ?_ _) | (with_reducible refine Kd.C_drewN ?_ _) | (with_reducible refine Kd.C_drew ?_)))
              (case side2 => exact HC0_1.out)
              (case side3 => repeat (first | exact (Kd.C_below HR0_2.out HB.out) | (with_reducible refine Kd.C_alloc ?_ _) | (with_reducible refine Kd.C_drewN ?_ _) | (with_reducible refine Kd.C_drew ?_)))
              (case side4 => exact HC0_2.out)
              rintro e w14 ⟨rfl, hb⟩
              refine ⟨_, rfl, ?_⟩
              have n0_ := Aside0.mk (blk_below (g := gb113) (o := .cells #[.int .i64 a0_0, .slice (some ad115) l0_1.length c0_1, .slice A0_2 l0_2.length c0_2] 47 (0, 0)) (by (with_reducible repeat (first | refine blk_drewN ?_ _ | refine blk_drew ?_ | refine blk_alloc ?_ _)); exact BK113.out) hb)
              have n1_ := Aside0.mk (below_step (by repeat (first | (with_reducible first | exact HB.out | apply below_alloc | apply pw_below_drewN | apply below_drew1 | refine below_set ?_ GE113.out) | exact HB.out)) hb)
              clear BK113
              clear HB
              have BK113 := n0_
              have HB := n1_
              clear n0_ n1_
              (try clear hb)
              (try clear hb2)
              (try clear hk)
              (try clear hi)
              refine hK.out _ _ ⟨(blk_cell BK113.out 0).trans rfl, (blk_cell BK113.out 1).trans rfl, (blk_cell BK113.out 2).trans rfl, ((HB.out.cell (World.block_lt_of_cell? w _ hw115_0)).trans hw115_0), ((HB.out.cell (World.block_lt_of_cell? w _ hw116_0)).trans hw116_0)⟩ (fun hHeld => ?_)
              clear hK K
              refine norm_ (a' := ?_) ?_ ?_
              rotate_left
              · show Act.put _ (some 14) _ = _
                simp only [Act.put, List.setIfInBounds_toArray, List.set_cons_zero, List.set_cons_succ, i64_w, i32_w]
                rfl
              refine pure_ (i := 8) (N := some 15) (v := ?_) (a' := ?_) #[true, true, true, true, true, true, true, true, true, false, true, true, true, true, false, false, false] rfl rfl (any_of HT_.out (by kernel_rfl)) (fun _ _ _ h => h) (Or.inl ⟨by rfl, ?_⟩) ?_ ?_
              rotate_left
              · intro w'
                go_simp
                first | with_reducible rfl | (rw [if_neg (bne_iff_ne.1 (by assumption))] <;> with_reducible rfl)
              rotate_left
              · simp only [Act.put, List.setIfInBounds_toArray, List.set_cons_zero, List.set_cons_succ, i64_w, i32_w]
                rfl
              refine take_ (i := 9) (N := some 16) (v := ?_) (a' := ?_) #[true, true, true, true, true, true, true, true, true, true, true, true, true, true, false, false, false] rfl rfl (take_ofW HT_.out HW_.out (by kernel_rfl)) (fun _ _ _ h => h) (Or.inl ⟨by rfl, ?_⟩) hHeld ?_ ?_
              rotate_left
              · rintro w' ⟨s0, s1, s2, s3, s4⟩
                go_simp
                first | with_reducible rfl | (rw [if_neg (bne_iff_ne.1 (by assumption))] <;> with_reducible rfl)
              rotate_left
              · simp only [Act.put, List.setIfInBounds_toArray, List.set_cons_zero, List.set_cons_succ, i64_w, i32_w]
                rfl
              refine pure_ (i := 14) (N := some 21) (v := ?_) (a' := ?_) #[true, true, true, true, true, true, true, true, true, true, true, true, true, true, true, false, false] rfl rfl (any_of HT_.out (by kernel_rfl)) (fun _ _ _ h => h) (Or.inl ⟨by rfl, ?_⟩) ?_ ?_
              rotate_left
              · intro w'
                go_simp
                first | with_reducible rfl | (rw [if_neg (bne_iff_ne.1 (by assumption))] <;> with_reducible rfl)
              rotate_left
              · simp only [Act.put, List.setIfInBounds_toArray, List.set_cons_zero, List.set_cons_succ, i64_w, i32_w]
                rfl
              refine take_ (i := 15) (N := some 22) (v := ?_) (a' := ?_) #[true, true, true, true, true, true, true, true, true, true, true, true, true, true, true, true, false] rfl rfl (take_ofW HT_.out HW_.out (by kernel_rfl)) (fun _ _ _ h => h) (Or.inl ⟨by rfl, ?_⟩) hHeld ?_ ?_
              rotate_left
              · rintro w' ⟨s0, s1, s2, s3, s4⟩
                go_simp
                first | with_reducible rfl | (rw [if_neg (bne_iff_ne.1 (by assumption))] <;> with_reducible rfl)
              rotate_left
              · simp only [Act.put, List.setIfInBounds_toArray, List.set_cons_zero, List.set_cons_succ, i64_w, i32_w]
                rfl
              refine pure_ (i := 16) (N := some 4) (v := ?_) (a' := ?_) #[true, true, true, true, true, true, true, true, true, true, true, true, true, true, true, true, true] rfl rfl (any_of HT_.out (by kernel_rfl)) (fun _ _ _ h => h) (Or.inl ⟨by rfl, ?_⟩) ?_ ?_
              rotate_left
              · intro w'
                go_simp
                first | with_reducible rfl | (rw [if_neg (bne_iff_ne.1 (by assumption))] <;> with_reducible rfl)
              rotate_left
              · simp only [Act.put, List.setIfInBounds_toArray, List.set_cons_zero, List.set_cons_succ, i64_w, i32_w]
                rfl
              refine done_ (done_of HT_.out (by kernel_rfl)) ?_
              try go_wp2
              go_ret
              exact ⟨by first | rfl | (simp [errW_none, errW_some] <;> rfl) | (simp only [← hji9]; first | rfl | (simp [errW_none, errW_some] <;> rfl)) | (simp [*, errW_none, errW_some] <;> rfl), by repeat (first | (with_reducible first | exact HB.out | apply below_alloc | apply pw_below_drewN | apply below_drew1 | refine below_set ?_ GE113.out) | exact HB.out)⟩
            · rw [if_neg c11] at H
              exact absurd H (by simp)
          · rw [if_neg c10] at H
            exact absurd H (by simp)
        · rw [if_neg c8] at H
          exact absurd H (by simp)
      · rw [if_neg c7] at H
        exact absurd H (by simp)

end Go.Proofs.Ythbdmfhobienaaa.PSeqsCounts
