-- Printed over the kit's print by a program of this session (wip/hprint.py), with contracts of its own hand.
import Derived.Test.YtklkcdphcmimoaaPCoverFiresx0
namespace Go.Proofs.Ytklkcdphcmimoaa.PCoverFires
open Go.RowKit Go.Proofs.YtklkcdphcmimoaaW.PrintWords Go.Proofs.YtklkcdphcmimoaaW.PrintLast Go.Proofs.YtklkcdphcmimoaaW.PrintMore
attribute [local go_sem] max2_int min2_int max_two min_two max_three min_three max_four min_four   -- for this text's walks alone
set_option linter.unusedVariables false
set_option linter.unusedSimpArgs false

-- NOT PRINTED: function 143 (slices_Grow_int_int)

-- NOT PRINTED: function 91 (slices_Concat_int_int)

-- NOT PRINTED: function 144 (slices_IndexFunc_int_int_144)

-- NOT PRINTED: function 92 (slices_ContainsFunc_int_int_92)

/-! ### cover_Check: function 31 -/
/-! slices.Concat at elements of one cell: []int; its Grow -/
theorem cover_Check.cinfoL : (Try.prog.info? 32).map (fun i => (i.zero, i.size, i.bytes)) = some (some ((.slice none 0 0)), 1, 24) := by kernel_rfl
set_option maxHeartbeats 4000000 in
set_option maxRecDepth 100000 in
theorem cover_Check.GrowL (n : Int) (h0 : 0 ≤ n) (hn : n ≤ 1000000) (w : World) :
    Calls Try.prog 143 #[.slice none 0 0, .int .i64 n] w fun e w' => ∃ v : Value, e = .returned v ∧ (Kd.raw 1).R 32 w' w.heap.size (fun _ => True) v [] ∧ Below w.heap.size w w' := by
  by_cases hz : n = 0
  · subst hz
    clear h0 hn
    go_enter Try.func143, Try.ntmps143
    go_wp2_with fail
    go_ret
    exact ⟨_, rfl, Kd.R_nil _ _ _ _ _, Below.refl _ _⟩
  · have h1 : 0 < n := by omega
    have h2 : ¬ n < 0 := by omega
    have hA : Aside0 (0 ≤ n ∧ n ≤ 1000000) := ⟨h0, hn⟩
    have hw1 : IntKind.i64.wrap (n - 0) = n := by rw [i64_w, Int.sub_zero]; exact Go.IntWalk.wrap64_in _ ⟨by omega, by omega⟩
    have hw2 : IntKind.i64.wrap n = n := by rw [i64_w]; exact Go.IntWalk.wrap64_in _ ⟨by omega, by omega⟩
    have hw3 : wrap64 n = n := Go.IntWalk.wrap64_in _ ⟨by omega, by omega⟩
    clear h0 hn hz
    go_enter Try.func143, Try.ntmps143
    go_wp2_with (at_builtin; refine Kd.R_append_zeros (Kd.raw 1) (w0 := w) w.heap.size rfl (.tmp 20) (.tmp 21) 31 3 32 ((.slice none 0 0)) 24 rfl Try.underlying31 Try.underlying3 cover_Check.cinfoL rfl (by decide) (by decide) (.slice none 0 0) [] [(.slice none 0 0)] n (fun _ => True) rfl rfl ⟨rfl, rfl, by simp [Value.oneCell', Value.cells]⟩ (fun _ _ => trivial) (Kd.R_nil _ _ _ _ _) hA.out.1 (Below.refl _ _) (Nat.le_refl _) (by have := hA.out; simp; omega) ?_; intro v1 w1 hr hb hg hat)
    obtain ⟨A1, c1, e1, hlc, _⟩ := Kd.R_reads hr
    rw [List.nil_append, List.length_replicate] at e1 hlc
    rw [List.nil_append] at hr
    subst e1
    obtain ⟨i0, hi0, _⟩ := info_parts cover_Check.cinfoL
    have hcut := cut_to (P := Try.prog) 31 32 .i64 Try.underlying31 hi0 A1 n.toNat c1 0 (Int.le_refl _) (by omega) hlc
    have hr2 := Aside0.mk (Kd.R_take (m := 0) hr (Nat.zero_le _))
    have hB := Aside0.mk hb
    clear hr hb hg hat hi0
    go_wp2_with fail
    rw [hcut]
    go_wp2_with fail
    go_ret
    exact ⟨_, rfl, hr2.out, hB.out⟩
theorem cover_Check.wsumL (x y : Nat) (h : x + y ≤ 1000000) : IntKind.i64.wrap ((x : Int) + (y : Int)) = (x : Int) + (y : Int) ∧ wrap64 ((x : Int) + (y : Int)) = (x : Int) + (y : Int) ∧ ¬ ((x : Int) + (y : Int)) < 0 ∧ decide (((x : Int) + (y : Int)) < 0) = false := by
  have h1 : wrap64 ((x : Int) + (y : Int)) = (x : Int) + (y : Int) := Go.IntWalk.wrap64_in _ ⟨by omega, by omega⟩
  exact ⟨by rw [i64_w]; exact h1, h1, by omega, decide_eq_false (by omega)⟩
set_option maxHeartbeats 8000000 in
set_option maxRecDepth 100000 in
/-- all rows, one behind the other; what is known of the new row's cells -/
theorem cover_Check.ConcatL {α : Type} (d : Kd α) (hsz : d.sz = 1) (T : Nat) (A : Option Addr) (c : Nat) (L : List (List α)) (w : World) (hr : (Kd.slice T d).C w A L.length L) (hN : L.flatten.length ≤ 1000000) :
    Calls Try.prog 91 #[.slice A L.length c] w fun e w' => ∃ (v : Value) (vals : List (List Value)), e = .returned v ∧ (Kd.raw 1).R 32 w' w.heap.size (fun _ => True) v vals ∧ vals.length = L.flatten.length ∧ (∀ (j : Nat) (x : α) (cs : List Value), L.flatten[j]? = some x → vals[j]? = some cs → d.K w' x cs) ∧ Below w.heap.size w w' := by
  have HR := Aside0.mk hr
  have hbig : L.length ≤ 9223372036854775807 := hr.2.1
  have HN := Aside0.mk (show ∀ k, (L.take k).flatten.length ≤ 1000000 from fun k => Nat.le_trans (by
    have := congrArg (fun z => z.flatten.length) (List.take_append_drop k L)
    simp only [List.flatten_append, List.length_append] at this
    omega) hN)
  clear hr hN
  go_enter Try.func91, Try.ntmps91
  go_wp2_with fail
  go_loopg [3, 5, 11] L.length (fun gg s3 _ s11 wr => ∃ kk : Nat, kk ≤ L.length ∧ L.length - kk ≤ gg ∧ s3 = .int .i64 ((L.take kk).flatten.length : Nat) ∧ s11 = .int .i64 kk ∧ Aside0 (Below w.heap.size w wr))
  case atStart => exact ⟨0, Nat.zero_le _, by omega, by simp, rfl, ⟨Below.refl _ w⟩⟩
  case round =>
    obtain ⟨kk, hkk, hg, rfl, rfl, BW⟩ := hrel
    by_cases hlt : kk < L.length
    · have hltz : (kk : Int) < (L.length : Int) := by omega
      obtain ⟨ad, cs, hA, hcs, hK, hcell⟩ := Kd.C_get (Kd.C_below HR.out BW.out) (L[kk]'hlt) (kk : Int) (by omega) hltz
      have hx : L.getD (kk : Int).toNat (L[kk]'hlt) = L[kk]'hlt := by rw [Int.toNat_natCast, List.getD_eq_getElem?_getD, List.getElem?_eq_getElem hlt]; rfl
      rw [hx] at hK
      obtain ⟨A2, c2, rfl, hl2, hC2⟩ := hK
      have hc0 := hcell 0 _ rfl
      rw [show (Kd.slice T d).sz = 1 from rfl, Nat.mul_one, Nat.add_zero, Int.toNat_natCast] at hc0
      have h1 := HN.out kk
      have h2 := HN.out (kk + 1)
      have hs : (L.take (kk + 1)).flatten.length = (L.take kk).flatten.length + (L[kk]'hlt).length := by
        rw [List.take_succ_eq_append_getElem hlt, List.flatten_append, List.length_append]; simp
      rw [hs] at h2
      have HS := Aside0.mk hs
      clear hs hcell hcs hx
      subst hA
      generalize (L.take kk).flatten.length = x at h1 h2 HS
      generalize hy : (L[kk]'hlt).length = y at h2 HS hc0 hl2 hC2
      obtain ⟨hw1, hw2, hnn, hnd⟩ := cover_Check.wsumL x y h2
      have HY := Aside0.mk hy
      clear hy hC2
      go_wp2_with fail
      go_roundg (L.length - (kk + 1))
      case measure => omega
      case rel => exact ⟨kk + 1, by omega, by omega, by rw [HS.out, Int.natCast_add], by go_num, BW⟩
    · have hltz : ¬ (kk : Int) < (L.length : Int) := by omega
      have hall : L.take kk = L := List.take_of_length_le (by omega)
      rw [hall]
      have h1 := HN.out L.length
      rw [List.take_length] at h1
      have HL := Aside0.mk (show ∃ z, z = L.flatten.length ∧ z ≤ 1000000 from ⟨_, rfl, h1⟩)
      clear hall h1
      obtain ⟨z, hz, hz1⟩ := HL.out
      rw [← hz]
      have HZ := Aside0.mk hz
      clear hz HL
      have hG := cover_Check.GrowL (z : Int) (by omega) (by omega) wr
      go_wp2_with fail
      refine hG.mono ?_
      rintro e w1 ⟨v0, rfl, hv0, hb0⟩
      have HV0 := Aside0.mk (Kd.R_lower hv0 (below_size BW.out))
      have HB0 := Aside0.mk (below_step BW.out hb0)
      clear hv0 hb0 hG
      go_wp2_with fail
      go_loopg [6, 8, 27] L.length (fun gg s6 _ s27 wr => ∃ (kk : Nat) (vals : List (List Value)), kk ≤ L.length ∧ L.length - kk ≤ gg ∧ s27 = .int .i64 kk ∧ Aside0 ((Kd.raw 1).R 32 wr w.heap.size (fun _ => True) s6 vals) ∧ Aside0 (vals.length = (L.take kk).flatten.length) ∧ Aside0 (∀ (j : Nat) (x : α) (cs : List Value), (L.take kk).flatten[j]? = some x → vals[j]? = some cs → d.K w x cs) ∧ Aside0 (Below w.heap.size w wr))
      case atStart => exact ⟨0, [], Nat.zero_le _, by omega, rfl, HV0, ⟨rfl⟩, ⟨fun j x cs h => by simp at h⟩, HB0⟩
      case round =>
        clear HV0 HB0
        obtain ⟨kk, vals, hkk, hg, rfl, HV, HL, HK, HB⟩ := hrel
        obtain ⟨A1, c1, e1, hlc, _⟩ := Kd.R_reads HV.out
        subst e1
        by_cases hlt : kk < L.length
        · have hltz : (kk : Int) < (L.length : Int) := by omega
          obtain ⟨ad, cs, hA, hcs, hK, hcell⟩ := Kd.C_get HR.out (L[kk]'hlt) (kk : Int) (by omega) hltz
          have hx : L.getD (kk : Int).toNat (L[kk]'hlt) = L[kk]'hlt := by rw [Int.toNat_natCast, List.getD_eq_getElem?_getD, List.getElem?_eq_getElem hlt]; rfl
          rw [hx] at hK
          obtain ⟨A2, c2, rfl, hl2, hC2⟩ := hK
          have hc0 := hcell 0 _ rfl
          rw [show (Kd.slice T d).sz = 1 from rfl, Nat.mul_one, Nat.add_zero, Int.toNat_natCast] at hc0
          replace hc0 := (HB.out.cell (World.block_lt_of_cell? w _ hc0)).trans hc0
          have hs : (L.take (kk + 1)).flatten = (L.take kk).flatten ++ (L[kk]'hlt) := by
            rw [List.take_succ_eq_append_getElem hlt, List.flatten_append]; simp
          have h2 := HN.out (kk + 1)
          rw [hs, List.length_append, ← HL.out] at h2
          obtain ⟨news, hnl, hnr, hnk⟩ := Kd.reads_raw hC2 (fun x c hk => ⟨d.K_len hk, d.K_one hk⟩)
          rw [hsz] at hnr
          have HS := Aside0.mk hs
          have H2 := Aside0.mk h2
          have HNL := Aside0.mk hnl
          have HNR := Aside0.mk (Kd.C_below (d := Kd.raw 1) hnr HB.out)
          have HNK := Aside0.mk hnk
          subst hA
          clear hs h2 hcell hcs hx hC2 hnl hnr hnk
          go_wp2_with (at_builtin; refine Kd.R_append_rows (Kd.raw 1) (w0 := w) w.heap.size rfl (.tmp 31) (.tmp 32) 31 32 ((.slice none 0 0)) 24 rfl Try.underlying31 cover_Check.cinfoL rfl (by decide) (by decide) (.slice A1 vals.length c1) vals news A2 (L[kk]'hlt).length c2 (fun _ => True) (fun _ => False) rfl rfl HV.out HNR.out (fun _ _ h => h) (fun _ h => h.elim) (fun _ _ => trivial) HB.out (below_size HB.out) (by have := H2.out; simp; omega) ?_; intro v1 w2 hr2 hb2 hg2 _)
          have HV2 := Aside0.mk hr2
          have HB2 := Aside0.mk hb2
          have HG2 := Aside0.mk hg2
          clear hr2 hb2 hg2
          go_wp2_with fail
          go_roundg (L.length - (kk + 1))
          case measure => omega
          case rel =>
            refine ⟨kk + 1, vals ++ news, by omega, by omega, by go_num, HV2, ⟨by rw [List.length_append, HL.out, HNL.out, HS.out, List.length_append]⟩, ⟨fun j x cs h1 h2 => ?_⟩, HB2⟩
            rw [HS.out] at h1
            by_cases hj : j < vals.length
            · rw [List.getElem?_append_left (by rw [← HL.out]; exact hj)] at h1
              rw [List.getElem?_append_left hj] at h2
              exact HK.out j x cs h1 h2
            · rw [List.getElem?_append_right (by rw [← HL.out]; exact Nat.le_of_not_lt hj), ← HL.out] at h1
              rw [List.getElem?_append_right (Nat.le_of_not_lt hj)] at h2
              exact HNK.out _ x cs h1 h2
        · have hltz : ¬ (kk : Int) < (L.length : Int) := by omega
          have hall : L.take kk = L := List.take_of_length_le (by omega)
          rw [hall] at HL HK
          clear hall hlc
          go_wp2_with fail
          go_ret
          exact ⟨_, rfl, vals, HV.out, by rw [HL.out, List.length_flatten], fun j x cs h1 h2 => d.K_below HB.out (HK.out j x cs h1 h2), HB.out⟩
theorem cover_Check.rawCL {α : Type} (d : Kd α) (hsz : d.sz = 1) {e base : Nat} {ok : Nat → Prop} {w : World} {v : Value} {vals : List (List Value)} {xs : List α} (hR : (Kd.raw 1).R e w base ok v vals) (hl : vals.length = xs.length) (hk : ∀ (j : Nat) (x : α) (cs : List Value), xs[j]? = some x → vals[j]? = some cs → d.K w x cs) : ∃ A c, v = .slice A xs.length c ∧ d.C w A xs.length xs := by
  obtain ⟨A, c, e1, _, h1, h2, h3⟩ := Kd.R_reads hR
  refine ⟨A, c, by rw [e1, hl], rfl, by rw [← hl]; exact h2, fun hp => ?_⟩
  obtain ⟨ad, hA, hc⟩ := h3 (by rw [hl]; exact hp)
  refine ⟨ad, hA, fun j p hj => ?_⟩
  have hjl : j < vals.length := by rw [hl]; exact (List.getElem?_eq_some_iff.1 hj).1
  obtain ⟨cs, hcl, hKr, hcell⟩ := hc j _ (List.getElem?_eq_getElem hjl)
  refine ⟨cs, by rw [hsz]; exact hcl, ?_, fun i u hu => by rw [hsz]; exact hcell i u hu⟩
  exact hk j p cs hj ((List.getElem?_eq_getElem hjl).trans (by rw [hKr.1]))
/-- slices.IndexFunc at elements of one cell (int): the first one of which p holds. -/
def cover_Check.idxI {α : Type} (p : α → Bool) : List α → Nat → Int
  | [], _ => -1
  | x :: xs, i => if p x = true then (i : Int) else cover_Check.idxI p xs (i + 1)
theorem cover_Check.idxI_any {α : Type} (p : α → Bool) : ∀ (xs : List α) (i : Nat), decide (cover_Check.idxI p xs i ≥ 0) = xs.any p
  | [], _ => by simp [cover_Check.idxI]
  | x :: xs, i => by
    have ih := cover_Check.idxI_any p xs (i + 1)
    by_cases h : p x = true
    · rw [cover_Check.idxI, if_pos h, List.any_cons, h]
      simp
    · rw [cover_Check.idxI, if_neg h, List.any_cons, ih]
      simp [h]
set_option maxHeartbeats 4000000 in
set_option maxRecDepth 100000 in
theorem cover_Check.IndexFuncI {α : Type} (d : Kd α) (hsz : d.sz = 1) (p : α → Bool) (g : Nat) (lb : Array Value) (eg : ∀ args w, (callFunc g args).run Try.prog w = .ok (.enter g args) w)
    (A : Option Addr) (c : Nat) (xs : List α) (w : World) (hr : d.C w A xs.length xs)
    (hp : ∀ (i : Nat) (x : α) (v : Value) (W : World), xs[i]? = some x → Below w.heap.size w W → d.K W x [v] → Calls Try.prog g (#[v] ++ lb) W fun e w' => e = .returned (.bool (p x)) ∧ Below w.heap.size w w') :
    Calls Try.prog 159 #[.slice A xs.length c, .func (.func g) #[] lb] w fun e w' => e = .returned (.int .i64 (cover_Check.idxI p xs 0)) ∧ Below w.heap.size w w' := by
  have HR := Aside0.mk hr
  have hbig : xs.length ≤ 9223372036854775807 := hr.2.1
  clear hr
  go_enter Try.func159, Try.ntmps159
  go_wp2
  go_loopg [5, 8] xs.length (fun gg _ s8 wr => ∃ kk : Nat, kk ≤ xs.length ∧ xs.length - kk ≤ gg ∧ s8 = .int .i64 kk ∧ Aside0 (Below w.heap.size w wr) ∧ Aside0 (cover_Check.idxI p xs 0 = cover_Check.idxI p (xs.drop kk) kk))
  case atStart => exact ⟨0, Nat.zero_le _, by omega, rfl, ⟨Below.refl _ w⟩, ⟨rfl⟩⟩
  case round =>
    obtain ⟨kk, hkk, hg, rfl, BW, IX⟩ := hrel
    by_cases hlt : kk < xs.length
    · have hltz : (kk : Int) < (xs.length : Int) := by omega
      obtain ⟨ad, cs, hA, hcs, hK, hcell⟩ := Kd.C_get (Kd.C_below HR.out BW.out) (xs[kk]'hlt) (kk : Int) (by omega) hltz
      have hcs1 : cs.length = 1 := by rw [hcs, hsz]
      obtain ⟨v, rfl⟩ : ∃ v, cs = [v] := by
        match cs, hcs1 with
        | [v], _ => exact ⟨v, rfl⟩
      have hx : xs.getD (kk : Int).toNat (xs[kk]'hlt) = xs[kk]'hlt := by rw [Int.toNat_natCast, List.getD_eq_getElem?_getD, List.getElem?_eq_getElem hlt]; rfl
      rw [hx] at hK
      have hc0 := hcell 0 v rfl
      rw [hsz, Nat.mul_one, Nat.add_zero, Int.toNat_natCast] at hc0
      have hcall := hp kk (xs[kk]'hlt) v wr (List.getElem?_eq_getElem hlt) BW.out hK
      have IX2 := IX.out
      rw [List.drop_eq_getElem_cons hlt, cover_Check.idxI] at IX2
      have IX3 := Aside0.mk IX2
      have v1 : v.oneCell' = true := d.K_one hK v (by simp)
      clear IX IX2 hcell hK hcs hcs1 hx hp
      subst hA
      cases hq : p (xs[kk]'hlt) with
      | true =>
        rw [hq] at hcall
        have Hq := Aside0.mk hq
        clear hq
        go_wp2_with (go_at_fn g; refine hcall.mono ?_; rintro e w' ⟨rfl, hb'⟩)
        go_ret
        refine ⟨?_, hb'⟩
        rw [IX3.out, if_pos Hq.out]
        rfl
      | false =>
        rw [hq] at hcall
        have Hq := Aside0.mk hq
        clear hq
        go_wp2_with (go_at_fn g; refine hcall.mono ?_; rintro e w' ⟨rfl, hb'⟩)
        go_roundg (xs.length - (kk + 1))
        case measure => omega
        case rel =>
          exact ⟨kk + 1, by omega, by omega, by go_num, ⟨hb'⟩, ⟨by rw [IX3.out, if_neg (by rw [Hq.out]; decide)]⟩⟩
    · have hltz : ¬ (kk : Int) < (xs.length : Int) := by omega
      have hkl : xs.length ≤ kk := by omega
      go_wp2
      go_ret
      refine ⟨?_, BW.out⟩
      rw [IX.out, List.drop_of_length_le hkl, cover_Check.idxI]
      rfl
set_option maxHeartbeats 4000000 in
set_option maxRecDepth 100000 in
theorem cover_Check.ContainsFuncI {α : Type} (d : Kd α) (hsz : d.sz = 1) (p : α → Bool) (g : Nat) (lb : Array Value) (eg : ∀ args w, (callFunc g args).run Try.prog w = .ok (.enter g args) w)
    (A : Option Addr) (c : Nat) (xs : List α) (w : World) (hr : d.C w A xs.length xs)
    (hp : ∀ (i : Nat) (x : α) (v : Value) (W : World), xs[i]? = some x → Below w.heap.size w W → d.K W x [v] → Calls Try.prog g (#[v] ++ lb) W fun e w' => e = .returned (.bool (p x)) ∧ Below w.heap.size w w') :
    Calls Try.prog 115 #[.slice A xs.length c, .func (.func g) #[] lb] w fun e w' => e = .returned (.bool (xs.any p)) ∧ Below w.heap.size w w' := by
  have hX := Aside0.mk (cover_Check.IndexFuncI d hsz p g lb eg A c xs w hr hp)
  have hY := Aside0.mk (cover_Check.idxI_any p xs 0)
  clear hr hp
  go_enter Try.func115, Try.ntmps115
  go_wp2_with (go_at_call 159; refine hX.out.mono ?_; rintro e w' ⟨rfl, hb'⟩)
  go_ret
  exact ⟨by rw [← hY.out]; simp, hb'⟩
/-- slices.IndexFunc at elements of one cell ([]int): the first one of which p holds. -/
def cover_Check.idxL {α : Type} (p : α → Bool) : List α → Nat → Int
  | [], _ => -1
  | x :: xs, i => if p x = true then (i : Int) else cover_Check.idxL p xs (i + 1)
theorem cover_Check.idxL_any {α : Type} (p : α → Bool) : ∀ (xs : List α) (i : Nat), decide (cover_Check.idxL p xs i ≥ 0) = xs.any p
  | [], _ => by simp [cover_Check.idxL]
  | x :: xs, i => by
    have ih := cover_Check.idxL_any p xs (i + 1)
    by_cases h : p x = true
    · rw [cover_Check.idxL, if_pos h, List.any_cons, h]
      simp
    · rw [cover_Check.idxL, if_neg h, List.any_cons, ih]
      simp [h]
set_option maxHeartbeats 4000000 in
set_option maxRecDepth 100000 in
theorem cover_Check.IndexFuncL {α : Type} (d : Kd α) (hsz : d.sz = 1) (p : α → Bool) (g : Nat) (lb : Array Value) (eg : ∀ args w, (callFunc g args).run Try.prog w = .ok (.enter g args) w)
    (A : Option Addr) (c : Nat) (xs : List α) (w : World) (hr : d.C w A xs.length xs)
    (hp : ∀ (i : Nat) (x : α) (v : Value) (W : World), xs[i]? = some x → Below w.heap.size w W → d.K W x [v] → Calls Try.prog g (#[v] ++ lb) W fun e w' => e = .returned (.bool (p x)) ∧ Below w.heap.size w w') :
    Calls Try.prog 144 #[.slice A xs.length c, .func (.func g) #[] lb] w fun e w' => e = .returned (.int .i64 (cover_Check.idxL p xs 0)) ∧ Below w.heap.size w w' := by
  have HR := Aside0.mk hr
  have hbig : xs.length ≤ 9223372036854775807 := hr.2.1
  clear hr
  go_enter Try.func144, Try.ntmps144
  go_wp2
  go_loopg [5, 8] xs.length (fun gg _ s8 wr => ∃ kk : Nat, kk ≤ xs.length ∧ xs.length - kk ≤ gg ∧ s8 = .int .i64 kk ∧ Aside0 (Below w.heap.size w wr) ∧ Aside0 (cover_Check.idxL p xs 0 = cover_Check.idxL p (xs.drop kk) kk))
  case atStart => exact ⟨0, Nat.zero_le _, by omega, rfl, ⟨Below.refl _ w⟩, ⟨rfl⟩⟩
  case round =>
    obtain ⟨kk, hkk, hg, rfl, BW, IX⟩ := hrel
    by_cases hlt : kk < xs.length
    · have hltz : (kk : Int) < (xs.length : Int) := by omega
      obtain ⟨ad, cs, hA, hcs, hK, hcell⟩ := Kd.C_get (Kd.C_below HR.out BW.out) (xs[kk]'hlt) (kk : Int) (by omega) hltz
      have hcs1 : cs.length = 1 := by rw [hcs, hsz]
      obtain ⟨v, rfl⟩ : ∃ v, cs = [v] := by
        match cs, hcs1 with
        | [v], _ => exact ⟨v, rfl⟩
      have hx : xs.getD (kk : Int).toNat (xs[kk]'hlt) = xs[kk]'hlt := by rw [Int.toNat_natCast, List.getD_eq_getElem?_getD, List.getElem?_eq_getElem hlt]; rfl
      rw [hx] at hK
      have hc0 := hcell 0 v rfl
      rw [hsz, Nat.mul_one, Nat.add_zero, Int.toNat_natCast] at hc0
      have hcall := hp kk (xs[kk]'hlt) v wr (List.getElem?_eq_getElem hlt) BW.out hK
      have IX2 := IX.out
      rw [List.drop_eq_getElem_cons hlt, cover_Check.idxL] at IX2
      have IX3 := Aside0.mk IX2
      have v1 : v.oneCell' = true := d.K_one hK v (by simp)
      clear IX IX2 hcell hK hcs hcs1 hx hp
      subst hA
      cases hq : p (xs[kk]'hlt) with
      | true =>
        rw [hq] at hcall
        have Hq := Aside0.mk hq
        clear hq
        go_wp2_with (go_at_fn g; refine hcall.mono ?_; rintro e w' ⟨rfl, hb'⟩)
        go_ret
        refine ⟨?_, hb'⟩
        rw [IX3.out, if_pos Hq.out]
        rfl
      | false =>
        rw [hq] at hcall
        have Hq := Aside0.mk hq
        clear hq
        go_wp2_with (go_at_fn g; refine hcall.mono ?_; rintro e w' ⟨rfl, hb'⟩)
        go_roundg (xs.length - (kk + 1))
        case measure => omega
        case rel =>
          exact ⟨kk + 1, by omega, by omega, by go_num, ⟨hb'⟩, ⟨by rw [IX3.out, if_neg (by rw [Hq.out]; decide)]⟩⟩
    · have hltz : ¬ (kk : Int) < (xs.length : Int) := by omega
      have hkl : xs.length ≤ kk := by omega
      go_wp2
      go_ret
      refine ⟨?_, BW.out⟩
      rw [IX.out, List.drop_of_length_le hkl, cover_Check.idxL]
      rfl
set_option maxHeartbeats 4000000 in
set_option maxRecDepth 100000 in
theorem cover_Check.ContainsFuncL {α : Type} (d : Kd α) (hsz : d.sz = 1) (p : α → Bool) (g : Nat) (lb : Array Value) (eg : ∀ args w, (callFunc g args).run Try.prog w = .ok (.enter g args) w)
    (A : Option Addr) (c : Nat) (xs : List α) (w : World) (hr : d.C w A xs.length xs)
    (hp : ∀ (i : Nat) (x : α) (v : Value) (W : World), xs[i]? = some x → Below w.heap.size w W → d.K W x [v] → Calls Try.prog g (#[v] ++ lb) W fun e w' => e = .returned (.bool (p x)) ∧ Below w.heap.size w w') :
    Calls Try.prog 92 #[.slice A xs.length c, .func (.func g) #[] lb] w fun e w' => e = .returned (.bool (xs.any p)) ∧ Below w.heap.size w w' := by
  have hX := Aside0.mk (cover_Check.IndexFuncL d hsz p g lb eg A c xs w hr hp)
  have hY := Aside0.mk (cover_Check.idxL_any p xs 0)
  clear hr hp
  go_enter Try.func92, Try.ntmps92
  go_wp2_with (go_at_call 144; refine hX.out.mono ?_; rintro e w' ⟨rfl, hb'⟩)
  go_ret
  exact ⟨by rw [← hY.out]; simp, hb'⟩
/-- what lies in blocks of the call's own, in whatever later world -/
structure cover_Check.Bx (w : World) (cs : List (Nat × Nat × Value)) (W : World) : Prop where
  below : Below w.heap.size w W
  cell : ∀ p ∈ cs, p.1 < W.heap.size ∧ W.cell? ⟨p.1, p.2.1, none⟩ = some p.2.2
theorem cover_Check.Bx.step {w W W' : World} {cs : List (Nat × Nat × Value)} (h : cover_Check.Bx w cs W) (hb : Below W.heap.size W W') : cover_Check.Bx w cs W' :=
  ⟨below_step h.below hb, fun p hp => ⟨Nat.lt_of_lt_of_le (h.cell p hp).1 hb.size, (hb.cell (p := ⟨p.1, p.2.1, none⟩) (h.cell p hp).1).trans (h.cell p hp).2⟩⟩
theorem cover_Check.Bx.at {w W : World} {cs : List (Nat × Nat × Value)} (h : cover_Check.Bx w cs W) (i : Nat) {b o : Nat} {v : Value} (hi : cs[i]? = some (b, o, v)) : W.cell? ⟨b, o, none⟩ = some v :=
  (h.cell (b, o, v) (List.mem_of_getElem? hi)).2
set_option maxHeartbeats 4000000 in
set_option maxRecDepth 100000 in
theorem cover_Check.clolen (b : Nat) (base : Int) (x : List Int) (A : Option Addr) (c : Nat) (W : World) (hc : W.cell? ⟨b, 0, none⟩ = some (.int .i64 base)) :
    Calls Try.prog 93 #[.slice A x.length c, .pointer (some ⟨b, 0, none⟩)] W fun e W' => e = .returned (.bool (decide ((x.length : Int) ≠ base))) ∧ Below W.heap.size W W' := by
  by_cases h : (x.length : Int) = base
  · have c1 : ((x.length : Int) != base) = false := by rw [bne_eq_false_iff_eq]; exact h
    have c2 := Aside0.mk h
    clear h
    go_enter Try.func93, Try.ntmps93
    go_wp2
    go_ret
    exact ⟨by simp [c2.out], Below.refl _ _⟩
  · have c1 : ((x.length : Int) != base) = true := by rw [bne_iff_ne]; exact h
    have c2 := Aside0.mk h
    clear h
    go_enter Try.func93, Try.ntmps93
    go_wp2
    go_ret
    exact ⟨by simp [c2.out], Below.refl _ _⟩
def cover_Check.bey (most x : Int) : Bool := decide (x < 0) || decide (x > most)
set_option maxHeartbeats 4000000 in
set_option maxRecDepth 100000 in
theorem cover_Check.clo (b : Nat) (n : Int) (x : Int) (W : World) (hc : W.cell? ⟨b, 0, none⟩ = some (.int .i64 n)) :
    Calls Try.prog 145 #[.int .i64 x, .pointer (some ⟨b, 0, none⟩)] W fun e W' => e = .returned (.bool (cover_Check.bey n x)) ∧ Below W.heap.size W W' := by
  have hs : ∀ y, y = cover_Check.bey n x → Aside0 (cover_Check.bey n x = y) := fun y hy => ⟨hy.symm⟩
  by_cases h : x < 0
  · have H := hs true (by unfold cover_Check.bey; simp [h])
    go_enter Try.func145, Try.ntmps145
    go_wp2
    go_ret
    exact ⟨by rw [H.out]; simp, Below.refl _ _⟩
  · by_cases h2 : n < x
    · have H := hs true (by unfold cover_Check.bey; simp [h2])
      go_enter Try.func145, Try.ntmps145
      go_wp2
      go_ret
      exact ⟨by rw [H.out]; simp, Below.refl _ _⟩
    · have H := hs false (by unfold cover_Check.bey; simp [h]; omega)
      go_enter Try.func145, Try.ntmps145
      go_wp2
      go_ret
      exact ⟨by rw [H.out]; simp, Below.refl _ _⟩
def cover_Check.bf (l0 : List Int) (a1 : Int) : Option (Bool) := some (l0.any (cover_Check.bey a1))
set_option maxHeartbeats 4000000 in
set_option maxRecDepth 100000 in
theorem cover_Check.bcalls (A0 : Option Addr) (c0 : Nat) (l0 : List Int) (a1 : Int) (r : Bool) (w : World) (hr0 : Kd.C (Kd.int .i64) w A0 l0.length l0) (hc0 : l0.length ≤ c0) (h : cover_Check.bf l0 a1 = some r) :
    Calls Try.prog 95 #[.slice A0 l0.length c0, .int .i64 a1] w fun e w' => e = .returned (.bool r) ∧ Below w.heap.size w w' := by
  have HR0 := Aside0.mk hr0
  clear hr0
  obtain rfl := Option.some.inj h
  clear h
  have e60 : ∀ args w, (callFunc 145 args).run Try.prog w = .ok (.enter 145 args) w := enters_of Try.func145 (by kernel_rfl) rfl
  go_enter Try.func95, Try.ntmps95
  go_wp2_with fail
  refine (cover_Check.ContainsFuncI (Kd.int .i64) rfl (cover_Check.bey a1) 145 #[.pointer (some ⟨w.heap.size, 0, none⟩)] e60 A0 c0 l0 _ (Kd.C_alloc HR0.out _) (by
    intro i x v W _ hb hK
    have hv : v = .int .i64 x := by injection hK
    subst hv
    exact (cover_Check.clo w.heap.size a1 x W ((hb.cell (p := ⟨w.heap.size, 0, none⟩) (by simp)).trans (by go_simp))).mono fun e w' ⟨he, hb'⟩ => ⟨he, below_step hb hb'⟩)).mono ?_
  rintro e w1 ⟨rfl, hb1⟩
  go_wp2_with fail
  go_ret
  exact ⟨rfl, below_step (by repeat (first | exact Below.refl _ _ | apply below_alloc)) hb1⟩

set_option maxHeartbeats 4000000 in
set_option maxRecDepth 100000 in
theorem cover_Check.clobey (x : List Int) (A : Option Addr) (c : Nat) (hxc : x.length ≤ c) (W : World) (hr : (Kd.int .i64).C W A x.length x) :
    Calls Try.prog 94 #[.slice A x.length c] W fun e W' => e = .returned (.bool (x.any (cover_Check.bey 2))) ∧ Below W.heap.size W W' := by
  have H := Aside0.mk (cover_Check.bcalls A c x 2 _ W hr hxc rfl)
  clear hr
  go_enter Try.func94, Try.ntmps94
  go_wp2_with fail
  refine H.out.mono ?_
  rintro e w1 ⟨rfl, hb1⟩
  go_wp2_with fail
  go_ret
  exact ⟨rfl, hb1⟩
def cover_Check.v (a : Int) (l1 l2 : List (List Int)) : Int :=
  if a < 1 ∨ a > 4 ∨ l1.length > 8 then 1 else if l2.length ≠ l1.length then 3 else if (l1 ++ l2).any (fun x => decide ((x.length : Int) ≠ a)) = true then 3
  else if (l1 ++ l2).any (fun x => x.any (cover_Check.bey 2)) = true then 2 else 0
def cover_Check.f (a0_0 : Int) (l0_1 : List (List Int)) (l0_2 : List (List Int)) : Option (Int) := some (cover_Check.v a0_0 l0_1 l0_2)
set_option maxHeartbeats 16000000 in
set_option maxRecDepth 100000 in
theorem cover_Check.calls (a0_0 : Int) (A0_1 : Option Addr) (c0_1 : Nat) (l0_1 : List (List Int)) (A0_2 : Option Addr) (c0_2 : Nat) (l0_2 : List (List Int)) (r : Int) (w : World) (hr0_1 : Kd.C (Kd.slice 3 (Kd.int .i64)) w A0_1 l0_1.length l0_1) (hc0_1 : l0_1.length ≤ c0_1) (hr0_2 : Kd.C (Kd.slice 3 (Kd.int .i64)) w A0_2 l0_2.length l0_2) (hc0_2 : l0_2.length ≤ c0_2) (h : cover_Check.f a0_0 l0_1 l0_2 = some r) :
    Calls Try.prog 31 #[.agg #[.int .i64 a0_0, .slice A0_1 l0_1.length c0_1, .slice A0_2 l0_2.length c0_2]] w fun e w' => e = .returned (.int .i64 r) ∧ Below w.heap.size w w' := by
  have HR1 := Aside0.mk hr0_1
  have HR2 := Aside0.mk hr0_2
  have HC1 := Aside0.mk hc0_1
  have HC2 := Aside0.mk hc0_2
  clear hr0_1 hr0_2 hc0_1 hc0_2
  obtain rfl := Option.some.inj h
  clear h
  have HV : ∀ y, cover_Check.v a0_0 l0_1 l0_2 = y → Aside0 (y = cover_Check.v a0_0 l0_1 l0_2) := fun y hy => ⟨hy.symm⟩
  by_cases p1 : a0_0 < 1
  · have H := HV 1 (by unfold cover_Check.v; rw [if_pos (.inl p1)])
    clear HV
    go_enter Try.func31, Try.ntmps31
    go_wp2
    go_ret
    exact ⟨by rw [← H.out]; rfl, by repeat (first | exact Below.refl _ _ | apply below_alloc)⟩
  by_cases p2 : 4 < a0_0
  · have H := HV 1 (by unfold cover_Check.v; rw [if_pos (.inr (.inl p2))])
    clear HV
    go_enter Try.func31, Try.ntmps31
    go_wp2
    go_ret
    exact ⟨by rw [← H.out]; rfl, by repeat (first | exact Below.refl _ _ | apply below_alloc)⟩
  by_cases p3 : 8 < l0_1.length
  · have H := HV 1 (by unfold cover_Check.v; rw [if_pos (.inr (.inr p3))])
    clear HV
    go_enter Try.func31, Try.ntmps31
    go_wp2
    go_ret
    exact ⟨by rw [← H.out]; rfl, by repeat (first | exact Below.refl _ _ | apply below_alloc)⟩
  by_cases p4 : l0_2.length ≠ l0_1.length
  · have H := HV 3 (by unfold cover_Check.v; rw [if_neg (by omega), if_pos p4])
    have c1 : ((l0_2.length : Int) != (l0_1.length : Int)) = true := by rw [bne_iff_ne]; omega
    have P4 := Aside0.mk p4
    clear HV p4
    go_enter Try.func31, Try.ntmps31
    go_wp2
    go_ret
    exact ⟨by rw [← H.out]; rfl, by repeat (first | exact Below.refl _ _ | apply below_alloc)⟩
  have p4' : l0_2.length = l0_1.length := Decidable.of_not_not p4
  have HL := Aside0.mk p4'
  have hlen : l0_2.length ≤ 8 := by omega
  have c1 : ((l0_2.length : Int) != (l0_1.length : Int)) = false := by rw [bne_eq_false_iff_eq]; omega
  clear p4 p4'
  have HN := Aside0.mk (show ([l0_1, l0_2] : List (List (List Int))).flatten.length ≤ 1000000 by simp; omega)
  obtain ⟨rows, hrw⟩ : ∃ rows, l0_1 ++ l0_2 = rows := ⟨_, rfl⟩
  have HW := Aside0.mk hrw
  have HF := Aside0.mk (show ([l0_1, l0_2] : List (List (List Int))).flatten = rows by rw [← hrw]; simp)
  clear hrw
  have e60 : ∀ args w, (callFunc 93 args).run Try.prog w = .ok (.enter 93 args) w := enters_of Try.func93 (by kernel_rfl) rfl
  have e61 : ∀ args w, (callFunc 94 args).run Try.prog w = .ok (.enter 94 args) w := enters_of Try.func94 (by kernel_rfl) rfl
  
  have hlit : (Kd.slice 32 (Kd.slice 3 (Kd.int .i64))).C ((w.alloc (.cells #[.int .i64 a0_0, .slice A0_1 l0_1.length c0_1, .slice A0_2 l0_2.length c0_2] 62)).alloc (.cells #[.slice A0_1 l0_1.length c0_1, .slice A0_2 l0_2.length c0_2] 31)) (some ⟨w.heap.size + 1, 0, none⟩) ([l0_1, l0_2] : List (List (List Int))).length [l0_1, l0_2] := by
    refine ⟨rfl, by simp, fun _ => ⟨⟨w.heap.size + 1, 0, none⟩, rfl, fun j p hj => ?_⟩⟩
    match j, hj with
    | 0, hj =>
      obtain rfl : l0_1 = p := by simpa using hj
      refine ⟨_, rfl, ⟨A0_1, c0_1, rfl, HC1.out, Kd.C_alloc (Kd.C_alloc HR1.out _) _⟩, fun i u hu => ?_⟩
      match i, hu with
      | 0, hu =>
        obtain rfl := Option.some.inj hu
        show _ = some (Value.slice A0_1 l0_1.length c0_1)
        first | (go_simp; done) | (go_simp; rfl)
      | i + 1, hu => simp at hu
    | 1, hj =>
      obtain rfl : l0_2 = p := by simpa using hj
      refine ⟨_, rfl, ⟨A0_2, c0_2, rfl, HC2.out, Kd.C_alloc (Kd.C_alloc HR2.out _) _⟩, fun i u hu => ?_⟩
      match i, hu with
      | 0, hu =>
        obtain rfl := Option.some.inj hu
        show _ = some (Value.slice A0_2 l0_2.length c0_2)
        first | (go_simp; done) | (go_simp; rfl)
      | i + 1, hu => simp at hu
    | j + 2, hj => simp at hj
  have HLIT := Aside0.mk hlit
  clear hlit
  cases p6 : rows.any (fun x : List Int => decide ((x.length : Int) ≠ a0_0)) with
  | true =>
    have H := HV 3 (by unfold cover_Check.v; rw [HW.out, if_neg (by omega), if_neg (by have := HL.out; omega), if_pos p6])
    have P6 := Aside0.mk p6
    clear HV p6
    go_enter Try.func31, Try.ntmps31
    go_wp2_with fail
    refine (cover_Check.ConcatL (Kd.slice 3 (Kd.int .i64)) rfl 32 (some ⟨w.heap.size + 1, 0, none⟩) 2 [l0_1, l0_2] _ HLIT.out HN.out).mono ?_
    rintro e w1 ⟨v1, vals1, rfl, hv1, hl1, hk1, hb1⟩
    rw [HF.out] at hl1 hk1
    obtain ⟨A3, c3, rfl, hC3⟩ := cover_Check.rawCL (Kd.slice 3 (Kd.int .i64)) rfl hv1 hl1 hk1
    have HC3 := Aside0.mk hC3
    have HX := Aside0.mk (show cover_Check.Bx w [(w.heap.size, 0, .int .i64 a0_0)] w1 from
      cover_Check.Bx.step ⟨by repeat (first | exact Below.refl _ _ | apply below_alloc), by
        simp only [List.forall_mem_cons, List.not_mem_nil, false_imp_iff, implies_true, and_true]
        exact ⟨by simp; omega, by go_simp⟩⟩ hb1)
    have b0 := HX.out.at 0 rfl
    clear hv1 hl1 hk1 hC3 hb1
    go_wp2_with fail
    refine (cover_Check.ContainsFuncL (Kd.slice 3 (Kd.int .i64)) rfl (fun x : List Int => decide ((x.length : Int) ≠ a0_0)) 93 #[.pointer (some ⟨w.heap.size, 0, none⟩)] e60 A3 c3 rows w1 HC3.out (by
      intro i x v W _ hb hK
      obtain ⟨A, c, hv, _, hC⟩ := hK
      injection hv with hv
      subst hv
      have h0 := HX.out.cell (w.heap.size, 0, .int .i64 a0_0) (by simp)
      exact (cover_Check.clolen w.heap.size a0_0 x A c W ((hb.cell (p := ⟨w.heap.size, 0, none⟩) h0.1).trans h0.2)).mono fun e w' ⟨he, hb'⟩ => ⟨he, below_step hb hb'⟩)).mono ?_
    rintro e w2 ⟨rfl, hb2⟩
    rw [P6.out]
    have HX2 := Aside0.mk (HX.out.step hb2)
    have HB12 := Aside0.mk hb2
    clear hb2 b0
    go_wp2_with fail
    go_ret
    exact ⟨by rw [← H.out]; rfl, HX2.out.below⟩
  | false =>
    have hno : ¬ (rows.any (fun x : List Int => decide ((x.length : Int) ≠ a0_0)) = true) := by rw [p6]; simp
    have P6 := Aside0.mk p6
    have HS := Aside0.mk hno
    clear p6 hno
    cases p7 : rows.any (fun x : List Int => x.any (cover_Check.bey 2)) with
    | true =>
      have H := HV 2 (by unfold cover_Check.v; rw [HW.out, if_neg (by omega), if_neg (by have := HL.out; omega), if_neg HS.out, if_pos p7])
      have P7 := Aside0.mk p7
      clear HV p7
      go_enter Try.func31, Try.ntmps31
      go_wp2_with fail
      refine (cover_Check.ConcatL (Kd.slice 3 (Kd.int .i64)) rfl 32 (some ⟨w.heap.size + 1, 0, none⟩) 2 [l0_1, l0_2] _ HLIT.out HN.out).mono ?_
      rintro e w1 ⟨v1, vals1, rfl, hv1, hl1, hk1, hb1⟩
      rw [HF.out] at hl1 hk1
      obtain ⟨A3, c3, rfl, hC3⟩ := cover_Check.rawCL (Kd.slice 3 (Kd.int .i64)) rfl hv1 hl1 hk1
      have HC3 := Aside0.mk hC3
      have HX := Aside0.mk (show cover_Check.Bx w [(w.heap.size, 0, .int .i64 a0_0)] w1 from
        cover_Check.Bx.step ⟨by repeat (first | exact Below.refl _ _ | apply below_alloc), by
          simp only [List.forall_mem_cons, List.not_mem_nil, false_imp_iff, implies_true, and_true]
          exact ⟨by simp; omega, by go_simp⟩⟩ hb1)
      have b0 := HX.out.at 0 rfl
      clear hv1 hl1 hk1 hC3 hb1
      go_wp2_with fail
      refine (cover_Check.ContainsFuncL (Kd.slice 3 (Kd.int .i64)) rfl (fun x : List Int => decide ((x.length : Int) ≠ a0_0)) 93 #[.pointer (some ⟨w.heap.size, 0, none⟩)] e60 A3 c3 rows w1 HC3.out (by
        intro i x v W _ hb hK
        obtain ⟨A, c, hv, _, hC⟩ := hK
        injection hv with hv
        subst hv
        have h0 := HX.out.cell (w.heap.size, 0, .int .i64 a0_0) (by simp)
        exact (cover_Check.clolen w.heap.size a0_0 x A c W ((hb.cell (p := ⟨w.heap.size, 0, none⟩) h0.1).trans h0.2)).mono fun e w' ⟨he, hb'⟩ => ⟨he, below_step hb hb'⟩)).mono ?_
      rintro e w2 ⟨rfl, hb2⟩
      rw [P6.out]
      have HX2 := Aside0.mk (HX.out.step hb2)
      have HB12 := Aside0.mk hb2
      clear hb2 b0
      go_wp2_with fail
      refine (cover_Check.ContainsFuncL (Kd.slice 3 (Kd.int .i64)) rfl (fun x : List Int => x.any (cover_Check.bey 2)) 94 #[] e61 A3 c3 rows w2 (Kd.C_below HC3.out HB12.out) (by
        intro i x v W _ hb hK
        obtain ⟨A, c, hv, hxc, hC⟩ := hK
        injection hv with hv
        subst hv
        exact (cover_Check.clobey x A c hxc W hC).mono fun e w' ⟨he, hb'⟩ => ⟨he, below_step hb hb'⟩)).mono ?_
      rintro e w3 ⟨rfl, hb3⟩
      rw [P7.out]
      have HX3 := Aside0.mk (HX2.out.step hb3)
      clear hb3
      go_wp2_with fail
      go_ret
      exact ⟨by rw [← H.out]; rfl, HX3.out.below⟩
    | false =>
      have H := HV 0 (by unfold cover_Check.v; rw [HW.out, if_neg (by omega), if_neg (by have := HL.out; omega), if_neg HS.out, if_neg (by rw [p7]; simp)])
      have P7 := Aside0.mk p7
      clear HV p7
      go_enter Try.func31, Try.ntmps31
      go_wp2_with fail
      refine (cover_Check.ConcatL (Kd.slice 3 (Kd.int .i64)) rfl 32 (some ⟨w.heap.size + 1, 0, none⟩) 2 [l0_1, l0_2] _ HLIT.out HN.out).mono ?_
      rintro e w1 ⟨v1, vals1, rfl, hv1, hl1, hk1, hb1⟩
      rw [HF.out] at hl1 hk1
      obtain ⟨A3, c3, rfl, hC3⟩ := cover_Check.rawCL (Kd.slice 3 (Kd.int .i64)) rfl hv1 hl1 hk1
      have HC3 := Aside0.mk hC3
      have HX := Aside0.mk (show cover_Check.Bx w [(w.heap.size, 0, .int .i64 a0_0)] w1 from
        cover_Check.Bx.step ⟨by repeat (first | exact Below.refl _ _ | apply below_alloc), by
          simp only [List.forall_mem_cons, List.not_mem_nil, false_imp_iff, implies_true, and_true]
          exact ⟨by simp; omega, by go_simp⟩⟩ hb1)
      have b0 := HX.out.at 0 rfl
      clear hv1 hl1 hk1 hC3 hb1
      go_wp2_with fail
      refine (cover_Check.ContainsFuncL (Kd.slice 3 (Kd.int .i64)) rfl (fun x : List Int => decide ((x.length : Int) ≠ a0_0)) 93 #[.pointer (some ⟨w.heap.size, 0, none⟩)] e60 A3 c3 rows w1 HC3.out (by
        intro i x v W _ hb hK
        obtain ⟨A, c, hv, _, hC⟩ := hK
        injection hv with hv
        subst hv
        have h0 := HX.out.cell (w.heap.size, 0, .int .i64 a0_0) (by simp)
        exact (cover_Check.clolen w.heap.size a0_0 x A c W ((hb.cell (p := ⟨w.heap.size, 0, none⟩) h0.1).trans h0.2)).mono fun e w' ⟨he, hb'⟩ => ⟨he, below_step hb hb'⟩)).mono ?_
      rintro e w2 ⟨rfl, hb2⟩
      rw [P6.out]
      have HX2 := Aside0.mk (HX.out.step hb2)
      have HB12 := Aside0.mk hb2
      clear hb2 b0
      go_wp2_with fail
      refine (cover_Check.ContainsFuncL (Kd.slice 3 (Kd.int .i64)) rfl (fun x : List Int => x.any (cover_Check.bey 2)) 94 #[] e61 A3 c3 rows w2 (Kd.C_below HC3.out HB12.out) (by
        intro i x v W _ hb hK
        obtain ⟨A, c, hv, hxc, hC⟩ := hK
        injection hv with hv
        subst hv
        exact (cover_Check.clobey x A c hxc W hC).mono fun e w' ⟨he, hb'⟩ => ⟨he, below_step hb hb'⟩)).mono ?_
      rintro e w3 ⟨rfl, hb3⟩
      rw [P7.out]
      have HX3 := Aside0.mk (HX2.out.step hb3)
      clear hb3
      go_wp2_with fail
      go_ret
      exact ⟨by rw [← H.out]; rfl, HX3.out.below⟩

/-! ### evermoreref19_row: function 96 -/
def evermoreref19_row.l0 : Nat → List Int → Int → Int → Option (Int)
  | 0, _, _, _ => none
  | k + 1, x0, x2, x7 => if x7 < (x0.length : Int) then (if 0 ≤ x7 then (if (rd x0 x7) < 0 then (some 2) else (if (rd x0 x7) > x2 then (some 2) else (evermoreref19_row.l0 k x0 x2 (wrap64 (x7 + 1))))) else (none)) else (some 0)
def evermoreref19_row.f (k : Nat) (l0 : List Int) (a1 : Int) (a2 : Int) : Option (Int) := if (l0.length : Int) = a1 then (evermoreref19_row.l0 k l0 a2 0) else (some 3)
theorem evermoreref19_row.mono_l : ∀ k, (∀ y0 y1 y2, LeO (evermoreref19_row.l0 k y0 y1 y2) (evermoreref19_row.l0 (k + 1) y0 y1 y2))
  | 0 => fun _ _ _ r h => by simp [evermoreref19_row.l0] at h
  | k + 1 => by
    have ih0 := evermoreref19_row.mono_l k
    · intro y0 y1 y2
      unfold evermoreref19_row.l0
      repeat' first
      | (with_reducible exact ih0 _ _ _)
      | (with_reducible exact LeO.refl _)
      | (with_reducible exact LeO.none _)
      | (with_reducible refine LeO.ite ?_ ?_)
      | (with_reducible refine LeO.bind ?_ (fun _ => ?_))
      | exact ih0 _ _ _
      | exact LeO.none _
      | refine LeO.ite ?_ ?_
      | refine LeO.bind ?_ (fun _ => ?_)
theorem evermoreref19_row.mono : ∀ a0 a1 a2 k, LeO (evermoreref19_row.f k a0 a1 a2) (evermoreref19_row.f (k + 1) a0 a1 a2) := by
  intro a0 a1 a2 k
  have ih0 := evermoreref19_row.mono_l k
  unfold evermoreref19_row.f
  repeat' first
      | (with_reducible exact ih0 _ _ _)
      | (with_reducible exact LeO.refl _)
      | (with_reducible exact LeO.none _)
      | (with_reducible refine LeO.ite ?_ ?_)
      | (with_reducible refine LeO.bind ?_ (fun _ => ?_))
      | exact ih0 _ _ _
      | exact LeO.none _
      | refine LeO.ite ?_ ?_
      | refine LeO.bind ?_ (fun _ => ?_)
set_option maxHeartbeats 8000000 in
set_option maxRecDepth 100000 in
theorem evermoreref19_row.calls (k : Nat) (A0 : Option Addr) (c0 : Nat) (l0 : List Int) (a1 : Int) (a2 : Int) (r : Int) (w : World) (hr0 : Kd.C (Kd.int .i64) w A0 l0.length l0) (hc0 : l0.length ≤ c0) (h : evermoreref19_row.f k l0 a1 a2 = some r) :
    Calls Try.prog 96 #[.slice A0 l0.length c0, .int .i64 a1, .int .i64 a2] w fun e w' => e = .returned (.int .i64 r) ∧ Drawn0 w w' := by
  have HR0 := Aside0.mk hr0
  have HC0 := Aside0.mk hc0
  clear hr0 hc0
  have H : (if (l0.length : Int) = a1 then (evermoreref19_row.l0 k l0 a2 0) else (some 3)) = some r := h
  clear h
  by_cases c4 : (l0.length : Int) = a1
  · rw [if_pos c4] at H
    have c4b0 : ((l0.length : Int) == a1) = true := beq_iff_eq.mpr c4
    have c4b1 : ((l0.length : Int) != a1) = false := bne_eq_false_iff_eq.mpr c4
    clear c4
    have H' := Aside0.mk H
    clear H
    go_enter Try.func96, Try.ntmps96
    go_wp2
    go_loopg [7] k (fun kq v7 w' => ∃ (x7_1 : Int), v7 = .int .i64 x7_1 ∧ Aside0 (evermoreref19_row.l0 kq l0 a2 x7_1 = some r) ∧ Aside0 (kq ≤ k) ∧ Drawn0 w w')
    case atStart => exact ⟨(0), (by first | rfl | (simp; done) | (simp [*]; done)), H', ⟨Nat.le_refl _⟩, by repeat (first | exact Drawn0.refl _ | apply Drawn0.step)⟩
    case round =>
      clear H'
      try clear p2
      try clear c4
      try clear c4b0
      try clear c4b1
      obtain ⟨x7_1, rfl, HA, HK1, ⟨m1, rfl⟩⟩ := hrel
      cases gk with
      | zero => exact absurd HA.out (by simp [evermoreref19_row.l0])
      | succ k1 =>
        have H := HA.out
        clear HA
        simp only [evermoreref19_row.l0] at H
        by_cases c5 : x7_1 < (l0.length : Int)
        · rw [if_pos c5] at H
          have c5b0 : decide (x7_1 < (l0.length : Int)) = true := decide_eq_true c5
          clear c5
          by_cases c6 : 0 ≤ x7_1
          · rw [if_pos c6] at H
            have c6b0 : decide (0 ≤ x7_1) = true := decide_eq_true c6
            clear c6
            by_cases c7 : (rd l0 x7_1) < 0
            · rw [if_pos c7] at H
              have c7b0 : decide ((rd l0 x7_1) < 0) = true := decide_eq_true c7
              clear c7
              obtain rfl := Option.some.inj H
              have p102 : 0 ≤ (x7_1 : Int) := of_decide_eq_true (by first | (with_reducible assumption) | assumption)
              have q102 : x7_1 < (l0.length : Int) := of_decide_eq_true (by first | (with_reducible assumption) | assumption)
              obtain ⟨ad102, e102, hx102_0⟩ := Kd.at_int HR0.out x7_1 p102 q102
              cases e102
              replace p102 := eq_true p102
              replace q102 := eq_true q102
              go_wp2
              go_ret
              exact ⟨by first | rfl | (simp; done) | (simp [*]; done), by repeat (first | exact Drawn0.refl _ | apply Drawn0.step)⟩
            · rw [if_neg c7] at H
              have c7b0 : decide ((rd l0 x7_1) < 0) = false := decide_eq_false c7
              clear c7
              by_cases c8 : (rd l0 x7_1) > a2
              · rw [if_pos c8] at H
                have c8b0 : decide (a2 < (rd l0 x7_1)) = true := decide_eq_true c8
                clear c8
                obtain rfl := Option.some.inj H
                have p102 : 0 ≤ (x7_1 : Int) := of_decide_eq_true (by first | (with_reducible assumption) | assumption)
                have q102 : x7_1 < (l0.length : Int) := of_decide_eq_true (by first | (with_reducible assumption) | assumption)
                obtain ⟨ad102, e102, hx102_0⟩ := Kd.at_int HR0.out x7_1 p102 q102
                cases e102
                replace p102 := eq_true p102
                replace q102 := eq_true q102
                have p103 : 0 ≤ (x7_1 : Int) := of_decide_eq_true (by first | (with_reducible assumption) | assumption)
                have q103 : x7_1 < (l0.length : Int) := of_decide_eq_true (by first | (with_reducible assumption) | assumption)
                obtain ⟨ad103, e103, hx103_0⟩ := Kd.at_int HR0.out x7_1 p103 q103
                obtain rfl : ad102 = ad103 := (by injection e103)
                replace p103 := eq_true p103
                replace q103 := eq_true q103
                go_wp2
                go_ret
                exact ⟨by first | rfl | (simp; done) | (simp [*]; done), by repeat (first | exact Drawn0.refl _ | apply Drawn0.step)⟩
              · rw [if_neg c8] at H
                have c8b0 : decide (a2 < (rd l0 x7_1)) = false := decide_eq_false c8
                clear c8
                have H' := Aside0.mk H
                clear H
                have p102 : 0 ≤ (x7_1 : Int) := of_decide_eq_true (by first | (with_reducible assumption) | assumption)
                have q102 : x7_1 < (l0.length : Int) := of_decide_eq_true (by first | (with_reducible assumption) | assumption)
                obtain ⟨ad102, e102, hx102_0⟩ := Kd.at_int HR0.out x7_1 p102 q102
                cases e102
                replace p102 := eq_true p102
                replace q102 := eq_true q102
                have p103 : 0 ≤ (x7_1 : Int) := of_decide_eq_true (by first | (with_reducible assumption) | assumption)
                have q103 : x7_1 < (l0.length : Int) := of_decide_eq_true (by first | (with_reducible assumption) | assumption)
                obtain ⟨ad103, e103, hx103_0⟩ := Kd.at_int HR0.out x7_1 p103 q103
                obtain rfl : ad102 = ad103 := (by injection e103)
                replace p103 := eq_true p103
                replace q103 := eq_true q103
                go_wp2
                go_roundg k1
                case measure => have := HK1.out; omega
                case rel => exact ⟨(wrap64 (x7_1 + 1)), (by first | rfl | (simp; done) | (simp [*]; done)), H', ⟨by have := HK1.out; omega⟩, by repeat (first | exact Drawn0.refl _ | apply Drawn0.step)⟩
          · rw [if_neg c6] at H
            exact absurd H (by simp)
        · rw [if_neg c5] at H
          have c5b0 : decide (x7_1 < (l0.length : Int)) = false := decide_eq_false c5
          clear c5
          obtain rfl := Option.some.inj H
          go_wp2
          go_ret
          exact ⟨by first | rfl | (simp; done) | (simp [*]; done), by repeat (first | exact Drawn0.refl _ | apply Drawn0.step)⟩
  · rw [if_neg c4] at H
    have c4b0 : ((l0.length : Int) == a1) = false := beq_eq_false_iff_ne.mpr c4
    have c4b1 : ((l0.length : Int) != a1) = true := bne_iff_ne.mpr c4
    obtain rfl := Option.some.inj H
    go_enter Try.func96, Try.ntmps96
    go_wp2
    go_ret
    exact ⟨by first | rfl | (simp; done) | (simp [*]; done), by repeat (first | exact Drawn0.refl _ | apply Drawn0.step)⟩

end Go.Proofs.Ytklkcdphcmimoaa.PCoverFires
