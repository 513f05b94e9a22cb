/- A call by templates obeys its contract. -/
import Derived.Test.YtfkilmmldjajmaaSxN
namespace Go.Proofs.YtfkilmmldjajmaaSx
open Go
set_option linter.unusedVariables false
set_option linter.unusedSimpArgs false

theorem foundList_spec {F : Found} : ∀ {n i : Nat} {l : List Nat}, foundList F n i = some l → l.length = n ∧ ∀ (j : Nat) c, l[j]? = some c → assoc (i + j) F = some (some c)
  | 0, i, l, h => by simp only [foundList, Option.some.injEq] at h; subst h; exact ⟨rfl, fun j c hj => by simp at hj⟩
  | n + 1, i, l, h => by
    simp only [foundList] at h
    split at h
    · rename_i c hc
      split at h
      · rename_i l' hl
        cases h
        obtain ⟨h1, h2⟩ := foundList_spec hl
        refine ⟨by simp [h1], fun j d hj => ?_⟩
        cases j with
        | zero => simp at hj; subst hj; exact hc
        | succ j => simp at hj; rw [show i + (j + 1) = i + 1 + j by omega]; exact h2 j d hj
      · cases h
    · cases h

theorem foundList_nodup {F : Found} {n k : Nat} {z l : List Nat} (hF : foundOk k z F = true) (h : foundList F n 0 = some l) : l.Nodup := by
  obtain ⟨_, h2⟩ := foundList_spec h
  unfold List.Nodup
  rw [List.pairwise_iff_getElem]
  intro i j hi hj hij hne
  have e1 := h2 i _ (List.getElem?_eq_getElem hi)
  have e2 := h2 j _ (List.getElem?_eq_getElem hj)
  rw [hne] at e1
  rw [Nat.zero_add] at e1 e2
  have := foundOk_inj hF i j _ (assoc_mem e1) (assoc_mem e2)
  omega

theorem place_len : ∀ (l : List Nat) (X Y : List Chunk), X.length ≤ (place X l Y).length
  | l, X, Y => by
    rw [place_eq]
    induction l generalizing X Y with
    | nil => cases Y <;> simp [placeG]
    | cons c l ih =>
      cases Y with
      | nil => simp [placeG]
      | cons y Y => simp only [placeG]; have := ih (X.set c y) Y; simpa using this

theorem settleV_stat (cs : List Chunk) (s : SV) : cs.length ≤ (settleV cs s).2.1.length ∧ ∀ c, c < cs.length → c ∉ (settleV cs s).2.2 → (settleV cs s).2.1[c]? = cs[c]? := by
  have same : (settleV cs s) = (s, cs, []) → cs.length ≤ (settleV cs s).2.1.length ∧ ∀ c, c < cs.length → c ∉ (settleV cs s).2.2 → (settleV cs s).2.1[c]? = cs[c]? := by
    intro h
    rw [h]
    exact ⟨Nat.le_refl _, fun _ _ _ => rfl⟩
  cases s with
  | sub c lo n =>
    cases hc : cs[c]? with
    | none => exact same (by simp only [settleV, nth_eq, hc])
    | some ch =>
      cases ch with
      | own t L =>
        have e : settleV cs (.sub c lo n) = (.own cs.length, cs.set c .gone ++ [.own t (List.take n (List.drop lo L))], [c]) := by
          simp only [settleV, nth_eq, hc, lenL_eq, app_eq, setNth_eq]
        rw [e]
        refine ⟨by simp, fun d hd hn => ?_⟩
        simp at hn
        rw [List.getElem?_append_left (by simpa using hd), List.getElem?_set_ne (fun e => hn e.symm)]
      | _ => exact same (by simp only [settleV, nth_eq, hc])
  | _ => exact same (by simp only [settleV])

theorem settleS_stat : ∀ (l : List (Nat × KS)) (st : St), st.chunks.length ≤ (settleS l st).chunks.length ∧ ∀ c, c < st.chunks.length → c ∉ settleZ l st → (settleS l st).chunks[c]? = st.chunks[c]?
  | [], st => ⟨Nat.le_refl _, fun _ _ _ => rfl⟩
  | (n, k) :: l, st => by
    have skip : settleS ((n, k) :: l) st = settleS l st → settleZ ((n, k) :: l) st = settleZ l st → st.chunks.length ≤ (settleS ((n, k) :: l) st).chunks.length ∧ ∀ c, c < st.chunks.length → c ∉ settleZ ((n, k) :: l) st → (settleS ((n, k) :: l) st).chunks[c]? = st.chunks[c]? := by
      intro h1 h2
      rw [h1, h2]
      exact settleS_stat l st
    cases k with
    | own i =>
      cases hsub : isSub (st.get n) with
      | false => exact skip (by simp only [settleS, hsub]) (by simp only [settleZ, hsub])
      | true =>
        have e1 : settleS ((n, .own i) :: l) st = settleS l ⟨(n, (settleV st.chunks (st.get n)).1) :: st.slots, (settleV st.chunks (st.get n)).2.1⟩ := by simp only [settleS, hsub]
        have e2 : settleZ ((n, .own i) :: l) st = app (settleV st.chunks (st.get n)).2.2 (settleZ l ⟨(n, (settleV st.chunks (st.get n)).1) :: st.slots, (settleV st.chunks (st.get n)).2.1⟩) := by simp only [settleZ, hsub]
        rw [e1, e2]
        obtain ⟨h2, h3⟩ := settleV_stat st.chunks (st.get n)
        obtain ⟨q2, q3⟩ := settleS_stat l ⟨(n, (settleV st.chunks (st.get n)).1) :: st.slots, (settleV st.chunks (st.get n)).2.1⟩
        refine ⟨Nat.le_trans h2 q2, fun c hc hn => ?_⟩
        rw [app_eq, List.mem_append, not_or] at hn
        rw [q3 c (Nat.lt_of_lt_of_le hc h2) hn.2]
        exact h3 c hc hn.1
    | _ => exact skip (by simp only [settleS]) (by simp only [settleZ])

theorem settleS_len (l : List (Nat × KS)) (st : St) : st.chunks.length ≤ (settleS l st).chunks.length := (settleS_stat l st).1
theorem settleS_keep (l : List (Nat × KS)) (st : St) : ∀ c, c < st.chunks.length → c ∉ settleZ l st → (settleS l st).chunks[c]? = st.chunks[c]? := (settleS_stat l st).2

theorem callS_ok {R : Type} {P : Program} {f ar : Nat} {tmIn tmOut : Tm} {fn : List Dat → (List Dat → Option R) → Option R} {other : Option R}
    (hfn : ∀ ds K r, fn ds K = some r → ∃ rs, K rs = some r ∧ Con P f ar tmIn tmOut ds rs) {args : List SV} {cs0 cs : List Chunk} {K : KT R} {r : R} {st : St} {z0 : List Nat}
    (hst : st.chunks = cs) (hset : cs0.length ≤ cs.length ∧ (∀ c, c < cs0.length → c ∉ z0 → cs[c]? = cs0[c]?) ∧ ∀ (bs : Base) (m : Mm) (ls : List Loc) (Bs : List (List Nat)) (w : World) (vs : Array Value), Mem bs m ls Bs cs0 w → SV.rels m ls args vs.toList →
      ∃ ls' Bs', Ext m ls m ls' ∧ Mem bs m ls' Bs' cs w ∧ ∀ t, (st.get t).rel m ls' (vs.getD t undef))
    (h : callS ar tmIn tmOut fn other args st z0 cs K = some r) :
    other = some r ∨ ∃ v cs' z, K v cs' z = some r ∧ CallSem P f args cs0 v cs' z := by
  unfold callS at h
  subst hst
  obtain ⟨hs1, hs2, hs3⟩ := hset
  split at h
  · rename_i ds1 F1 z1 h1
    split at h
    · rename_i es F2 z2 h2
      cases hf : foundOk (lenL tmIn.chunks) (app z1 z2) F2 with
      | false => rw [hf] at h; simp [bad] at h
      | true =>
        rw [hf] at h
        simp only [cond_true] at h
        split at h
        · rename_i l hl
          cases har : Nat.beq (lenL args) ar with
          | false => rw [har] at h; simp [bad] at h
          | true =>
            cases hin : allL (inB (lenL st.chunks)) l with
            | false => rw [har, hin] at h; simp [bad] at h
            | true =>
              rw [har, hin] at h
              simp only [cond_true] at h
              obtain ⟨rs, hK, hcall, hcon⟩ := hfn _ _ _ h
              right
              refine ⟨_, _, _, hK, ?_⟩
              rw [app_eq] at hf
              have hfG := foundOkG_of hf
              rw [lenL_eq] at hf
              rw [lenL_eq] at hl
              simp only [lenL_eq, app_eq z1 z2, app_eq ds1 es]
              have hnd := foundList_nodup hf hl
              obtain ⟨hll, hlF⟩ := foundList_spec hl
              have har' : args.length = ar := by have := beq_nat har; rw [lenL_eq] at this; exact this
              rw [allL_iff] at hin
              have hlt : ∀ c ∈ l, c < st.chunks.length := fun c hc => by
                have := hin c hc
                unfold inB at this
                rw [lenL_eq] at this
                have := Nat.le_of_ble_eq_true this; omega
              refine ⟨?_, ?_, hcall, ?_⟩
              · refine Nat.le_trans ?_ (place_len _ _ _)
                cases tmOut.flat <;> simp [(freeze_spec _ st.chunks).1] <;> exact hs1
              · intro c hc0 hn
                have hc : c < st.chunks.length := Nat.lt_of_lt_of_le hc0 hs1
                rw [app_eq, List.mem_append, not_or] at hn
                rw [← hs2 c hc0 hn.1]
                have hn := hn.2
                rw [place_eq]
                cases hfl : tmOut.flat with
                | true =>
                  rw [hfl] at hn
                  simp only [cond_true] at hn ⊢
                  exact placeG_out hn hc
                | false =>
                  rw [hfl] at hn
                  simp only [cond_false, app_eq, List.mem_append, not_or] at hn ⊢
                  rw [placeG_out hn.1 (by rw [(freeze_spec _ st.chunks).1]; exact hc)]
                  exact (freeze_spec _ st.chunks).2 c (by simp; exact hn.2)
              · intro bs m ls0 Bs0 w vs M0 hrels
                obtain ⟨ls, Bs, E0, M, hslots⟩ := hs3 bs m ls0 Bs0 w vs M0 hrels
                obtain ⟨m1, Bs1, E1, M1, R1, S1⟩ := M.freeze2 (z1 ++ z2)
                have L2 := pick_leads M1 hfG
                obtain ⟨a1, a2⟩ := normSlots_ok (m := m1) (ls := ls) (ls' := pickLs ls F2 tmIn.chunks) h1
                obtain ⟨b1, b2⟩ := normChunks_ok (m := m1) (ls := ls) (ls' := pickLs ls F2 tmIn.chunks) h2
                obtain ⟨sl, c1, c2⟩ := a2 F2 b1 L2 (R1.mono (by simp; exact fun c hc => .inl hc)) (fun t => vs.getD t undef) (fun t => SV.rel_ext E1 (hslots t)) es
                obtain ⟨d1, d2⟩ := b2 F2 (FExt.refl _) L2 (R1.mono (by simp; exact fun c hc => .inr hc)) []
                simp only [List.append_nil] at d1 d2
                have hfill : tmIn.fill (app ds1 es) = ⟨sl, Tm.fillChunks tmIn.chunks es⟩ := by
                  unfold Tm.fill; rw [app_eq, c1]
                have MC := (pick_mem M1.nopre hfG (ncs := Tm.fillChunks tmIn.chunks es) (fun j k nc hk hnc => by
                  have := d2 j k nc hk hnc
                  rw [Nat.zero_add] at this
                  exact this.of_freeze hk hfG) d1 (fun i l hl => by simp at hl)).rebase
                have hsz : vs.size = ar := by
                  have := SV.rels_length hrels
                  rw [← har']; simpa using this
                have C := hcon m1 (pickLs ls F2 tmIn.chunks) (pickBs Bs1 F2 tmIn.chunks) w vs (by rw [hfill]; exact MC) hsz (fun t => by rw [hfill]; exact c2 t _)
                refine Calls.mono C ?_
                rintro e w' ⟨v', m', ls', Bs', he, E', M', hv⟩
                have hl1 : (pickLs ls F2 tmIn.chunks).length = l.length := by unfold pickLs; rw [List.length_map, enum_len, hll]
                have hB1 : (pickBs Bs1 F2 tmIn.chunks).length = l.length := by unfold pickBs; rw [List.length_map, enum_len, hll]
                have hlB : ∀ (i : Nat) c, l[i]? = some c → (pickLs ls F2 tmIn.chunks)[i]? = ls[c]? ∧ ∀ B, (pickBs Bs1 F2 tmIn.chunks)[i]? = some B → ∃ B0, Bs1[c]? = some B0 ∧ ∀ b ∈ B, b ∈ B0 := by
                  intro i c hi
                  have hc := hlF i c hi
                  rw [Nat.zero_add] at hc
                  have hcl := hlt c (List.mem_of_getElem? hi)
                  have hcls : c < ls.length := by rw [M.nl]; exact hcl
                  have hcB : c < Bs1.length := by rw [M1.nB, (freeze_spec _ st.chunks).1]; exact hcl
                  have hit : i < tmIn.chunks.length := by rw [← hll]; exact get_lt hi
                  refine ⟨?_, fun B hB => ⟨Bs1[c], List.getElem?_eq_getElem hcB, ?_⟩⟩
                  · rw [pickLs_get, List.getElem?_eq_getElem hit, List.getElem?_eq_getElem hcls]
                    simp only [Option.map_some, pickLoc, hc, List.getElem?_eq_getElem hcls]
                  · intro b hb
                    obtain ⟨c', Bc, e1, e2, e3, _⟩ := pickB_mem M1 hB hb
                    rw [hc] at e1
                    cases e1
                    rw [List.getElem?_eq_getElem hcB] at e2
                    cases e2
                    exact e3
                have hout : (tmOut.fill rs).chunks.length = tmOut.chunks.length := by rw [fill_chunks, fillChunks_len]
                cases hfl : tmOut.flat with
                | true =>
                  have hfl' : KS.flats (tmOut.slots.map (·.2)) = true ∧ allL KC.flat tmOut.chunks = true := by
                    unfold Tm.flat at hfl
                    cases hq : KS.flats (tmOut.slots.map (·.2)) <;> simp_all
                  have hF' : ∀ b o v, m b o = some v → m' b o = some v := fun b o v h => E'.m b o v (E1.m b o v h)
                  have B := M.back hnd hl1 (fun i c hi => ⟨hlt c (List.mem_of_getElem? hi), (hlB i c hi).1, fun B hB => by
                    obtain ⟨B0, q1, q2⟩ := (hlB i c hi).2 B hB
                    obtain ⟨B00, q3, q4⟩ := S1 c B0 q1
                    exact ⟨B00, q3, fun b hb => q4 b (q2 b hb)⟩⟩) hB1 M' (fun _ _ _ h => h) hF' (fun _ _ _ h => .inl h) (fun i c lo B hc hlo hB => by
                      have hh := M'.holds i c lo B hc hlo hB
                      rw [fill_chunks] at hc
                      exact fillChunks_free _ hfl'.2 i c lo B hc hh)
                  obtain ⟨EB, RB, MB⟩ := B
                  simp only [cond_true]
                  refine ⟨v', m, placeG ls l ls', placeG Bs l Bs', he, E0.trans EB, ?_, SV.ren_rel (m := m) (ls := ls') ?_ (resOf_free (by rw [fill_slots]; exact fillSlots_free _ hfl'.1) m' m ls' v' hv)⟩
                  · rw [place_eq, ← hout]; exact MB
                  · rw [← hout]; exact RB
                | false =>
                  have B := M1.back hnd hl1 (fun i c hi => ⟨by rw [(freeze_spec _ st.chunks).1]; exact hlt c (List.mem_of_getElem? hi), hlB i c hi⟩) hB1 M' (fun b o v h => E'.m b o v h) (fun _ _ _ h => h) (fun b o v h => M'.mnew b o v h) (fun i c lo B hc hlo hB => M'.holds i c lo B hc hlo hB)
                  obtain ⟨EB, RB, MB⟩ := B
                  simp only [cond_false]
                  refine ⟨v', m', placeG ls l ls', placeG Bs1 l Bs', he, E0.trans (E1.trans EB), ?_, SV.ren_rel (m := m') (ls := ls') ?_ hv⟩
                  · rw [place_eq, ← hout]; exact MB
                  · rw [← hout]; exact RB
        · simp [bad] at h
    · exact .inl h
  · exact .inl h

theorem callT_ok {R : Type} {P : Program} {f ar : Nat} {tmIn tmOut : Tm} {fn : List Dat → (List Dat → Option R) → Option R} {other : Option R}
    (hfn : ∀ ds K r, fn ds K = some r → ∃ rs, K rs = some r ∧ Con P f ar tmIn tmOut ds rs) {args : List SV} {cs : List Chunk} {K : KT R} {r : R} (h : callT ar tmIn tmOut fn other args cs K = some r) :
    other = some r ∨ ∃ v cs' z, K v cs' z = some r ∧ CallSem P f args cs v cs' z := by
  unfold callT at h
  cases ha : anySub args with
  | false =>
    rw [ha] at h
    exact callS_ok hfn rfl ⟨Nat.le_refl _, fun _ _ _ => rfl, fun bs m ls Bs w vs M hr => ⟨ls, Bs, Ext.refl _ _, M, fun t => rels_getD hr t cs⟩⟩ h
  | true =>
    rw [ha] at h
    simp only [cond_true] at h
    have stat : ∀ (bs : Base) (m : Mm) (ls : List Loc) (Bs : List (List Nat)) (w : World) (vs : Array Value), Mem bs m ls Bs cs w → SV.rels m ls args vs.toList → _ := fun bs m ls Bs w vs M hr => settleS_ok (m := m) (bs := bs) (w := w) tmIn.slots ⟨slotsOf 0 args, cs⟩ (val := fun t => vs.getD t undef) M (fun t => rels_getD hr t cs)
    refine callS_ok hfn rfl ⟨settleS_len tmIn.slots ⟨slotsOf 0 args, cs⟩, settleS_keep tmIn.slots ⟨slotsOf 0 args, cs⟩, fun bs m ls Bs w vs M hr => ?_⟩ h
    obtain ⟨ls', Bs', E, M', h1, _, _⟩ := stat bs m ls Bs w vs M hr
    exact ⟨ls', Bs', E, M', h1⟩

/-- Data taken one by one. -/
theorem pop_some {R : Type} {t : Ty} {ds : List Dat} {K : t.den → List Dat → Option R} {r : R} (h : pop t ds K = some r) : ∃ x es, ds = ⟨t, x⟩ :: es ∧ K x es = some r := by
  unfold pop at h
  split at h
  · rename_i d es
    split at h
    · rename_i x hx
      obtain ⟨e, rfl⟩ := cast?_some hx
      obtain ⟨u, y⟩ := d
      simp only at e hx h ⊢
      subst e
      exact ⟨_, _, rfl, h⟩
    · cases h
  · cases h
end Go.Proofs.YtfkilmmldjajmaaSx
