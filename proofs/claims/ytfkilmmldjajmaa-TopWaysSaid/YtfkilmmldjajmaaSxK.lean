/- Cuts: a state is taken to its template. -/
import Derived.Test.YtfkilmmldjajmaaSxJ
namespace Go.Proofs.YtfkilmmldjajmaaSx
open Go
set_option linter.unusedVariables false
set_option linter.unusedSimpArgs false

def KC.w : KC → Nat
  | .own t => t.width
  | _ => 0

def pickLoc (ls : List Loc) (F : Found) (k : KC) (i : Nat) : Loc := match assoc i F with
  | some (some c) => (match ls[c]? with | some l => l | none => ⟨none, 0, 0, k.w⟩)
  | _ => ⟨none, 0, 0, k.w⟩

def pickB (Bs : List (List Nat)) (F : Found) (k : KC) (i : Nat) : List Nat := match k with
  | .gone => []
  | _ => (match assoc i F with
    | some (some c) => (match Bs[c]? with | some B => B | none => [])
    | _ => [])

def pickLs (ls : List Loc) (F : Found) (kcs : List KC) : List Loc := (enum 0 kcs).map fun x => pickLoc ls F x.2 x.1
def pickBs (Bs : List (List Nat)) (F : Found) (kcs : List KC) : List (List Nat) := (enum 0 kcs).map fun x => pickB Bs F x.2 x.1

theorem enum_nth {α : Type} : ∀ (l : List α) (i j : Nat), (enum i l)[j]? = (l[j]?).map fun a => (i + j, a)
  | [], i, j => by simp [enum]
  | a :: l, i, j => by
    cases j with
    | zero => simp [enum]
    | succ j =>
      simp only [enum, List.getElem?_cons_succ, enum_nth l (i + 1) j]
      congr 1
      funext a
      congr 1
      omega

theorem pickLs_get (ls : List Loc) (F : Found) (kcs : List KC) (i : Nat) : (pickLs ls F kcs)[i]? = (kcs[i]?).map fun k => pickLoc ls F k i := by
  unfold pickLs
  rw [List.getElem?_map, enum_nth]
  cases kcs[i]? <;> simp
theorem pickBs_get (Bs : List (List Nat)) (F : Found) (kcs : List KC) (i : Nat) : (pickBs Bs F kcs)[i]? = (kcs[i]?).map fun k => pickB Bs F k i := by
  unfold pickBs
  rw [List.getElem?_map, enum_nth]
  cases kcs[i]? <;> simp
theorem enum_len {α : Type} : ∀ (l : List α) (i : Nat), (enum i l).length = l.length
  | [], _ => rfl
  | a :: l, i => by simp [enum, enum_len l]

/-- What the test of what is found says. -/
theorem foundOk_mem {n : Nat} {z : List Nat} : ∀ {F : Found}, foundOk n z F = true → ∀ x ∈ F, x.1 < n ∧ ∀ c, x.2 = some c → c ∉ z
  | [], _, x, hx => by simp at hx
  | (i, some c) :: F, h, x, hx => by
    simp only [foundOk] at h
    cases h1 : Nat.blt i n with
    | false => rw [h1] at h; simp at h
    | true =>
      rw [h1] at h
      cases h2 : memL c z with
      | true => rw [h2] at h; simp at h
      | false =>
        rw [h2] at h
        cases h3 : allL (isOther c) F with
        | false => rw [h3] at h; simp at h
        | true =>
          rw [h3] at h
          simp only [cond_true, cond_false] at h
          simp at hx
          rcases hx with rfl | hx
          · refine ⟨by have := Nat.le_of_ble_eq_true h1; omega, fun d hd => ?_⟩
            simp at hd; subst hd
            exact memL_false h2
          · exact foundOk_mem h x hx
  | (i, none) :: F, h, x, hx => by
    simp only [foundOk] at h
    cases h1 : Nat.blt i n with
    | false => rw [h1] at h; simp at h
    | true =>
      rw [h1] at h
      simp at hx
      rcases hx with rfl | hx
      · exact ⟨by have := Nat.le_of_ble_eq_true h1; omega, fun d hd => by simp at hd⟩
      · exact foundOk_mem h x hx

theorem assoc_mem {α : Type} {i : Nat} {v : α} : ∀ {l : List (Nat × α)}, assoc i l = some v → (i, v) ∈ l
  | [], h => by simp [assoc] at h
  | (j, u) :: l, h => by
    rw [assoc_cons'] at h
    split at h
    · rename_i e; subst e; cases h; simp
    · exact List.mem_cons_of_mem _ (assoc_mem h)

theorem foundOk_inj {n : Nat} {z : List Nat} : ∀ {F : Found}, foundOk n z F = true → ∀ i j c, (i, some c) ∈ F → (j, some c) ∈ F → i = j
  | [], _, i, j, c, hi, _ => by simp at hi
  | (k, none) :: F, h, i, j, c, hi, hj => by
    simp only [foundOk] at h
    cases h1 : Nat.blt k n with
    | false => rw [h1] at h; simp at h
    | true =>
      rw [h1] at h
      simp at hi hj
      exact foundOk_inj h i j c hi hj
  | (k, some d) :: F, h, i, j, c, hi, hj => by
    simp only [foundOk] at h
    cases h1 : Nat.blt k n with
    | false => rw [h1] at h; simp at h
    | true =>
      rw [h1] at h
      cases h2 : memL d z with
      | true => rw [h2] at h; simp at h
      | false =>
        rw [h2] at h
        cases h3 : allL (isOther d) F with
        | false => rw [h3] at h; simp at h
        | true =>
          rw [h3] at h
          simp only [cond_true, cond_false] at h
          rw [allL_iff] at h3
          have no : ∀ q, (q, some d) ∈ F → False := fun q hq => by
            have := h3 _ hq
            simp [isOther, Nat.beq_refl] at this
          simp at hi hj
          rcases hi with ⟨rfl, rfl⟩ | hi
          · rcases hj with ⟨rfl, _⟩ | hj
            · rfl
            · exact (no j hj).elim
          · rcases hj with ⟨rfl, rfl⟩ | hj
            · exact (no i hi).elim
            · exact foundOk_inj h i j c hi hj

theorem dropGone_mem {kcs : List KC} : ∀ {F : Found} {x : Nat × Option Nat}, x ∈ F → goneAt kcs x.1 = false → x ∈ dropGone kcs F
  | [], x, h, _ => by simp at h
  | (i, c) :: F, x, h, hg => by
    simp only [dropGone]
    rcases List.mem_cons.1 h with rfl | h
    · rw [hg]; exact List.mem_cons_self
    · cases goneAt kcs i with
      | true => exact dropGone_mem h hg
      | false => exact List.mem_cons_of_mem _ (dropGone_mem h hg)
theorem dropGone_sub {kcs : List KC} : ∀ {F : Found} {x : Nat × Option Nat}, x ∈ dropGone kcs F → x ∈ F
  | [], x, h => by simp [dropGone] at h
  | (i, c) :: F, x, h => by
    simp only [dropGone] at h
    cases hg : goneAt kcs i with
    | true => rw [hg] at h; exact List.mem_cons_of_mem _ (dropGone_sub h)
    | false =>
      rw [hg] at h
      rcases List.mem_cons.1 h with rfl | h
      · exact List.mem_cons_self
      · exact List.mem_cons_of_mem _ (dropGone_sub h)
theorem allBelow_mem {n : Nat} : ∀ {F : Found}, allBelow n F = true → ∀ x ∈ F, x.1 < n
  | [], _, x, hx => by simp at hx
  | (i, c) :: F, h, x, hx => by
    simp only [allBelow] at h
    cases h1 : Nat.blt i n with
    | false => rw [h1] at h; simp at h
    | true =>
      rw [h1] at h
      rcases List.mem_cons.1 hx with rfl | hx
      · have := Nat.le_of_ble_eq_true h1; omega
      · exact allBelow_mem h x hx
theorem allBelow_of {n : Nat} : ∀ {F : Found}, (∀ x ∈ F, x.1 < n) → allBelow n F = true
  | [], _ => rfl
  | (i, c) :: F, h => by
    simp only [allBelow]
    have h1 : Nat.blt i n = true := Nat.ble_eq_true_of_le (h (i, c) List.mem_cons_self)
    rw [h1]; exact allBelow_of fun x hx => h x (List.mem_cons_of_mem _ hx)
theorem foundOk_drop {n : Nat} {z : List Nat} {kcs : List KC} : ∀ {F : Found}, foundOk n z F = true → foundOk n z (dropGone kcs F) = true
  | [], _ => rfl
  | (i, none) :: F, h => by
    simp only [foundOk] at h
    simp only [dropGone]
    cases h1 : Nat.blt i n with
    | false => rw [h1] at h; simp at h
    | true =>
      rw [h1] at h
      cases goneAt kcs i with
      | true => exact foundOk_drop h
      | false => simp only [cond_false, foundOk, h1, cond_true]; exact foundOk_drop h
  | (i, some c) :: F, h => by
    simp only [foundOk] at h
    simp only [dropGone]
    cases h1 : Nat.blt i n with
    | false => rw [h1] at h; simp at h
    | true =>
      rw [h1] at h
      cases h2 : memL c z with
      | true => rw [h2] at h; simp at h
      | false =>
        rw [h2] at h
        cases h3 : allL (isOther c) F with
        | false => rw [h3] at h; simp at h
        | true =>
          rw [h3] at h
          simp only [cond_true, cond_false] at h
          cases goneAt kcs i with
          | true => exact foundOk_drop h
          | false =>
            have h4 : allL (isOther c) (dropGone kcs F) = true := by
              rw [allL_iff] at h3 ⊢
              exact fun x hx => h3 x (dropGone_sub hx)
            simp only [cond_false, foundOk, h1, h2, h4, cond_true]; exact foundOk_drop h
theorem foundOkG_of {kcs : List KC} {z : List Nat} {F : Found} (h : foundOk (lenL kcs) z F = true) : foundOkG kcs z F = true := by
  unfold foundOkG
  rw [allBelow_of fun x hx => (foundOk_mem h x hx).1]
  exact foundOk_drop h
theorem foundOkG_lt {kcs : List KC} {z : List Nat} {F : Found} (h : foundOkG kcs z F = true) : ∀ x ∈ F, x.1 < kcs.length := by
  unfold foundOkG at h
  rw [← lenL_eq]
  cases h1 : allBelow (lenL kcs) F with
  | false => rw [h1] at h; simp at h
  | true => exact allBelow_mem h1
theorem foundOkG_drop {kcs : List KC} {z : List Nat} {F : Found} (h : foundOkG kcs z F = true) : foundOk (lenL kcs) z (dropGone kcs F) = true := by
  unfold foundOkG at h
  cases h1 : allBelow (lenL kcs) F with
  | false => rw [h1] at h; simp at h
  | true => rw [h1] at h; exact h
theorem goneAt_ne {kcs : List KC} {i : Nat} {k : KC} (h : kcs[i]? = some k) (hk : k ≠ .gone) : goneAt kcs i = false := by
  unfold goneAt
  rw [nth_eq, h]
  cases k <;> first | rfl | exact absurd rfl hk

section
variable {bs : Base} {m : Mm} {ls : List Loc} {Bs : List (List Nat)} {cs : List Chunk} {w : World} {F : Found} {kcs : List KC} {z : List Nat}

theorem pick_leads (M : Mem bs m ls Bs cs w) (hF : foundOkG kcs z F = true) : Leads2 F ls (pickLs ls F kcs) := by
  intro i
  have hlt : ∀ c, assoc i F = some c → i < kcs.length := fun c hc => foundOkG_lt hF _ (assoc_mem hc)
  constructor
  · intro c hc l hl
    have := hlt _ hc
    rw [pickLs_get, List.getElem?_eq_getElem this]
    simp only [Option.map_some, pickLoc, hc, hl]
  · intro hc
    have := hlt _ hc
    rw [pickLs_get, List.getElem?_eq_getElem this]
    exact ⟨_, rfl, by simp only [pickLoc, hc], by simp only [pickLoc, hc], by simp only [pickLoc, hc]⟩

/-- The chunks of a template hold. -/
theorem pick_holds (M : Mem bs m ls Bs cs w) {ncs : List Chunk} (hN : ∀ (j : Nat) k nc, kcs[j]? = some k → ncs[j]? = some nc → NewChunk m ls (pickLs ls F kcs) cs F k j nc) (hlen : ncs.length = kcs.length) :
    ∀ (i : Nat) c l B, ncs[i]? = some c → (pickLs ls F kcs)[i]? = some l → (pickBs Bs F kcs)[i]? = some B → c.holds m (pickLs ls F kcs) w l B := by
  intro i nc l B hnc hl hB
  have hi : i < kcs.length := by rw [← hlen]; exact get_lt hnc
  have hk : kcs[i]? = some kcs[i] := List.getElem?_eq_getElem hi
  rw [pickLs_get, hk] at hl
  rw [pickBs_get, hk] at hB
  simp only [Option.map_some, Option.some.injEq] at hl hB
  rcases hN i _ nc hk hnc with ⟨h1, rfl⟩ | ⟨h1, c, oc, h2, h3, h4⟩ | ⟨h1, t, h2, h3, rfl⟩
  · rw [h1] at hB
    simp only [pickB] at hB
    subst hB
    simp only [Chunk.holds]
  · obtain ⟨l', B', e1, e2, e3⟩ := M.at h3
    have hl' : l = l' := by rw [← hl]; simp only [pickLoc, h2, e1]
    have hB' : B = B' := by
      rw [← hB]
      unfold pickB
      split
      · rename_i hg; exact absurd hg h1
      · simp only [h2, e2]
    subst hl'; subst hB'
    exact h4 w l B e3
  · rw [h3] at hl hB
    simp only [pickLoc, h1, KC.w] at hl
    simp only [pickB, h1] at hB
    subst hl; subst hB
    simp only [Chunk.holds]
    exact ⟨h2, trivial, by simp, by simp, .inl ⟨trivial, trivial⟩⟩

theorem pickB_mem (M : Mem bs m ls Bs cs w) {i : Nat} {B : List Nat} (h : (pickBs Bs F kcs)[i]? = some B) {b : Nat} (hb : b ∈ B) : ∃ c Bc, assoc i F = some (some c) ∧ Bs[c]? = some Bc ∧ b ∈ Bc ∧ goneAt kcs i = false := by
  rw [pickBs_get] at h
  cases hk : kcs[i]? with
  | none => rw [hk] at h; simp at h
  | some k =>
    rw [hk] at h
    simp only [Option.map_some, Option.some.injEq] at h
    subst h
    unfold pickB at hb
    split at hb
    · simp at hb
    · rename_i hgn
      split at hb
      · rename_i c hc
        split at hb
        · rename_i B hB; exact ⟨c, B, hc, hB, hb, goneAt_ne hk (fun e => hgn e)⟩
        · simp at hb
      · simp at hb

theorem pick_apart (M : Mem bs m ls Bs cs w) (hF : foundOkG kcs z F = true) : ∀ (i j : Nat) B B', (pickBs Bs F kcs)[i]? = some B → (pickBs Bs F kcs)[j]? = some B' → i ≠ j → ∀ b ∈ B, b ∉ B' := by
  intro i j B B' hi hj hij b hb hb'
  obtain ⟨c, Bc, c1, c2, c3, c4⟩ := pickB_mem M hi hb
  obtain ⟨d, Bd, d1, d2, d3, d4⟩ := pickB_mem M hj hb'
  have hcd : c ≠ d := fun e => by subst e; exact hij (foundOk_inj (foundOkG_drop hF) i j c (dropGone_mem (assoc_mem c1) c4) (dropGone_mem (assoc_mem d1) d4))
  exact M.apart c d Bc Bd c2 d2 hcd b c3 d3

/-- The memory of a template's chunks, over the same base. -/
theorem pick_mem (M : Mem bs m ls Bs cs w) (hF : foundOkG kcs z F = true) {ncs : List Chunk} (hN : ∀ (j : Nat) k nc, kcs[j]? = some k → ncs[j]? = some nc → NewChunk m ls (pickLs ls F kcs) cs F k j nc) (hlen : ncs.length = kcs.length) (hpre : ∀ (i : Nat) l, bs.ls0[i]? = some l → (pickLs ls F kcs)[i]? = some l) :
    Mem bs m (pickLs ls F kcs) (pickBs Bs F kcs) ncs w := by
  refine ⟨M.os, M.tape, M.output, M.size, M.old, M.m0, M.mnew, M.mle, hpre, ?_, ?_, pick_holds M hN hlen, pick_apart M hF, ?_⟩
  · unfold pickLs; rw [List.length_map, enum_len, hlen]
  · unfold pickBs; rw [List.length_map, enum_len, hlen]
  · intro i B h b hb
    obtain ⟨c, Bc, c1, c2, c3, _⟩ := pickB_mem M h hb
    exact M.fresh c Bc c2 b c3

theorem NewChunk.of_freeze {m : Mm} {ls ls' : List Loc} {cs : List Chunk} {F : Found} {k : KC} {i : Nat} {nc : Chunk} (h : NewChunk m ls ls' cs F k i nc) (hk : kcs[i]? = some k) (hF : foundOkG kcs z F = true) :
    NewChunk m ls ls' (freeze cs z) F k i nc := by
  rcases h with h | ⟨h1, c, oc, h2, h3, h4⟩ | h
  · exact .inl h
  · refine .inr (.inl ⟨h1, c, oc, h2, ?_, h4⟩)
    rw [(freeze_spec z cs).2 c ((foundOk_mem (foundOkG_drop hF) _ (dropGone_mem (assoc_mem h2) (goneAt_ne hk h1))).2 c rfl)]
    exact h3
  · exact .inr (.inr h)

theorem assoc_idFound : ∀ (n j i : Nat), j ≤ i → i < j + n → assoc i (idFound n j) = some (some i)
  | 0, j, i, h1, h2 => by omega
  | n + 1, j, i, h1, h2 => by
    simp only [idFound]
    rw [assoc_cons']
    by_cases h : j = i
    · rw [if_pos h, h]
    · rw [if_neg h]; exact assoc_idFound n (j + 1) i (by omega) (by omega)

/-- A state taken to a template. -/
theorem norm_sat {tm : Tm} {st : St} {ds : List Dat} {n : Nat} {a : Act} (h : tm.norm (idFound bs.ls0.length 0) st = some ds) (H : Sat bs n st a w) : Sat bs n (tm.fill ds) a w := by
  obtain ⟨m, ls, Bs, M, hs, hn, hd⟩ := H
  unfold Tm.norm at h
  split at h
  · rename_i ds1 F1 z1 h1
    split at h
    · rename_i es F2 z2 h2
      cases hf : foundOkG tm.chunks (app z1 z2) F2 with
      | false => rw [hf] at h; simp at h
      | true =>
        rw [hf] at h
        simp only [cond_true, Option.some.injEq, app_eq] at h
        subst h
        rw [app_eq] at hf
        obtain ⟨m1, Bs1, E1, M1, R1⟩ := M.freeze (z1 ++ z2)
        have L2 := pick_leads M1 hf
        obtain ⟨a1, a2⟩ := normSlots_ok (m := m1) (ls := ls) (ls' := pickLs ls F2 tm.chunks) h1
        obtain ⟨b1, b2⟩ := normChunks_ok (m := m1) (ls := ls) (ls' := pickLs ls F2 tm.chunks) h2
        obtain ⟨sl, c1, c2⟩ := a2 F2 b1 L2 (R1.mono (by simp; exact fun c hc => .inl hc)) (fun t => a.eval (.tmp t)) (fun t => SV.rel_ext E1 (hs t)) es
        obtain ⟨d1, d2⟩ := b2 F2 (FExt.refl _) L2 (R1.mono (by simp; exact fun c hc => .inr hc)) []
        simp only [List.append_nil] at d1 d2
        have hfill : tm.fill (ds1 ++ es) = ⟨sl, Tm.fillChunks tm.chunks es⟩ := by
          unfold Tm.fill; rw [c1]
        rw [hfill]
        have hpre : ∀ (i : Nat) l, bs.ls0[i]? = some l → (pickLs ls F2 tm.chunks)[i]? = some l := fun i l hl =>
          (L2 i).1 i ((a1.trans b1) i _ (assoc_idFound _ 0 i (Nat.zero_le _) (by have := get_lt hl; omega))) l (M.pre i l hl)
        refine ⟨m1, _, _, pick_mem M1 hf (ncs := Tm.fillChunks tm.chunks es) (fun j k nc hk hnc => ?_) d1 hpre, fun t => c2 t _, hn, hd⟩
        have := d2 j k nc hk hnc
        rw [Nat.zero_add] at this
        exact this.of_freeze hk hf
    · cases h
  · cases h
end

section
variable {bs : Base} {m : Mm} {ls : List Loc} {Bs : List (List Nat)} {cs : List Chunk} {w : World}

theorem get_slots (n : Nat) (v : SV) (sl : List (Nat × SV)) (cs : List Chunk) (t : Nat) : St.get ⟨(n, v) :: sl, cs⟩ t = if n = t then v else St.get ⟨sl, cs⟩ t := by
  unfold St.get
  simp only [assoc_cons']
  by_cases h : n = t
  · simp [h]
  · simp [h]

theorem settleV_ok (M : Mem bs m ls Bs cs w) {s : SV} {val : Value} (hs : s.rel m ls val) : ∃ ls' Bs', Ext m ls m ls' ∧ Mem bs m ls' Bs' (settleV cs s).2.1 w ∧ ((settleV cs s).1).rel m ls' val ∧
    cs.length ≤ (settleV cs s).2.1.length ∧ ∀ c, c < cs.length → c ∉ (settleV cs s).2.2 → (settleV cs s).2.1[c]? = cs[c]? := by
  have same : (settleV cs s) = (s, cs, []) → ∃ ls' Bs', Ext m ls m ls' ∧ Mem bs m ls' Bs' (settleV cs s).2.1 w ∧ ((settleV cs s).1).rel m ls' val ∧
      cs.length ≤ (settleV cs s).2.1.length ∧ ∀ c, c < cs.length → c ∉ (settleV cs s).2.2 → (settleV cs s).2.1[c]? = cs[c]? := by
    intro h
    rw [h]
    exact ⟨ls, Bs, Ext.refl _ _, M, hs, Nat.le_refl _, fun _ _ _ => rfl⟩
  cases s with
  | sub c lo n =>
    cases hc : cs[c]? with
    | none => exact same (by simp only [settleV, nth_eq, hc])
    | some ch =>
      cases ch with
      | own t L =>
        have e : settleV cs (.sub c lo n) = (.own cs.length, cs.set c .gone ++ [.own t (List.take n (List.drop lo L))], [c]) := by
          simp only [settleV, nth_eq, hc, lenL_eq, app_eq, setNth_eq]
        rw [e]
        simp only [SV.rel] at hs
        obtain ⟨l, A, hl, hlo, hv, hA⟩ := hs
        obtain ⟨Bs', M', hBl⟩ := M.settle hc hl hlo hA
        refine ⟨_, Bs', ext_push m ls ⟨A, n, l.cap - lo, l.w⟩, M', ?_, by simp, fun d hd hn => ?_⟩
        · simp only [SV.rel]
          exact ⟨⟨A, n, l.cap - lo, l.w⟩, by rw [← M.nl]; simp, hv⟩
        · simp at hn
          rw [List.getElem?_append_left (by simpa using hd), List.getElem?_set_ne (fun e => hn e.symm)]
      | _ => exact same (by simp only [settleV, nth_eq, hc])
  | _ => exact same (by simp only [settleV])

/-- Parts told as own slices: what is told stays so. -/
theorem settleS_ok : ∀ (l : List (Nat × KS)) (st : St) {ls : List Loc} {Bs : List (List Nat)} {val : Nat → Value}, Mem bs m ls Bs st.chunks w → (∀ t, (st.get t).rel m ls (val t)) →
    ∃ ls' Bs', Ext m ls m ls' ∧ Mem bs m ls' Bs' (settleS l st).chunks w ∧ (∀ t, ((settleS l st).get t).rel m ls' (val t)) ∧
      st.chunks.length ≤ (settleS l st).chunks.length ∧ ∀ c, c < st.chunks.length → c ∉ settleZ l st → (settleS l st).chunks[c]? = st.chunks[c]?
  | [], st, ls, Bs, val, M, hv => ⟨ls, Bs, Ext.refl _ _, M, hv, Nat.le_refl _, fun _ _ _ => rfl⟩
  | (n, k) :: l, st, ls, Bs, val, M, hv => by
    have skip : settleS ((n, k) :: l) st = settleS l st → settleZ ((n, k) :: l) st = settleZ l st → ∃ ls' Bs', Ext m ls m ls' ∧ Mem bs m ls' Bs' (settleS ((n, k) :: l) st).chunks w ∧ (∀ t, ((settleS ((n, k) :: l) st).get t).rel m ls' (val t)) ∧
        st.chunks.length ≤ (settleS ((n, k) :: l) st).chunks.length ∧ ∀ c, c < st.chunks.length → c ∉ settleZ ((n, k) :: l) st → (settleS ((n, k) :: l) st).chunks[c]? = st.chunks[c]? := by
      intro h1 h2
      rw [h1, h2]
      exact settleS_ok l st M hv
    cases k with
    | own i =>
      cases hsub : isSub (st.get n) with
      | false => exact skip (by simp only [settleS, hsub]) (by simp only [settleZ, hsub])
      | true =>
        have e1 : settleS ((n, .own i) :: l) st = settleS l ⟨(n, (settleV st.chunks (st.get n)).1) :: st.slots, (settleV st.chunks (st.get n)).2.1⟩ := by simp only [settleS, hsub]
        have e2 : settleZ ((n, .own i) :: l) st = app (settleV st.chunks (st.get n)).2.2 (settleZ l ⟨(n, (settleV st.chunks (st.get n)).1) :: st.slots, (settleV st.chunks (st.get n)).2.1⟩) := by simp only [settleZ, hsub]
        rw [e1, e2]
        obtain ⟨ls1, Bs1, E1, M1, h1, h2, h3⟩ := settleV_ok M (hv n)
        obtain ⟨ls2, Bs2, E2, M2, q1, q2, q3⟩ := settleS_ok l ⟨(n, (settleV st.chunks (st.get n)).1) :: st.slots, (settleV st.chunks (st.get n)).2.1⟩ M1 (val := val) (fun t => by
          rw [get_slots]
          split
          · rename_i e; subst e; exact h1
          · exact SV.rel_ext E1 (hv t))
        refine ⟨ls2, Bs2, E1.trans E2, M2, q1, Nat.le_trans h2 q2, fun c hc hn => ?_⟩
        rw [app_eq, List.mem_append, not_or] at hn
        rw [q3 c (Nat.lt_of_lt_of_le hc h2) hn.2]
        exact h3 c hc hn.1
    | _ => exact skip (by simp only [settleS]) (by simp only [settleZ])

/-- A state taken to a template. -/
theorem normS_sat {tm : Tm} {st : St} {ds : List Dat} {n : Nat} {a : Act} (h : tm.normS (idFound bs.ls0.length 0) st = some ds) (H : Sat bs n st a w) : Sat bs n (tm.fill ds) a w := by
  obtain ⟨m, ls, Bs, M, hs, hn, hd⟩ := H
  obtain ⟨ls', Bs', E, M', hs', _, _⟩ := settleS_ok (m := m) tm.slots st M hs
  exact norm_sat h ⟨m, ls', Bs', M', hs', hn, hd⟩
end
end Go.Proofs.YtfkilmmldjajmaaSx
