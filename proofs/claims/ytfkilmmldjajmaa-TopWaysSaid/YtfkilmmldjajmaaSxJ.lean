/- Templates: what is known at a cut. -/
import Derived.Test.YtfkilmmldjajmaaSxI
namespace Go.Proofs.YtfkilmmldjajmaaSx
open Go
set_option linter.unusedVariables false
set_option linter.unusedSimpArgs false

/-- What is found leads from the old places to the new. -/
def Leads2 (F : Found) (ls ls' : List Loc) : Prop :=
  ∀ i, (∀ c, assoc i F = some (some c) → ∀ l, ls[c]? = some l → ls'[i]? = some l) ∧ (assoc i F = some none → ∃ l, ls'[i]? = some l ∧ l.A = none ∧ l.len = 0 ∧ l.cap = 0)

theorem assoc_cons' {α : Type} {t : Nat} {v : α} {l : List (Nat × α)} (u : Nat) : assoc u ((t, v) :: l) = if t = u then some v else assoc u l := by
  simp only [assoc]
  by_cases h : t = u
  · subst h; simp [Nat.beq_refl]
  · rw [if_neg h]
    have : Nat.beq t u = false := by
      cases hb : Nat.beq t u with
      | true => exact absurd (beq_nat hb) h
      | false => rfl
    rw [this]; rfl

/-- More is found, what was found stays. -/
def FExt (F F' : Found) : Prop := ∀ i c, assoc i F = some c → assoc i F' = some c
theorem FExt.refl (F : Found) : FExt F F := fun _ _ h => h
theorem FExt.trans {F F' F'' : Found} (h : FExt F F') (k : FExt F' F'') : FExt F F'' := fun i c x => k i c (h i c x)

theorem foundPut_spec {i : Nat} {c : Option Nat} {F F' : Found} (h : foundPut i c F = some F') : FExt F F' ∧ assoc i F' = some c := by
  unfold foundPut at h
  split at h
  · rename_i hn
    cases h
    refine ⟨fun j d hj => ?_, by rw [assoc_cons']; simp⟩
    rw [assoc_cons']
    split
    · rename_i e; subst e; rw [hn] at hj; cases hj
    · exact hj
  · cases h
  · rename_i d hd
    split at h
    · rename_i c'
      cases hb : Nat.beq c' d with
      | true =>
        rw [hb] at h
        cases h
        have := beq_nat hb
        subst this
        exact ⟨FExt.refl _, hd⟩
      | false => rw [hb] at h; cases h
    · cases h

theorem kindEq?_self (k : IntKind) : ∃ q, kindEq? k k = some q := by cases k <;> exact ⟨_, rfl⟩
theorem Ty.eq?_self : ∀ (t : Ty), ∃ q, t.eq? t = some q
  | .int k => by obtain ⟨q, hq⟩ := kindEq?_self k; exact ⟨⟨rfl⟩, by simp [Ty.eq?, hq]⟩
  | .bool => ⟨⟨rfl⟩, rfl⟩
  | .str => ⟨⟨rfl⟩, rfl⟩
  | .unit => ⟨⟨rfl⟩, rfl⟩
  | .slice t => by obtain ⟨q, hq⟩ := Ty.eq?_self t; exact ⟨⟨rfl⟩, by simp [Ty.eq?, hq]⟩
  | .pair a b => by
    obtain ⟨q, hq⟩ := Ty.eq?_self a
    obtain ⟨q', hq'⟩ := Ty.eq?_self b
    exact ⟨⟨rfl⟩, by simp [Ty.eq?, hq, hq']⟩

theorem cast?_self (t : Ty) (x : t.den) : cast? t t x = some x := by
  obtain ⟨q, hq⟩ := Ty.eq?_self t
  simp [cast?, hq]

section
variable {m : Mm} {ls ls' : List Loc} {cs : List Chunk}

mutual
theorem KS.norm_ok : ∀ {k : KS} {v : SV} {F F' : Found} {ds : List Dat} {z : List Nat}, k.norm cs v F = some (ds, F', z) → FExt F F' ∧
    ∀ rest, ∃ sv, k.fill (ds ++ rest) = (sv, rest) ∧ ∀ (Ff : Found), FExt F' Ff → Leads2 Ff ls ls' → Reads m ls cs z → ∀ (val : Value), v.rel m ls val → sv.rel m ls' val
  | .p t, v, F, F', ds, z, h => by
    simp only [KS.norm] at h
    split at h
    · rename_i x z' hx
      cases h
      refine ⟨FExt.refl _, fun rest => ⟨.p t x, ?_, fun Ff _ _ R val r => SV.data_rel hx R r ls'⟩⟩
      simp only [List.cons_append, List.nil_append, KS.fill, cast?_self]
    · cases h
  | .own i, v, F, F', ds, z, h => by
    simp only [KS.norm] at h
    split at h
    · rename_i c
      split at h
      · rename_i F1 hF
        cases h
        obtain ⟨h1, h2⟩ := foundPut_spec hF
        refine ⟨h1, fun rest => ⟨.own i, by simp [KS.fill], fun Ff hFf hL R val r => ?_⟩⟩
        simp only [SV.rel] at r ⊢
        obtain ⟨l, hl, hv⟩ := r
        exact ⟨l, (hL i).1 c (hFf i _ h2) l hl, hv⟩
      · cases h
    · split at h
      · rename_i F1 hF
        cases h
        obtain ⟨h1, h2⟩ := foundPut_spec hF
        refine ⟨h1, fun rest => ⟨.own i, by simp [KS.fill], fun Ff hFf hL R val r => ?_⟩⟩
        simp only [SV.rel] at r ⊢
        obtain ⟨l, hl, ha, hb, hc⟩ := (hL i).2 (hFf i _ h2)
        exact ⟨l, hl, by rw [ha, hb, hc]; exact r⟩
      · cases h
    · cases h
  | .ptr i off, v, F, F', ds, z, h => by
    simp only [KS.norm] at h
    split at h
    · rename_i c o
      cases hb : Nat.beq off o with
      | false => rw [hb] at h; cases h
      | true =>
        rw [hb] at h
        have := beq_nat hb; subst this
        simp only [cond_true] at h
        split at h
        · rename_i F1 hF
          cases h
          obtain ⟨h1, h2⟩ := foundPut_spec hF
          refine ⟨h1, fun rest => ⟨.ptr i off, by simp [KS.fill], fun Ff hFf hL R val r => ?_⟩⟩
          simp only [SV.rel] at r ⊢
          obtain ⟨l, b, hl, hv⟩ := r
          exact ⟨l, b, (hL i).1 c (hFf i _ h2) l hl, hv⟩
        · cases h
    · cases h
  | .map i, v, F, F', ds, z, h => by
    simp only [KS.norm] at h
    split at h
    · rename_i c
      split at h
      · rename_i F1 hF
        cases h
        obtain ⟨h1, h2⟩ := foundPut_spec hF
        refine ⟨h1, fun rest => ⟨.map i, by simp [KS.fill], fun Ff hFf hL R val r => ?_⟩⟩
        simp only [SV.rel] at r ⊢
        obtain ⟨l, b, hl, hv⟩ := r
        exact ⟨l, b, (hL i).1 c (hFf i _ h2) l hl, hv⟩
      · cases h
    · cases h
  | .rp t off, v, F, F', ds, z, h => by
    simp only [KS.norm] at h
    split at h
    · rename_i u x o
      cases hb : Nat.beq off o with
      | false => rw [hb] at h; cases h
      | true =>
        rw [hb] at h
        have := beq_nat hb; subst this
        simp only [cond_true] at h
        split at h
        · rename_i x' hx
          cases h
          obtain ⟨e, rfl⟩ := cast?_some hx
          subst e
          refine ⟨FExt.refl _, fun rest => ⟨.rp u x off, ?_, fun Ff hFf hL R val r => ?_⟩⟩
          · simp only [List.cons_append, List.nil_append, KS.fill, cast?_self]
          · simp only [SV.rel] at r ⊢; exact r
        · cases h
    · cases h
  | .rs l off, v, F, F', ds, z, h => by
    simp only [KS.norm] at h
    split at h
    · rename_i vs o
      cases hb : Nat.beq off o with
      | false => rw [hb] at h; cases h
      | true =>
        rw [hb] at h
        have := beq_nat hb; subst this
        simp only [cond_true] at h
        obtain ⟨h1, h2⟩ := KS.norms_ok h
        refine ⟨h1, fun rest => ?_⟩
        obtain ⟨svs, e3, e4⟩ := h2 rest
        refine ⟨.rs svs off, by simp only [KS.fill, e3], fun Ff hFf hL R val r => ?_⟩
        simp only [SV.rel] at r ⊢
        obtain ⟨b, o, us, e1, e2, e5⟩ := r
        exact ⟨b, o, us, e1, e4 Ff hFf hL R us e2, e5⟩
    · rename_i c o
      cases hb : Nat.beq off o with
      | false => rw [hb] at h; cases h
      | true =>
        rw [hb] at h
        have := beq_nat hb; subst this
        simp only [cond_true, nth_eq] at h
        split at h
        · rename_i vs ty hc
          split at h
          · rename_i ds1 F1 z1 hn
            cases h
            obtain ⟨h1, h2⟩ := KS.norms_ok hn
            refine ⟨h1, fun rest => ?_⟩
            obtain ⟨svs, e3, e4⟩ := h2 rest
            refine ⟨.rs svs off, by simp only [KS.fill, e3], fun Ff hFf hL R val r => ?_⟩
            simp only [SV.rel] at r ⊢
            obtain ⟨lo, b, q1, q2, q3⟩ := r
            obtain ⟨b', us, q4, q5, q6⟩ := R.2 c lo vs ty q1 hc (by simp)
            rw [q2] at q4
            simp only [Option.some.injEq, Addr.mk.injEq, and_true] at q4
            subst q4
            refine ⟨b, 0, us, by rw [Nat.zero_add]; exact q3, e4 Ff hFf hL (R.mono (by simp; exact fun c hc => .inr hc)) us q5, fun j hj => by rw [Nat.zero_add]; exact q6 j hj⟩
          · cases h
        · cases h
    · cases h
  | .agg l, v, F, F', ds, z, h => by
    simp only [KS.norm] at h
    split at h
    · rename_i hagg
      obtain ⟨h1, h2⟩ := KS.norms_ok h
      refine ⟨h1, fun rest => ?_⟩
      obtain ⟨svs, e1, e2⟩ := h2 rest
      refine ⟨.agg svs, by simp only [KS.fill, e1], fun Ff hFf hL R val r => ?_⟩
      obtain ⟨cs', hcs, hrel⟩ : ∃ cs' : Array Value, val = .agg cs' ∧ SV.rels m ls v.cells cs'.toList := by
        cases v with
        | p t x =>
          simp only [SV.isAgg] at hagg
          simp only [SV.rel, hagg, if_true] at r
          obtain ⟨cs', e1, e2⟩ := r
          exact ⟨cs', e1, Ty.cells_rel e2⟩
        | agg l => simp only [SV.rel] at r; exact r
        | _ => simp [SV.isAgg] at hagg
      simp only [SV.rel]
      exact ⟨cs', hcs, e2 Ff hFf hL R cs'.toList hrel⟩
    · cases h
  | .fn f l, v, F, F', ds, z, h => by
    simp only [KS.norm] at h
    split at h
    · rename_i g vs
      cases hb : Nat.beq f g with
      | false => rw [hb] at h; cases h
      | true =>
        rw [hb] at h
        have := beq_nat hb; subst this
        simp only [cond_true] at h
        obtain ⟨h1, h2⟩ := KS.norms_ok h
        refine ⟨h1, fun rest => ?_⟩
        obtain ⟨svs, e3, e4⟩ := h2 rest
        refine ⟨.fn f svs, by simp only [KS.fill, e3], fun Ff hFf hL R val r => ?_⟩
        simp only [SV.rel] at r ⊢
        obtain ⟨us, e1, e2⟩ := r
        exact ⟨us, e1, e4 Ff hFf hL R us.toList e2⟩
    · cases h
  | .nils, v, F, F', ds, z, h => by
    simp only [KS.norm] at h
    split at h
    · cases h
      exact ⟨FExt.refl _, fun rest => ⟨.nils, by simp [KS.fill], fun Ff hFf hL R val r => by simp only [SV.rel] at r ⊢; exact r⟩⟩
    · cases h
  | .dead, v, F, F', ds, z, h => by
    simp only [KS.norm] at h
    cases h
    exact ⟨FExt.refl _, fun rest => ⟨.dead, by simp [KS.fill], fun Ff hFf hL R val r => by simp only [SV.rel]⟩⟩
  | .kv _, v, F, F', ds, z, h => by simp [KS.norm] at h
theorem KS.norms_ok : ∀ {l : List KS} {vs : List SV} {F F' : Found} {ds : List Dat} {z : List Nat}, KS.norms cs l vs F = some (ds, F', z) → FExt F F' ∧
    ∀ rest, ∃ svs, KS.fills l (ds ++ rest) = (svs, rest) ∧ ∀ (Ff : Found), FExt F' Ff → Leads2 Ff ls ls' → Reads m ls cs z → ∀ (vals : List Value), SV.rels m ls vs vals → SV.rels m ls' svs vals
  | [], vs, F, F', ds, z, h => by
    simp only [KS.norms] at h
    split at h
    · cases h
      exact ⟨FExt.refl _, fun rest => ⟨[], by simp [KS.fills], fun Ff hFf hL R vals r => by simp only [SV.rels] at r ⊢; exact r⟩⟩
    · cases h
  | k :: l, vs, F, F', ds, z, h => by
    simp only [KS.norms] at h
    split at h
    · rename_i v vs'
      split at h
      · rename_i ds1 F1 z1 h1
        split at h
        · rename_i es F2 z2 h2
          cases h
          obtain ⟨a1, a2⟩ := KS.norm_ok h1
          obtain ⟨b1, b2⟩ := KS.norms_ok h2
          refine ⟨a1.trans b1, fun rest => ?_⟩
          simp only [app_eq]
          obtain ⟨sv, c1, c2⟩ := a2 (es ++ rest)
          obtain ⟨svs, d1, d2⟩ := b2 rest
          refine ⟨sv :: svs, by simp only [List.append_assoc, KS.fills, c1, d1], fun Ff hFf hL R vals r => ?_⟩
          simp only [SV.rels] at r ⊢
          obtain ⟨val, us, rfl, r1, r2⟩ := r
          exact ⟨val, us, rfl, c2 Ff (b1.trans hFf) hL (R.mono (by simp; exact fun c hc => .inl hc)) val r1, d2 Ff hFf hL (R.mono (by simp; exact fun c hc => .inr hc)) us r2⟩
        · cases h
      · cases h
    · cases h
end

theorem fillSlots_get (k : Nat) (v : SV) (sl : List (Nat × SV)) (cs' : List Chunk) (t : Nat) : St.get ⟨(k, v) :: sl, cs'⟩ t = if k = t then v else St.get ⟨sl, cs'⟩ t := get_put ⟨sl, cs'⟩ k t v

theorem normSlots_ok {st : St} : ∀ {l : List (Nat × KS)} {F F' : Found} {ds : List Dat} {z : List Nat}, Tm.normSlots st l F = some (ds, F', z) → FExt F F' ∧
    ∀ (Ff : Found), FExt F' Ff → Leads2 Ff ls ls' → Reads m ls st.chunks z → ∀ (val : Nat → Value), (∀ t, (st.get t).rel m ls (val t)) → ∀ rest,
      ∃ sl, Tm.fillSlots l (ds ++ rest) = (sl, rest) ∧ ∀ t cs', (St.get ⟨sl, cs'⟩ t).rel m ls' (val t)
  | [], F, F', ds, z, h => by
    simp only [Tm.normSlots, Option.some.injEq, Prod.mk.injEq] at h
    obtain ⟨rfl, rfl, rfl⟩ := h
    exact ⟨FExt.refl _, fun Ff hFf hL R val r rest => ⟨[], by simp [Tm.fillSlots], fun t cs' => by simp [St.get, assoc, SV.rel]⟩⟩
  | (n, k) :: l, F, F', ds, z, h => by
    simp only [Tm.normSlots] at h
    split at h
    · rename_i ds1 F1 z1 h1
      split at h
      · rename_i es F2 z2 h2
        cases h
        obtain ⟨a1, a2⟩ := KS.norm_ok (m := m) (ls := ls) (ls' := ls') h1
        obtain ⟨b1, b2⟩ := normSlots_ok h2
        refine ⟨a1.trans b1, fun Ff hFf hL R val r rest => ?_⟩
        simp only [app_eq] at R ⊢
        obtain ⟨sv, c1, c2'⟩ := a2 (es ++ rest)
        have c2 := c2' Ff (b1.trans hFf) hL (R.mono (by simp; exact fun c hc => .inl hc)) (val n) (r n)
        obtain ⟨sl, d1, d2⟩ := b2 Ff hFf hL (R.mono (by simp; exact fun c hc => .inr hc)) val r rest
        refine ⟨(n, sv) :: sl, by simp only [List.append_assoc, Tm.fillSlots, c1, d1], fun t cs' => ?_⟩
        rw [fillSlots_get]
        split
        · rename_i e; subst e; exact c2
        · exact d2 t cs'
      · cases h
    · cases h

/-- How a chunk of the template comes from an old one. -/
def NewChunk (m : Mm) (ls ls' : List Loc) (cs : List Chunk) (Ff : Found) (k : KC) (idx : Nat) (nc : Chunk) : Prop :=
  (k = .gone ∧ nc = .gone) ∨ (k ≠ .gone ∧ ∃ c oc, assoc idx Ff = some (some c) ∧ cs[c]? = some oc ∧ ∀ w l B, oc.holds m ls w l B → nc.holds m ls' w l B) ∨
  (assoc idx Ff = some none ∧ ∃ t, 0 < t.width ∧ k = .own t ∧ nc = .own t [])

theorem normChunks_ok : ∀ {kcs : List KC} {i : Nat} {F F' : Found} {es : List Dat} {z : List Nat}, Tm.normChunks cs kcs i F = some (es, F', z) → FExt F F' ∧
    ∀ (Ff : Found), FExt F' Ff → Leads2 Ff ls ls' → Reads m ls cs z → ∀ rest, (Tm.fillChunks kcs (es ++ rest)).length = kcs.length ∧
      ∀ (j : Nat) k nc, kcs[j]? = some k → (Tm.fillChunks kcs (es ++ rest))[j]? = some nc → NewChunk m ls ls' cs Ff k (i + j) nc
  | [], i, F, F', es, z, h => by
    simp only [Tm.normChunks, Option.some.injEq, Prod.mk.injEq] at h
    obtain ⟨rfl, rfl, rfl⟩ := h
    exact ⟨FExt.refl _, fun Ff hFf hL R rest => ⟨by simp [Tm.fillChunks], fun j k nc h => by simp at h⟩⟩
  | k :: kcs, i, F, F', es, z, h => by
    have shift : ∀ {P : Nat → KC → Chunk → Prop} {nc0 : Chunk} {L : List Chunk}, P i k nc0 → (∀ (j : Nat) k nc, kcs[j]? = some k → L[j]? = some nc → P (i + 1 + j) k nc) →
        ∀ (j : Nat) k' nc, (k :: kcs)[j]? = some k' → (nc0 :: L)[j]? = some nc → P (i + j) k' nc := by
      intro P nc0 L h0 h1 j k' nc hk hn
      cases j with
      | zero => simp at hk hn; subst hk; subst hn; exact h0
      | succ j =>
        simp at hk hn
        have := h1 j k' nc hk hn
        rw [show i + (j + 1) = i + 1 + j by omega]; exact this
    cases k with
    | gone =>
      simp only [Tm.normChunks] at h
      obtain ⟨a1, a2⟩ := normChunks_ok h
      refine ⟨a1, fun Ff hFf hL R rest => ?_⟩
      obtain ⟨b1, b2⟩ := a2 Ff hFf hL R rest
      have e : Tm.fillChunks (.gone :: kcs) (es ++ rest) = .gone :: Tm.fillChunks kcs (es ++ rest) := by simp [Tm.fillChunks]
      rw [e]
      exact ⟨by simp [b1], shift (P := fun n k nc => NewChunk m ls ls' cs Ff k n nc) (.inl ⟨rfl, rfl⟩) b2⟩
    | box ks ty =>
      simp only [Tm.normChunks] at h
      split at h
      · rename_i ds F1 z1 h1
        split at h
        · rename_i es2 F2 z2 h2
          cases h
          obtain ⟨b1, b2⟩ := normChunks_ok h2
          split at h1
          · rename_i c hc
            simp only [nth_eq] at h1
            split at h1
            · rename_i vs ty' hcc
              cases hb : Nat.beq ty ty' with
              | false => rw [hb] at h1; cases h1
              | true =>
                rw [hb] at h1
                have := beq_nat hb; subst this
                simp only [cond_true] at h1
                obtain ⟨a1, a2⟩ := KS.norms_ok (m := m) (ls := ls) (ls' := ls') h1
                refine ⟨a1.trans b1, fun Ff hFf hL R rest => ?_⟩
                simp only [app_eq] at R ⊢
                have R1 := R.mono (z' := z1) (by simp; exact fun c hc => .inl hc)
                obtain ⟨d1, d2⟩ := b2 Ff hFf hL (R.mono (by simp; exact fun c hc => .inr hc)) rest
                obtain ⟨svs, e1, e2⟩ := a2 (es2 ++ rest)
                have hsv : KS.fills ks (ds ++ (es2 ++ rest)) = (svs, es2 ++ rest) ∧ ∀ vals, SV.rels m ls vs vals → SV.rels m ls' svs vals := ⟨e1, fun vals hv => e2 Ff (b1.trans hFf) hL R1 vals hv⟩
                have e : Tm.fillChunks (.box ks ty :: kcs) (ds ++ es2 ++ rest) = .box svs ty :: Tm.fillChunks kcs (es2 ++ rest) := by
                  simp only [Tm.fillChunks, List.append_assoc, hsv.1]
                rw [e]
                refine ⟨by simp [d1], shift (P := fun n k nc => NewChunk m ls ls' cs Ff k n nc) (.inr (.inl ⟨by simp, c, _, (a1.trans (b1.trans hFf)) i _ hc, hcc, fun w l B hh => ?_⟩)) d2⟩
                simp only [Chunk.holds] at hh ⊢
                obtain ⟨g, cs', q1, q2, q3, q4⟩ := hh
                exact ⟨g, cs', q1, q2, q3, hsv.2 _ q4⟩
            · cases h1
          · cases h1
          · cases h1
        · cases h
      · cases h
    | own t =>
      simp only [Tm.normChunks] at h
      split at h
      · rename_i ds F1 z1 h1
        split at h
        · rename_i es2 F2 z2 h2
          cases h
          obtain ⟨b1, b2⟩ := normChunks_ok h2
          split at h1
          · rename_i c hc
            simp only [nth_eq] at h1
            split at h1
            · rename_i u L hcc
              split at h1
              · rename_i x hx
                cases h1
                obtain ⟨eq, rfl⟩ := cast?_some hx
                simp only [Ty.slice.injEq] at eq
                subst eq
                refine ⟨b1, fun Ff hFf hL R rest => ?_⟩
                simp only [app_eq, List.nil_append] at R ⊢
                obtain ⟨d1, d2⟩ := b2 Ff hFf hL R rest
                have e : Tm.fillChunks (.own u :: kcs) ([⟨.slice u, L⟩] ++ es2 ++ rest) = .own u L :: Tm.fillChunks kcs (es2 ++ rest) := by
                  simp only [List.cons_append, List.nil_append, Tm.fillChunks, cast?_self]
                rw [e]
                refine ⟨by simp [d1], shift (P := fun n k nc => NewChunk m ls ls' cs Ff k n nc) (.inr (.inl ⟨by simp, c, _, (b1.trans hFf) i _ hc, hcc, fun w l B hh => hh⟩)) d2⟩
              · cases h1
            · cases h1
          · rename_i hc
            cases hbw : Nat.blt 0 t.width with
            | false => rw [hbw] at h1; cases h1
            | true =>
              rw [hbw] at h1
              cases h1
              refine ⟨b1, fun Ff hFf hL R rest => ?_⟩
              simp only [app_eq, List.nil_append] at R ⊢
              obtain ⟨d1, d2⟩ := b2 Ff hFf hL R rest
              have e : Tm.fillChunks (.own t :: kcs) ([⟨.slice t, ([] : List t.den)⟩] ++ es2 ++ rest) = .own t [] :: Tm.fillChunks kcs (es2 ++ rest) := by
                simp only [List.cons_append, List.nil_append, Tm.fillChunks, cast?_self]
              rw [e]
              exact ⟨by simp [d1], shift (P := fun n k nc => NewChunk m ls ls' cs Ff k n nc) (.inr (.inr ⟨(b1.trans hFf) i _ hc, t, blt_pos hbw, rfl, rfl⟩)) d2⟩
          · cases h1
        · cases h
      · cases h
    | map k v =>
      simp only [Tm.normChunks] at h
      split at h
      · rename_i ds F1 z1 h1
        split at h
        · rename_i es2 F2 z2 h2
          cases h
          obtain ⟨b1, b2⟩ := normChunks_ok h2
          split at h1
          · rename_i c hc
            simp only [nth_eq] at h1
            split at h1
            · rename_i k' v' L hcc
              split at h1
              · rename_i x hx
                cases h1
                obtain ⟨eq, rfl⟩ := cast_slice hx
                simp only [Ty.pair.injEq] at eq
                obtain ⟨rfl, rfl⟩ := eq
                refine ⟨b1, fun Ff hFf hL R rest => ?_⟩
                simp only [app_eq, List.nil_append] at R ⊢
                obtain ⟨d1, d2⟩ := b2 Ff hFf hL R rest
                have e : Tm.fillChunks (.map k' v' :: kcs) ([⟨.slice (.pair k' v'), L⟩] ++ es2 ++ rest) = .map k' v' L :: Tm.fillChunks kcs (es2 ++ rest) := by
                  simp only [List.cons_append, List.nil_append, Tm.fillChunks, cast?_self]
                rw [e]
                refine ⟨by simp [d1], shift (P := fun n k nc => NewChunk m ls ls' cs Ff k n nc) (.inr (.inl ⟨by simp, c, _, (b1.trans hFf) i _ hc, hcc, fun w l B hh => ?_⟩)) d2⟩
                simp only [Chunk.holds] at hh ⊢
                obtain ⟨g, es, clock, q1, q2, q3, q4, q5⟩ := hh
                exact ⟨g, es, clock, q1, q2, q3, q4, fun j e hj he => by
                  have := q5 j e hj he
                  simp only [SV.rel] at this ⊢
                  exact this⟩
              · cases h1
            · cases h1
          · cases h1
          · cases h1
        · cases h
      · cases h
end
end Go.Proofs.YtfkilmmldjajmaaSx
