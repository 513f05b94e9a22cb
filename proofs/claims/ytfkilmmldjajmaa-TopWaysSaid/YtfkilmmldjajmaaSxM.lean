/- Calls: what comes back is put in its place. -/
import Derived.Test.YtfkilmmldjajmaaSxL
namespace Go.Proofs.YtfkilmmldjajmaaSx
open Go
set_option linter.unusedVariables false
set_option linter.unusedSimpArgs false

def placeG {α : Type} (X : List α) : List Nat → List α → List α
  | _, [] => X
  | [], Y => X ++ Y
  | c :: l, y :: Y => placeG (X.set c y) l Y

theorem place_eq : ∀ (l : List Nat) (X Y : List Chunk), place X l Y = placeG X l Y
  | [], X, [] => rfl
  | _ :: _, X, [] => rfl
  | [], X, y :: Y => by simp only [place, placeG, app_eq]
  | c :: l, X, y :: Y => by simp only [place, placeG, setNth_eq]; exact place_eq l _ _

theorem placeG_len {α : Type} : ∀ {l : List Nat} {X Y : List α}, l.length ≤ Y.length → (placeG X l Y).length = X.length + (Y.length - l.length)
  | [], X, [], _ => by simp [placeG]
  | [], X, y :: Y, _ => by simp [placeG]
  | _ :: _, X, [], h => by simp at h
  | c :: l, X, y :: Y, h => by
    simp only [placeG]
    rw [placeG_len (by simpa using h)]
    simp
theorem placeG_out {α : Type} {c : Nat} : ∀ {l : List Nat} {X Y : List α}, c ∉ l → c < X.length → (placeG X l Y)[c]? = X[c]?
  | [], X, [], _, _ => by simp [placeG]
  | [], X, y :: Y, _, h => by simp only [placeG]; rw [List.getElem?_append_left h]
  | _ :: _, X, [], _, _ => by simp [placeG]
  | d :: l, X, y :: Y, h1, h2 => by
    simp only [placeG]
    simp at h1
    rw [placeG_out h1.2 (by simpa using h2), List.getElem?_set_ne (fun e => h1.1 e.symm)]
theorem placeG_in {α : Type} {c : Nat} : ∀ {l : List Nat} {X Y : List α} {i : Nat}, l.Nodup → (∀ d ∈ l, d < X.length) → l[i]? = some c → i < Y.length → (placeG X l Y)[c]? = Y[i]?
  | [], X, Y, i, _, _, h, _ => by simp at h
  | d :: l, X, [], i, _, _, _, h => by simp at h
  | d :: l, X, y :: Y, i, hn, hl, h, hi => by
    simp only [placeG]
    simp at hn
    cases i with
    | zero =>
      simp at h; subst h
      rw [placeG_out hn.1 (by simpa using hl d (by simp)), List.getElem?_set_self (hl d (by simp))]
      rfl
    | succ i =>
      simp at h hi
      rw [placeG_in hn.2 (fun e he => by simpa using hl e (by simp [he])) h hi]
      rfl
theorem placeG_new {α : Type} : ∀ {l : List Nat} {X Y : List α} (j : Nat), l.length ≤ Y.length → (placeG X l Y)[X.length + j]? = Y[l.length + j]?
  | [], X, [], j, _ => by simp [placeG]
  | [], X, y :: Y, j, _ => by simp only [placeG]; rw [List.getElem?_append_right (by omega)]; simp
  | _ :: _, X, [], j, h => by simp at h
  | c :: l, X, y :: Y, j, h => by
    simp only [placeG]
    have := placeG_new (X := X.set c y) (l := l) (Y := Y) j (by simpa using h)
    rw [List.length_set] at this
    rw [this]
    simp only [List.length_cons]
    rw [show l.length + 1 + j = (l.length + j) + 1 by omega]
    rfl

theorem upTo_get : ∀ (k n j : Nat), j < k → (upTo k n)[j]? = some (n + j)
  | 0, n, j, h => by omega
  | k + 1, n, j, h => by
    simp only [upTo]
    cases j with
    | zero => simp
    | succ j => simp only [List.getElem?_cons_succ]; rw [upTo_get k (n + 1) j (by omega)]; congr 1; omega

/-- A new number. -/
def rho (ρ : List Nat) (c : Nat) : Nat := match nth ρ c with | some d => d | none => c

theorem rho_get {α : Type} {l : List Nat} {X Y : List α} {n k i : Nat} (hX : X.length = n) (hY : Y.length = k) (hk : l.length ≤ k) (hn : l.Nodup) (hl : ∀ d ∈ l, d < n) (hi : i < k) :
    (placeG X l Y)[rho (app l (upTo k n)) i]? = Y[i]? := by
  subst hX; subst hY
  unfold rho
  rw [nth_eq, app_eq]
  by_cases h : i < l.length
  · rw [List.getElem?_append_left h, List.getElem?_eq_getElem h]
    exact placeG_in hn hl (List.getElem?_eq_getElem h) hi
  · rw [List.getElem?_append_right (by omega), upTo_get _ _ _ (by omega)]
    simp only
    rw [placeG_new _ hk]
    congr 1; omega

theorem rho_cases {l : List Nat} {n k c : Nat} (hk : l.length ≤ k) (hc : c < n + (k - l.length)) : (∃ i, i < k ∧ rho (app l (upTo k n)) i = c) ∨ (c < n ∧ c ∉ l) := by
  by_cases h : c ∈ l
  · obtain ⟨i, hi, rfl⟩ := List.getElem_of_mem h
    refine .inl ⟨i, by omega, ?_⟩
    unfold rho
    rw [nth_eq, app_eq, List.getElem?_append_left hi, List.getElem?_eq_getElem hi]
  · by_cases h2 : c < n
    · exact .inr ⟨h2, h⟩
    · refine .inl ⟨l.length + (c - n), by omega, ?_⟩
      unfold rho
      rw [nth_eq, app_eq, List.getElem?_append_right (by omega), upTo_get _ _ _ (by omega)]
      simp only; omega

theorem rho_mem {l : List Nat} {n k i : Nat} (hi : i < k) (hlt : rho (app l (upTo k n)) i < n) : ∃ c, l[i]? = some c ∧ rho (app l (upTo k n)) i = c := by
  unfold rho at hlt ⊢
  rw [nth_eq, app_eq] at hlt ⊢
  by_cases h : i < l.length
  · rw [List.getElem?_append_left h, List.getElem?_eq_getElem h] at hlt ⊢
    exact ⟨_, rfl, rfl⟩
  · rw [List.getElem?_append_right (by omega), upTo_get _ _ _ (by omega)] at hlt
    simp only at hlt; omega

section
variable {m : Mm} {ls ls' : List Loc} {ρ : List Nat}
mutual
theorem SV.ren_rel (h : ∀ i lo, ls[i]? = some lo → ls'[rho ρ i]? = some lo) : ∀ {s : SV} {v : Value}, s.rel m ls v → (s.ren ρ).rel m ls' v
  | .p t x, v, r => by simp only [SV.ren, SV.rel] at r ⊢; exact r
  | .cb b, v, r => by simp only [SV.ren, SV.rel] at r ⊢; exact r
  | .nils, v, r => by simp only [SV.ren, SV.rel] at r ⊢; exact r
  | .kv x, v, r => by simp only [SV.ren, SV.rel] at r ⊢; exact r
  | .own c, v, r => by simp only [SV.ren, SV.rel] at r ⊢; obtain ⟨l, h1, h2⟩ := r; exact ⟨l, h c l h1, h2⟩
  | .ptr c off, v, r => by simp only [SV.ren, SV.rel] at r ⊢; obtain ⟨l, b, h1, h2⟩ := r; exact ⟨l, b, h c l h1, h2⟩
  | .rp t x off, v, r => by simp only [SV.ren, SV.rel] at r ⊢; exact r
  | .rs l off, v, r => by simp only [SV.ren, SV.rel] at r ⊢; obtain ⟨b, o, us, h1, h2, h3⟩ := r; exact ⟨b, o, us, h1, SV.rens_rel h h2, h3⟩
  | .elo c i off, v, r => by simp only [SV.ren, SV.rel] at r ⊢; obtain ⟨l, b, o, h1, h2⟩ := r; exact ⟨l, b, o, h c l h1, h2⟩
  | .map c, v, r => by simp only [SV.ren, SV.rel] at r ⊢; obtain ⟨l, b, h1, h2⟩ := r; exact ⟨l, b, h c l h1, h2⟩
  | .agg l, v, r => by simp only [SV.ren, SV.rel] at r ⊢; obtain ⟨cs, h1, h2⟩ := r; exact ⟨cs, h1, SV.rens_rel h h2⟩
  | .tup l, v, r => by simp only [SV.ren, SV.rel] at r ⊢; obtain ⟨cs, h1, h2⟩ := r; exact ⟨cs, h1, SV.rens_rel h h2⟩
  | .fn f l, v, r => by simp only [SV.ren, SV.rel] at r ⊢; obtain ⟨cs, h1, h2⟩ := r; exact ⟨cs, h1, SV.rens_rel h h2⟩
  | .sub c lo n, v, r => by simp only [SV.ren, SV.rel] at r ⊢; obtain ⟨l, A, h1, h2⟩ := r; exact ⟨l, A, h c l h1, h2⟩
  | .ixp c off n k, v, r => by simp only [SV.ren, SV.rel] at r ⊢; obtain ⟨l, b, h1, h2⟩ := r; exact ⟨l, b, h c l h1, h2⟩
  | .pf t L, v, r => by simp only [SV.ren, SV.rel] at r ⊢; exact r
  | .dead, v, r => by simp only [SV.ren, SV.rel]
theorem SV.rens_rel (h : ∀ i lo, ls[i]? = some lo → ls'[rho ρ i]? = some lo) : ∀ {l : List SV} {vs : List Value}, SV.rels m ls l vs → SV.rels m ls' (SV.rens ρ l) vs
  | [], vs, r => by simp only [SV.rens, SV.rels] at r ⊢; exact r
  | s :: l, vs, r => by
    simp only [SV.rens, SV.rels] at r ⊢
    obtain ⟨v, us, rfl, h1, h2⟩ := r
    exact ⟨v, us, rfl, SV.ren_rel h h1, SV.rens_rel h h2⟩
end

theorem Chunk.ren_holds (h : ∀ i lo, ls[i]? = some lo → ls'[rho ρ i]? = some lo) {w : World} {lo : Loc} {B : List Nat} : ∀ {c : Chunk}, c.holds m ls w lo B → (c.ren ρ).holds m ls' w lo B
  | .box cells ty, r => by
    simp only [Chunk.ren, Chunk.holds] at r ⊢
    obtain ⟨g, cs, h1, h2, h3, h4⟩ := r
    exact ⟨g, cs, h1, h2, h3, SV.rens_rel h h4⟩
  | .own t L, r => by simp only [Chunk.ren, Chunk.holds] at r ⊢; exact r
  | .froz t L, r => by simp only [Chunk.ren, Chunk.holds] at r ⊢; exact r
  | .map k v L, r => by
    simp only [Chunk.ren, Chunk.holds] at r ⊢
    obtain ⟨g, es, clock, h1, h2, h3, h4, h5⟩ := r
    exact ⟨g, es, clock, h1, h2, h3, h4, fun i e hi he => by have := h5 i e hi he; simp only [SV.rel] at this ⊢; exact this⟩
  | .gone, r => by simp only [Chunk.ren, Chunk.holds] at r ⊢; exact r
end

/-- What does not lean on the frozen memory. -/
def SV.Free (s : SV) : Prop := ∀ (m m' : Mm) ls v, s.rel m ls v → s.rel m' ls v
def SV.FreeL (l : List SV) : Prop := ∀ (m m' : Mm) ls vs, SV.rels m ls l vs → SV.rels m' ls l vs

mutual
theorem KS.fill_free : ∀ {k : KS} (ds : List Dat), k.flat = true → (k.fill ds).1.Free
  | .p t, ds, h => by
    simp only [KS.flat] at h
    cases ds with
    | nil => simp only [KS.fill]; intro m m' ls v r; simp only [SV.rel]
    | cons d ds =>
      simp only [KS.fill]
      split
      · intro m m' ls v r
        simp only [SV.rel] at r ⊢
        split at r
        · rename_i ha; rw [if_pos ha]; obtain ⟨cs, h1, h2⟩ := r; exact ⟨cs, h1, Ty.rep_flat h h2⟩
        · rename_i ha; rw [if_neg ha]; exact Ty.rep_flat h r
      · intro m m' ls v r; simp only [SV.rel]
  | .own i, ds, h => by simp only [KS.fill]; intro m m' ls v r; simp only [SV.rel] at r ⊢; exact r
  | .ptr i off, ds, h => by simp only [KS.fill]; intro m m' ls v r; simp only [SV.rel] at r ⊢; exact r
  | .map i, ds, h => by simp only [KS.fill]; intro m m' ls v r; simp only [SV.rel] at r ⊢; exact r
  | .rp t off, ds, h => by simp [KS.flat] at h
  | .rs l off, ds, h => by simp [KS.flat] at h
  | .agg l, ds, h => by
    simp only [KS.flat] at h
    simp only [KS.fill]
    intro m m' ls v r
    simp only [SV.rel] at r ⊢
    obtain ⟨cs, h1, h2⟩ := r
    exact ⟨cs, h1, KS.fills_free ds h m m' ls _ h2⟩
  | .fn f l, ds, h => by
    simp only [KS.flat] at h
    simp only [KS.fill]
    intro m m' ls v r
    simp only [SV.rel] at r ⊢
    obtain ⟨cs, h1, h2⟩ := r
    exact ⟨cs, h1, KS.fills_free ds h m m' ls _ h2⟩
  | .kv v, ds, h => by simp only [KS.fill]; intro m m' ls v r; simp only [SV.rel] at r ⊢; exact r
  | .nils, ds, h => by simp only [KS.fill]; intro m m' ls v r; simp only [SV.rel] at r ⊢; exact r
  | .dead, ds, h => by simp only [KS.fill]; intro m m' ls v r; simp only [SV.rel]
theorem KS.fills_free : ∀ {l : List KS} (ds : List Dat), KS.flats l = true → SV.FreeL (KS.fills l ds).1
  | [], ds, h => by simp only [KS.fills]; intro m m' ls vs r; simp only [SV.rels] at r ⊢; exact r
  | k :: l, ds, h => by
    simp only [KS.flats] at h
    have h' : k.flat = true ∧ KS.flats l = true := by cases hk : k.flat <;> simp_all
    simp only [KS.fills]
    intro m m' ls vs r
    simp only [SV.rels] at r ⊢
    obtain ⟨v, us, rfl, h1, h2⟩ := r
    exact ⟨v, us, rfl, KS.fill_free ds h'.1 m m' ls _ h1, KS.fills_free _ h'.2 m m' ls _ h2⟩
end

theorem fillSlots_free : ∀ {l : List (Nat × KS)} (ds : List Dat), KS.flats (l.map (·.2)) = true → SV.FreeL ((Tm.fillSlots l ds).1.map (·.2))
  | [], ds, h => by simp only [Tm.fillSlots]; intro m m' ls vs r; exact r
  | (n, k) :: l, ds, h => by
    simp only [List.map_cons, KS.flats] at h
    have h' : k.flat = true ∧ KS.flats (l.map (·.2)) = true := by cases hk : k.flat <;> simp_all
    simp only [Tm.fillSlots, List.map_cons]
    intro m m' ls vs r
    simp only [SV.rels] at r ⊢
    obtain ⟨v, us, rfl, h1, h2⟩ := r
    exact ⟨v, us, rfl, KS.fill_free ds h'.1 m m' ls _ h1, fillSlots_free _ h'.2 m m' ls _ h2⟩

theorem resOf_free {sl : List (Nat × SV)} (h : SV.FreeL (sl.map (·.2))) : (resOf sl).Free := by
  match sl, h with
  | [], h => intro m m' ls v r; simp only [resOf, SV.rel] at r ⊢; obtain ⟨vs, h1, h2⟩ := r; exact ⟨vs, h1, h m m' ls _ h2⟩
  | [(n, v)], h =>
    intro m m' ls u r
    simp only [resOf] at r ⊢
    have := h m m' ls [u] (by simp only [List.map_cons, List.map_nil, SV.rels]; exact ⟨u, [], rfl, r, rfl⟩)
    simp only [List.map_cons, List.map_nil, SV.rels] at this
    obtain ⟨v', us, e, h1, _⟩ := this
    simp at e
    rw [e.1]; exact h1
  | _ :: _ :: _, h => intro m m' ls v r; simp only [resOf, SV.rel] at r ⊢; obtain ⟨vs, h1, h2⟩ := r; exact ⟨vs, h1, h m m' ls _ h2⟩

theorem fillChunks_free {m m' : Mm} {ls : List Loc} {w : World} : ∀ {l : List KC} (ds : List Dat), allL KC.flat l = true → ∀ (i : Nat) c lo B, (Tm.fillChunks l ds)[i]? = some c → c.holds m ls w lo B → c.holds m' ls w lo B := by
  intro l
  induction l with
  | nil => intro ds h i c lo B hc; simp [Tm.fillChunks] at hc
  | cons k l ih =>
    intro ds h i c lo B hc hh
    rw [allL_iff] at h
    have hk := h k (by simp)
    have hl : allL KC.flat l = true := by rw [allL_iff]; intro a ha; exact h a (by simp [ha])
    have gone : ∀ {c : Chunk}, c = .gone → c.holds m ls w lo B → c.holds m' ls w lo B := by intro c e h; subst e; simp only [Chunk.holds] at h ⊢; exact h
    cases k with
    | box ks ty =>
      simp only [Tm.fillChunks] at hc
      cases i with
      | succ i => simp only [List.getElem?_cons_succ] at hc; exact ih _ hl i c lo B hc hh
      | zero =>
        simp at hc; subst hc
        simp only [Chunk.holds] at hh ⊢
        obtain ⟨g, cs, h1, h2, h3, h4⟩ := hh
        exact ⟨g, cs, h1, h2, h3, KS.fills_free ds (by simpa [KC.flat] using hk) m m' ls _ h4⟩
    | own t =>
      cases ds with
      | nil =>
        simp only [Tm.fillChunks] at hc
        cases i with
        | succ i => simp only [List.getElem?_cons_succ] at hc; exact ih _ hl i c lo B hc hh
        | zero => simp at hc; exact gone hc.symm hh
      | cons d ds =>
        simp only [Tm.fillChunks] at hc
        cases i with
        | succ i => simp only [List.getElem?_cons_succ] at hc; exact ih _ hl i c lo B hc hh
        | zero =>
          simp at hc
          split at hc
          · subst hc
            simp only [Chunk.holds] at hh ⊢
            obtain ⟨h0, h1, h2, h3, hh⟩ := hh
            refine ⟨h0, h1, h2, h3, ?_⟩
            rcases hh with hh | ⟨g, o, cs, e, a1, a2, a3, a4, a5⟩
            · exact .inl hh
            · refine .inr ⟨g, o, cs, e, a1, a2, a3, a4, fun i hi => ?_⟩
              obtain ⟨us, b1, b2⟩ := a5 i hi
              exact ⟨us, Ty.rep_flat (by simpa [KC.flat] using hk) b1, b2⟩
          · exact gone hc.symm hh
    | map kt vt =>
      cases ds with
      | nil =>
        simp only [Tm.fillChunks] at hc
        cases i with
        | succ i => simp only [List.getElem?_cons_succ] at hc; exact ih _ hl i c lo B hc hh
        | zero => simp at hc; exact gone hc.symm hh
      | cons d ds =>
        simp only [Tm.fillChunks] at hc
        cases i with
        | succ i => simp only [List.getElem?_cons_succ] at hc; exact ih _ hl i c lo B hc hh
        | zero =>
          simp at hc
          split at hc
          · subst hc
            have hfl : kt.flat = true ∧ vt.flat = true := by simp only [KC.flat] at hk; cases ha : kt.flat <;> simp_all
            simp only [Chunk.holds] at hh ⊢
            obtain ⟨g, es, clock, h1, h2, h3, h4, h5⟩ := hh
            refine ⟨g, es, clock, h1, h2, h3, h4, fun i e hi he => ?_⟩
            have := h5 i e hi he
            simp only [SV.rel] at this ⊢
            refine ⟨?_, ?_⟩
            · have h6 := this.1
              split at h6 <;> rename_i hag
              · rw [if_pos hag]; obtain ⟨cs, q1, q2⟩ := h6; exact ⟨cs, q1, Ty.rep_flat hfl.1 q2⟩
              · rw [if_neg hag]; exact Ty.rep_flat hfl.1 h6
            · have h6 := this.2
              split at h6 <;> rename_i hag
              · rw [if_pos hag]; obtain ⟨cs, q1, q2⟩ := h6; exact ⟨cs, q1, Ty.rep_flat hfl.2 q2⟩
              · rw [if_neg hag]; exact Ty.rep_flat hfl.2 h6
          · exact gone hc.symm hh
    | gone =>
      simp only [Tm.fillChunks] at hc
      cases i with
      | succ i => simp only [List.getElem?_cons_succ] at hc; exact ih _ hl i c lo B hc hh
      | zero => simp at hc; exact gone hc.symm hh

theorem fillChunks_len : ∀ {l : List KC} (ds : List Dat), (Tm.fillChunks l ds).length = l.length
  | [], ds => by simp [Tm.fillChunks]
  | .box ks ty :: l, ds => by simp [Tm.fillChunks, fillChunks_len]
  | .own t :: l, [] => by simp [Tm.fillChunks, fillChunks_len]
  | .own t :: l, d :: ds => by simp [Tm.fillChunks, fillChunks_len]
  | .map k v :: l, [] => by simp [Tm.fillChunks, fillChunks_len]
  | .map k v :: l, d :: ds => by simp [Tm.fillChunks, fillChunks_len]
  | .gone :: l, ds => by simp [Tm.fillChunks, fillChunks_len]

theorem fill_chunks (tm : Tm) (ds : List Dat) : (tm.fill ds).chunks = Tm.fillChunks tm.chunks (Tm.fillSlots tm.slots ds).2 := by
  unfold Tm.fill
  cases Tm.fillSlots tm.slots ds; rfl
theorem fill_slots (tm : Tm) (ds : List Dat) : (tm.fill ds).slots = (Tm.fillSlots tm.slots ds).1 := by
  unfold Tm.fill
  cases Tm.fillSlots tm.slots ds; rfl
end Go.Proofs.YtfkilmmldjajmaaSx
