/- What told values and told chunks say of a world. -/
import Derived.Test.YtfkilmmldjajmaaSxA
import Derived.Laws.World
import Derived.Laws.Slices
import Derived.Below
namespace Go.Proofs.YtfkilmmldjajmaaSx
open Go
set_option linter.unusedVariables false
set_option linter.unusedSimpArgs false

def _root_.Go.Value.oneC : Value → Bool
  | .agg _ | .tuple _ => false
  | _ => true

section lists
variable {α : Type}
theorem lenL_eq (l : List α) : lenL l = l.length := by induction l <;> simp [lenL, *]
theorem nth_eq (l : List α) (i : Nat) : nth l i = l[i]? := by
  induction l generalizing i with
  | nil => simp [nth]
  | cons a l ih => cases i <;> simp [nth, ih]
theorem app_eq (l m : List α) : app l m = l ++ m := by induction l <;> simp [app, *]
theorem setNth_eq (a : α) (l : List α) (i : Nat) : setNth a l i = l.set i a := by
  induction l generalizing i with
  | nil => simp [setNth]
  | cons b l ih => cases i <;> simp [setNth, ih]
theorem takeL_eq (n : Nat) (l : List α) : takeL n l = l.take n := by
  induction l generalizing n with
  | nil => cases n <;> simp [takeL]
  | cons b l ih => cases n <;> simp [takeL, ih]
theorem dropL_eq (n : Nat) (l : List α) : dropL n l = l.drop n := by
  induction l generalizing n with
  | nil => cases n <;> simp [dropL]
  | cons b l ih => cases n <;> simp [dropL, ih]
theorem memL_iff (n : Nat) (l : List Nat) : memL n l = true ↔ n ∈ l := by
  induction l with
  | nil => simp [memL]
  | cons a l ih =>
    simp only [memL, List.mem_cons]
    cases h : Nat.beq a n with
    | true => simp [Nat.eq_of_beq_eq_true h]
    | false =>
      have : n ≠ a := fun e => by subst e; simp [Nat.beq_refl] at h
      simp [this, ih]
theorem allL_iff (f : α → Bool) (l : List α) : allL f l = true ↔ ∀ x ∈ l, f x = true := by
  induction l with
  | nil => simp [allL]
  | cons a l ih => cases h : f a <;> simp [allL, h, ih]
end lists

theorem cast?_some {t u : Ty} {x : t.den} {y : u.den} (h : cast? t u x = some y) : ∃ e : t = u, y = e ▸ x := by
  unfold cast? at h
  split at h
  · rename_i p hp
    exact ⟨p.down, (Option.some.inj h).symm⟩
  · cases h

abbrev Mm := Nat → Nat → Option Value

/-- What data says of cells. -/
def Ty.rep (m : Mm) : (t : Ty) → t.den → List Value → Prop
  | .int k, x, vs => vs = [.int k x]
  | .bool, x, vs => vs = [.bool x]
  | .str, x, vs => vs = [.string x]
  | .slice t, L, vs => ∃ (A : Option Addr) (c : Nat), vs = [.slice A (List.length L) c] ∧ List.length L ≤ c ∧
      (List.length L ≠ 0 → ∃ b o, A = some ⟨b, o, none⟩ ∧ ∀ i (h : i < List.length L), ∃ us, t.rep m (List.get L ⟨i, h⟩) us ∧ ∀ j, j < t.width → m b (o + i * t.width + j) = us[j]?)
  | .pair a b, x, vs => ∃ us ws, vs = us ++ ws ∧ a.rep m x.1 us ∧ b.rep m x.2 ws
  | .unit, _, vs => vs = []

theorem Ty.rep_length {m : Mm} : ∀ {t : Ty} {x : t.den} {vs : List Value}, t.rep m x vs → vs.length = t.width
  | .int _, _, _, h => by simp only [Ty.rep] at h; simp [h, Ty.width]
  | .bool, _, _, h => by simp only [Ty.rep] at h; simp [h, Ty.width]
  | .str, _, _, h => by simp only [Ty.rep] at h; simp [h, Ty.width]
  | .slice _, _, _, h => by simp only [Ty.rep] at h; obtain ⟨A, c, rfl, _⟩ := h; simp [Ty.width]
  | .pair a b, _, _, h => by
    simp only [Ty.rep] at h
    obtain ⟨us, ws, rfl, h1, h2⟩ := h
    simp [Ty.width, Ty.rep_length h1, Ty.rep_length h2]
  | .unit, _, _, h => by simp only [Ty.rep] at h; simp [h, Ty.width]

theorem Ty.rep_mono {m m' : Mm} (hm : ∀ b o v, m b o = some v → m' b o = some v) : ∀ {t : Ty} {x : t.den} {vs : List Value}, t.rep m x vs → t.rep m' x vs
  | .int _, _, _, h => h
  | .bool, _, _, h => h
  | .str, _, _, h => h
  | .slice t, L, vs, h => by
    simp only [Ty.rep] at h ⊢
    obtain ⟨A, c, h1, h2, h3⟩ := h
    refine ⟨A, c, h1, h2, fun hne => ?_⟩
    obtain ⟨b, o, ha, hall⟩ := h3 hne
    refine ⟨b, o, ha, fun i hi => ?_⟩
    obtain ⟨us, hr, hc⟩ := hall i hi
    refine ⟨us, Ty.rep_mono hm hr, fun j hj => ?_⟩
    have hl := Ty.rep_length hr
    have hj' : j < us.length := by omega
    rw [List.getElem?_eq_getElem hj']
    exact hm _ _ _ (by rw [hc j hj, List.getElem?_eq_getElem hj'])
  | .pair a b, _, _, h => by
    simp only [Ty.rep] at h ⊢
    obtain ⟨us, ws, h1, h2, h3⟩ := h
    exact ⟨us, ws, h1, Ty.rep_mono hm h2, Ty.rep_mono hm h3⟩
  | .unit, _, _, h => h

theorem Ty.rep_flat {m m' : Mm} : ∀ {t : Ty} {x : t.den} {vs : List Value}, t.flat = true → t.rep m x vs → t.rep m' x vs
  | .int _, _, _, _, h => h
  | .bool, _, _, _, h => h
  | .str, _, _, _, h => h
  | .slice t, L, vs, hf, h => by simp [Ty.flat] at hf
  | .pair a b, _, _, hf, h => by
    simp only [Ty.rep] at h ⊢
    obtain ⟨us, ws, h1, h2, h3⟩ := h
    have : a.flat = true ∧ b.flat = true := by simp only [Ty.flat] at hf; cases ha : a.flat <;> simp_all
    exact ⟨us, ws, h1, Ty.rep_flat this.1 h2, Ty.rep_flat this.2 h3⟩
  | .unit, _, _, _, h => h

/-- Where a chunk lies: a slice's head (or a box's address), and the width of its elements. -/
structure Loc where
  A : Option Addr
  len : Nat
  cap : Nat
  w : Nat

mutual
def SV.rel (m : Mm) (ls : List Loc) : SV → Value → Prop
  | .p t x, v => if t.agg = true then ∃ cs, v = .agg cs ∧ t.rep m x cs.toList else t.rep m x [v]
  | .cb b, v => v = .bool b.val
  | .nils, v => v = .slice none 0 0
  | .kv x, v => v = x ∧ x.oneC = true
  | .own c, v => ∃ l, ls[c]? = some l ∧ v = .slice l.A l.len l.cap
  | .ptr c off, v => ∃ l b, ls[c]? = some l ∧ l.A = some ⟨b, 0, none⟩ ∧ v = .pointer (some ⟨b, off, none⟩)
  | .rp t x off, v => ∃ b o us, v = .pointer (some ⟨b, o + off, none⟩) ∧ t.rep m x us ∧ ∀ j, j < t.width → m b (o + j) = us[j]?
  | .rs l off, v => ∃ b o us, v = .pointer (some ⟨b, o + off, none⟩) ∧ SV.rels m ls l us ∧ ∀ j, j < us.length → m b (o + j) = us[j]?
  | .elo c i off, v => ∃ l b o, ls[c]? = some l ∧ l.A = some ⟨b, o, none⟩ ∧ i < l.len ∧ v = .pointer (some ⟨b, o + i * l.w + off, none⟩)
  | .map c, v => ∃ l b, ls[c]? = some l ∧ l.A = some ⟨b, 0, none⟩ ∧ v = .map (some b)
  | .agg l, v => ∃ cs, v = .agg cs ∧ SV.rels m ls l cs.toList
  | .tup l, v => ∃ vs, v = .tuple vs ∧ SV.rels m ls l vs.toList
  | .fn f l, v => ∃ vs, v = .func (.func f) #[] vs ∧ SV.rels m ls l vs.toList
  | .sub c lo n, v => ∃ l A, ls[c]? = some l ∧ lo + n ≤ l.len ∧ v = .slice A n (l.cap - lo) ∧ (lo < l.cap → A = l.A.map (·.add (lo * l.w)))
  | .pf t L, v => ∃ A, v = .slice A L.length L.length ∧ (Ty.slice t).rep m L [v]
  | .ixp c off n k, v => ∃ l b, ls[c]? = some l ∧ l.A = some ⟨b, 0, none⟩ ∧ k < n ∧ v = .pointer (some ⟨b, off + k, none⟩)
  | .dead, _ => True
def SV.rels (m : Mm) (ls : List Loc) : List SV → List Value → Prop
  | [], vs => vs = []
  | s :: l, vs => ∃ v us, vs = v :: us ∧ SV.rel m ls s v ∧ SV.rels m ls l us
end

/-- More is known. -/
structure Ext (m : Mm) (ls : List Loc) (m' : Mm) (ls' : List Loc) : Prop where
  m : ∀ b o v, m b o = some v → m' b o = some v
  l : ∀ (i : Nat) (l : Loc), ls[i]? = some l → ls'[i]? = some l

theorem Ext.refl (m : Mm) (ls : List Loc) : Ext m ls m ls := ⟨fun _ _ _ h => h, fun _ _ h => h⟩
theorem Ext.trans {m m' m'' : Mm} {ls ls' ls'' : List Loc} (h : Ext m ls m' ls') (k : Ext m' ls' m'' ls'') : Ext m ls m'' ls'' :=
  ⟨fun b o v x => k.m b o v (h.m b o v x), fun i l x => k.l i l (h.l i l x)⟩

mutual
theorem SV.rel_ext {m m' : Mm} {ls ls' : List Loc} (E : Ext m ls m' ls') : ∀ {s : SV} {v : Value}, s.rel m ls v → s.rel m' ls' v
  | .p t x, v, h => by
    simp only [SV.rel] at h ⊢
    split at h <;> rename_i ha
    · obtain ⟨cs, h1, h2⟩ := h; rw [if_pos ha]; exact ⟨cs, h1, Ty.rep_mono E.m h2⟩
    · rw [if_neg ha]; exact Ty.rep_mono E.m h
  | .cb _, _, h => h
  | .nils, _, h => h
  | .kv _, _, h => h
  | .own c, _, h => by simp only [SV.rel] at h ⊢; obtain ⟨l, h1, h2⟩ := h; exact ⟨l, E.l _ _ h1, h2⟩
  | .ptr c off, _, h => by simp only [SV.rel] at h ⊢; obtain ⟨l, b, h1, h2⟩ := h; exact ⟨l, b, E.l _ _ h1, h2⟩
  | .rp t x off, _, h => by
    simp only [SV.rel] at h ⊢
    obtain ⟨b, o, us, h1, h2, h3⟩ := h
    refine ⟨b, o, us, h1, Ty.rep_mono E.m h2, fun j hj => ?_⟩
    have hl := Ty.rep_length h2
    have hj' : j < us.length := by omega
    rw [List.getElem?_eq_getElem hj']
    exact E.m _ _ _ (by rw [h3 j hj, List.getElem?_eq_getElem hj'])
  | .rs l off, _, h => by
    simp only [SV.rel] at h ⊢
    obtain ⟨b, o, us, h1, h2, h3⟩ := h
    refine ⟨b, o, us, h1, SV.rels_ext E h2, fun j hj => ?_⟩
    rw [List.getElem?_eq_getElem hj]
    exact E.m _ _ _ (by rw [h3 j hj, List.getElem?_eq_getElem hj])
  | .elo c i off, _, h => by simp only [SV.rel] at h ⊢; obtain ⟨l, b, o, h1, h2⟩ := h; exact ⟨l, b, o, E.l _ _ h1, h2⟩
  | .map c, _, h => by simp only [SV.rel] at h ⊢; obtain ⟨l, b, h1, h2⟩ := h; exact ⟨l, b, E.l _ _ h1, h2⟩
  | .agg l, _, h => by simp only [SV.rel] at h ⊢; obtain ⟨cs, h1, h2⟩ := h; exact ⟨cs, h1, SV.rels_ext E h2⟩
  | .tup l, _, h => by simp only [SV.rel] at h ⊢; obtain ⟨cs, h1, h2⟩ := h; exact ⟨cs, h1, SV.rels_ext E h2⟩
  | .fn f l, _, h => by simp only [SV.rel] at h ⊢; obtain ⟨cs, h1, h2⟩ := h; exact ⟨cs, h1, SV.rels_ext E h2⟩
  | .sub c lo n, _, h => by simp only [SV.rel] at h ⊢; obtain ⟨l, A, h1, h2⟩ := h; exact ⟨l, A, E.l _ _ h1, h2⟩
  | .pf t L, _, h => by simp only [SV.rel] at h ⊢; obtain ⟨A, h1, h2⟩ := h; exact ⟨A, h1, Ty.rep_mono E.m h2⟩
  | .ixp c off n k, _, h => by simp only [SV.rel] at h ⊢; obtain ⟨l, b, h1, h2⟩ := h; exact ⟨l, b, E.l _ _ h1, h2⟩
  | .dead, _, _ => by simp only [SV.rel]
theorem SV.rels_ext {m m' : Mm} {ls ls' : List Loc} (E : Ext m ls m' ls') : ∀ {l : List SV} {vs : List Value}, SV.rels m ls l vs → SV.rels m' ls' l vs
  | [], _, h => h
  | s :: l, _, h => by
    simp only [SV.rels] at h ⊢
    obtain ⟨v, us, h1, h2, h3⟩ := h
    exact ⟨v, us, h1, SV.rel_ext E h2, SV.rels_ext E h3⟩
end

theorem SV.rels_app {m : Mm} {ls : List Loc} : ∀ {l k : List SV} {vs us : List Value}, SV.rels m ls l vs → SV.rels m ls k us → SV.rels m ls (l ++ k) (vs ++ us)
  | [], k, vs, us, h, h' => by simp only [SV.rels] at h; subst h; exact h'
  | s :: l, k, vs, us, h, h' => by
    simp only [SV.rels] at h
    obtain ⟨v, ws, rfl, h2, h3⟩ := h
    exact ⟨v, ws ++ us, rfl, h2, SV.rels_app h3 h'⟩
theorem SV.rels_split {m : Mm} {ls : List Loc} : ∀ {l k : List SV} {vs : List Value}, SV.rels m ls (l ++ k) vs → ∃ us ws, vs = us ++ ws ∧ SV.rels m ls l us ∧ SV.rels m ls k ws
  | [], k, vs, h => ⟨[], vs, rfl, by simp only [SV.rels], h⟩
  | s :: l, k, vs, h => by
    simp only [List.cons_append, SV.rels] at h
    obtain ⟨v, us, rfl, h2, h3⟩ := h
    obtain ⟨a, b, rfl, h4, h5⟩ := SV.rels_split h3
    exact ⟨v :: a, b, rfl, by simp only [SV.rels]; exact ⟨v, a, rfl, h2, h4⟩, h5⟩
theorem SV.rels_length {m : Mm} {ls : List Loc} : ∀ {l : List SV} {vs : List Value}, SV.rels m ls l vs → vs.length = l.length
  | [], _, h => by simp only [SV.rels] at h; simp [h]
  | s :: l, _, h => by simp only [SV.rels] at h; obtain ⟨v, us, rfl, _, h3⟩ := h; simp [SV.rels_length h3]
theorem SV.rels_nth {m : Mm} {ls : List Loc} : ∀ {l : List SV} {vs : List Value} {i : Nat} {s : SV}, SV.rels m ls l vs → l[i]? = some s → ∃ v, vs[i]? = some v ∧ s.rel m ls v
  | [], _, _, _, _, hi => by simp at hi
  | a :: l, _, i, s, h, hi => by
    simp only [SV.rels] at h
    obtain ⟨v, us, rfl, h2, h3⟩ := h
    cases i with
    | zero => simp at hi; subst hi; exact ⟨v, by simp, h2⟩
    | succ i => simp at hi; simpa using SV.rels_nth h3 hi
theorem SV.rels_take {m : Mm} {ls : List Loc} {l : List SV} {vs : List Value} (n : Nat) (h : SV.rels m ls l vs) : SV.rels m ls (l.take n) (vs.take n) := by
  by_cases hn : n ≤ l.length
  · have hs : l = l.take n ++ l.drop n := (List.take_append_drop n l).symm
    rw [hs] at h
    obtain ⟨us, ws, rfl, h1, h2⟩ := SV.rels_split h
    have hl := SV.rels_length h1
    have : us.length = n := by rw [hl]; simp [hn]
    have e : (us ++ ws).take n = us := by rw [← this]; simp
    rw [e]; exact h1
  · have hl := SV.rels_length h
    rw [List.take_of_length_le (by omega), List.take_of_length_le (by omega)]; exact h
theorem SV.rels_drop {m : Mm} {ls : List Loc} {l : List SV} {vs : List Value} (n : Nat) (h : SV.rels m ls l vs) : SV.rels m ls (l.drop n) (vs.drop n) := by
  by_cases hn : n ≤ l.length
  · have hs : l = l.take n ++ l.drop n := (List.take_append_drop n l).symm
    rw [hs] at h
    obtain ⟨us, ws, rfl, h1, h2⟩ := SV.rels_split h
    have hl := SV.rels_length h1
    have : us.length = n := by rw [hl]; simp [hn]
    have e : (us ++ ws).drop n = ws := by rw [← this]; simp
    rw [e]; exact h2
  · have hl := SV.rels_length h
    rw [List.drop_of_length_le (by omega), List.drop_of_length_le (by omega)]; simp only [SV.rels]

/-- Data's cells. -/
theorem Ty.cells_rel {m : Mm} {ls : List Loc} : ∀ {t : Ty} {x : t.den} {vs : List Value}, t.rep m x vs → SV.rels m ls (t.cells x) vs
  | .int k, x, vs, h => by simp only [Ty.rep] at h; subst h; simp [Ty.cells, SV.rels, SV.rel, Ty.agg, Ty.rep]
  | .bool, x, vs, h => by simp only [Ty.rep] at h; subst h; simp [Ty.cells, SV.rels, SV.rel, Ty.agg, Ty.rep]
  | .str, x, vs, h => by simp only [Ty.rep] at h; subst h; simp [Ty.cells, SV.rels, SV.rel, Ty.agg, Ty.rep]
  | .slice t, x, vs, h => by
    have h' := h
    simp only [Ty.rep] at h
    obtain ⟨A, c, rfl, _⟩ := h
    simp only [Ty.cells, SV.rels]
    exact ⟨_, [], rfl, by simp only [SV.rel, Ty.agg, Bool.false_eq_true, if_false]; exact h', rfl⟩
  | .pair a b, (x, y), vs, h => by
    simp only [Ty.rep] at h
    obtain ⟨us, ws, rfl, h1, h2⟩ := h
    simp only [Ty.cells, app_eq]
    exact SV.rels_app (Ty.cells_rel h1) (Ty.cells_rel h2)
  | .unit, _, vs, h => by simp only [Ty.rep] at h; subst h; simp [Ty.cells, SV.rels]

theorem SV.cells_rel {m : Mm} {ls : List Loc} {s : SV} {v : Value} (h : s.rel m ls v) (hs : s.one = true ∨ (∃ t x, s = .p t x) ∨ ∃ l, s = .agg l) : SV.rels m ls s.cells v.cells.toList := by
  cases s with
  | p t x =>
    simp only [SV.rel] at h
    split at h
    · obtain ⟨cs, rfl, h2⟩ := h
      exact Ty.cells_rel h2
    · rename_i ha
      simp only [SV.cells]
      have : v.cells.toList = [v] := by
        cases t <;> simp [Ty.agg] at ha <;> simp only [Ty.rep] at h
        · simp at h; subst h; rfl
        · simp at h; subst h; rfl
        · simp at h; subst h; rfl
        · obtain ⟨A, c, h1, _⟩ := h; simp at h1; subst h1; rfl
      rw [this]
      exact Ty.cells_rel h
  | agg l => simp only [SV.rel] at h; obtain ⟨cs, rfl, h2⟩ := h; exact h2
  | tup l => rcases hs with h | ⟨_, _, h⟩ | ⟨_, h⟩ <;> simp [SV.one] at h
  | dead => rcases hs with h | ⟨_, _, h⟩ | ⟨_, h⟩ <;> simp [SV.one] at h
  | cb b => simp only [SV.rel] at h; subst h; simp [SV.cells, SV.rels, SV.rel, Value.cells]
  | nils => simp only [SV.rel] at h; subst h; simp [SV.cells, SV.rels, SV.rel, Value.cells]
  | kv x => 
    have h' := h
    simp only [SV.rel] at h
    obtain ⟨rfl, ho⟩ := h
    have : v.cells.toList = [v] := by cases v <;> simp [Value.oneC] at ho <;> rfl
    rw [this]; simp only [SV.cells, SV.rels]; exact ⟨_, _, rfl, h', rfl⟩
  | own c => 
    have h' := h
    simp only [SV.rel] at h; obtain ⟨l, h1, rfl⟩ := h
    simp only [SV.cells, SV.rels, Value.cells]; exact ⟨_, _, rfl, h', rfl⟩
  | ptr c off => 
    have h' := h
    simp only [SV.rel] at h; obtain ⟨l, b, h1, h2, rfl⟩ := h
    simp only [SV.cells, SV.rels, Value.cells]; exact ⟨_, _, rfl, h', rfl⟩
  | rp t x off => 
    have h' := h
    simp only [SV.rel] at h; obtain ⟨l, b, h1, rfl, h2⟩ := h
    simp only [SV.cells, SV.rels, Value.cells]; exact ⟨_, _, rfl, h', rfl⟩
  | rs l off =>
    have h' := h
    simp only [SV.rel] at h; obtain ⟨b, o, us, rfl, h2⟩ := h
    simp only [SV.cells, SV.rels, Value.cells]; exact ⟨_, _, rfl, h', rfl⟩
  | elo c i off => 
    have h' := h
    simp only [SV.rel] at h; obtain ⟨l, b, o, h1, h2, h3, rfl⟩ := h
    simp only [SV.cells, SV.rels, Value.cells]; exact ⟨_, _, rfl, h', rfl⟩
  | map c => 
    have h' := h
    simp only [SV.rel] at h; obtain ⟨l, b, h1, h2, rfl⟩ := h
    simp only [SV.cells, SV.rels, Value.cells]; exact ⟨_, _, rfl, h', rfl⟩
  | fn f l => 
    have h' := h
    simp only [SV.rel] at h; obtain ⟨vs, rfl, h2⟩ := h
    simp only [SV.cells, SV.rels, Value.cells]; exact ⟨_, _, rfl, h', rfl⟩
  | sub c lo n =>
    have h' := h
    simp only [SV.rel] at h; obtain ⟨l, A, h1, h2, rfl, _⟩ := h
    simp only [SV.cells, SV.rels, Value.cells]; exact ⟨_, _, rfl, h', rfl⟩
  | ixp c off n k =>
    have h' := h
    simp only [SV.rel] at h; obtain ⟨l, b, h1, h2, h3, rfl⟩ := h
    simp only [SV.cells, SV.rels, Value.cells]; exact ⟨_, _, rfl, h', rfl⟩
  | pf t L =>
    have h' := h
    simp only [SV.rel] at h; obtain ⟨A, rfl, h2⟩ := h
    simp only [SV.cells, SV.rels, Value.cells]; exact ⟨_, _, rfl, h', rfl⟩

/-- A one-cell told value is a one-cell value. -/
theorem SV.oneC_of {m : Mm} {ls : List Loc} {s : SV} {v : Value} (h : s.rel m ls v) (hs : s.one = true) : v.oneC = true := by
  cases s with
  | p t x =>
    cases t <;> simp [SV.one, Ty.agg] at hs <;> simp only [SV.rel, Ty.agg, Bool.false_eq_true, if_false, Ty.rep] at h
    · simp at h; subst h; rfl
    · simp at h; subst h; rfl
    · simp at h; subst h; rfl
    · obtain ⟨A, c, h1, _⟩ := h; simp at h1; subst h1; rfl
  | agg l => simp [SV.one] at hs
  | tup l => simp [SV.one] at hs
  | dead => simp [SV.one] at hs
  | cb b => simp only [SV.rel] at h; subst h; rfl
  | nils => simp only [SV.rel] at h; subst h; rfl
  | kv x => simp only [SV.rel] at h; exact h.1 ▸ h.2
  | own c => simp only [SV.rel] at h; obtain ⟨l, h1, rfl⟩ := h; rfl
  | ptr c off => simp only [SV.rel] at h; obtain ⟨l, b, h1, h2, rfl⟩ := h; rfl
  | rp t x off => simp only [SV.rel] at h; obtain ⟨l, b, h1, rfl, h2⟩ := h; rfl
  | rs l off => simp only [SV.rel] at h; obtain ⟨b, o, us, rfl, h2⟩ := h; rfl
  | elo c i off => simp only [SV.rel] at h; obtain ⟨l, b, o, h1, h2, h3, rfl⟩ := h; rfl
  | map c => simp only [SV.rel] at h; obtain ⟨l, b, h1, h2, rfl⟩ := h; rfl
  | fn f l => simp only [SV.rel] at h; obtain ⟨vs, rfl, h2⟩ := h; rfl
  | sub c lo n => simp only [SV.rel] at h; obtain ⟨l, A, h1, h2, rfl, _⟩ := h; rfl
  | ixp c off n k => simp only [SV.rel] at h; obtain ⟨l, b, h1, h2, h3, rfl⟩ := h; rfl
  | pf t L => simp only [SV.rel] at h; obtain ⟨A, rfl, h2⟩ := h; rfl

/-- What a chunk says of a world; `B`: the blocks that are its own. -/
def Chunk.holds (m : Mm) (ls : List Loc) (w : World) (l : Loc) (B : List Nat) : Chunk → Prop
  | .box cells ty => ∃ g cs, l.A = some ⟨g, 0, none⟩ ∧ B = [g] ∧ w.heap[g]? = some (.cells cs ty (0, 0)) ∧ SV.rels m ls cells cs.toList
  | .own t L => 0 < t.width ∧ l.w = t.width ∧ l.len = List.length L ∧ List.length L ≤ l.cap ∧
      ((l.cap = 0 ∧ B = []) ∨
        ∃ g o cs e, l.A = some ⟨g, o, none⟩ ∧ B = [g] ∧ w.heap[g]? = some (.cells cs e (0, 0)) ∧ o + l.cap * t.width ≤ cs.size ∧
          ∀ i (h : i < List.length L), ∃ us, t.rep m (List.get L ⟨i, h⟩) us ∧ ∀ j, j < t.width → cs[o + i * t.width + j]? = us[j]?)
  | .froz t L => B = [] ∧ l.w = t.width ∧ (Ty.slice t).rep m L [.slice l.A l.len l.cap]
  | .map k v L => ∃ g es clock, l.A = some ⟨g, 0, none⟩ ∧ B = [g] ∧ w.heap[g]? = some (.map es clock) ∧ es.size = List.length L ∧
      ∀ (i : Nat) e (h : i < List.length L), es[i]? = some e → SV.rel m ls (.p k (L[i]).1) e.key ∧ SV.rel m ls (.p v (L[i]).2) e.val
  | .gone => B = []

/-- The world at a function's begin, the frozen memory, and the blocks that are lent. -/
structure Base where
  w0 : World
  m0 : Mm
  lent : List Nat
  ls0 : List Loc

structure Mem (bs : Base) (m : Mm) (ls : List Loc) (Bs : List (List Nat)) (cs : List Chunk) (w : World) : Prop where
  os : w.os = bs.w0.os
  tape : w.tape = bs.w0.tape
  output : w.output = bs.w0.output
  size : bs.w0.heap.size ≤ w.heap.size
  old : ∀ b, b < bs.w0.heap.size → b ∉ bs.lent → w.heap[b]? = bs.w0.heap[b]?
  m0 : ∀ b o v, bs.m0 b o = some v → m b o = some v
  mnew : ∀ b o v, m b o = some v → bs.m0 b o = some v ∨ bs.w0.heap.size ≤ b ∨ b ∈ bs.lent
  mle : ∀ b o v, m b o = some v → w.cell? ⟨b, o, none⟩ = some v
  pre : ∀ (i : Nat) l, bs.ls0[i]? = some l → ls[i]? = some l
  nl : ls.length = cs.length
  nB : Bs.length = cs.length
  holds : ∀ (i : Nat) c l B, cs[i]? = some c → ls[i]? = some l → Bs[i]? = some B → c.holds m ls w l B
  apart : ∀ (i j : Nat) B B', Bs[i]? = some B → Bs[j]? = some B' → i ≠ j → ∀ b ∈ B, b ∉ B'
  fresh : ∀ (i : Nat) B, Bs[i]? = some B → ∀ b ∈ B, b < w.heap.size ∧ (bs.w0.heap.size ≤ b ∨ b ∈ bs.lent) ∧ ∀ o, m b o = none

theorem Mem.at {bs : Base} {m : Mm} {ls : List Loc} {Bs : List (List Nat)} {cs : List Chunk} {w : World} (M : Mem bs m ls Bs cs w) {i : Nat} {c : Chunk} (h : cs[i]? = some c) :
    ∃ l B, ls[i]? = some l ∧ Bs[i]? = some B ∧ c.holds m ls w l B := by
  have hi : i < cs.length := by
    rcases Nat.lt_or_ge i cs.length with h' | h'
    · exact h'
    · rw [List.getElem?_eq_none h'] at h; cases h
  have h1 : i < ls.length := by rw [M.nl]; exact hi
  have h2 : i < Bs.length := by rw [M.nB]; exact hi
  exact ⟨ls[i], Bs[i], List.getElem?_eq_getElem h1, List.getElem?_eq_getElem h2, M.holds i c _ _ h (List.getElem?_eq_getElem h1) (List.getElem?_eq_getElem h2)⟩

/-- A chunk depends on its own blocks alone. -/
theorem Chunk.holds_of {m m' : Mm} {ls ls' : List Loc} (E : Ext m ls m' ls') {w w' : World} {l : Loc} {B : List Nat} (hw : ∀ b ∈ B, w'.heap[b]? = w.heap[b]?) :
    ∀ {c : Chunk}, c.holds m ls w l B → c.holds m' ls' w' l B
  | .box cells ty, h => by
    simp only [Chunk.holds] at h ⊢
    obtain ⟨g, cs, h1, rfl, h3, h4⟩ := h
    exact ⟨g, cs, h1, rfl, by rw [hw g (by simp)]; exact h3, SV.rels_ext E h4⟩
  | .own t L, h => by
    simp only [Chunk.holds] at h ⊢
    obtain ⟨h0, h1, h2, h3, h⟩ := h
    refine ⟨h0, h1, h2, h3, ?_⟩
    rcases h with h | ⟨g, o, cs, e, h4, rfl, h5, h6, h7⟩
    · exact .inl h
    · refine .inr ⟨g, o, cs, e, h4, rfl, by rw [hw g (by simp)]; exact h5, h6, fun i hi => ?_⟩
      obtain ⟨us, hr, hc⟩ := h7 i hi
      exact ⟨us, Ty.rep_mono E.m hr, hc⟩
  | .froz t L, h => by simp only [Chunk.holds] at h ⊢; exact ⟨h.1, h.2.1, Ty.rep_mono E.m h.2.2⟩
  | .map k v L, h => by
    simp only [Chunk.holds] at h ⊢
    obtain ⟨g, es, clock, h1, rfl, h3, h4, h5⟩ := h
    exact ⟨g, es, clock, h1, rfl, by rw [hw g (by simp)]; exact h3, h4, fun i e hi he => ⟨SV.rel_ext E (h5 i e hi he).1, SV.rel_ext E (h5 i e hi he).2⟩⟩
  | .gone, h => h
end Go.Proofs.YtfkilmmldjajmaaSx
