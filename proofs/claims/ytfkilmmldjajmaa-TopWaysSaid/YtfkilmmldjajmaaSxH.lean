/- A region is done as its trace tells, in whatever order. -/
import Derived.Test.YtfkilmmldjajmaaSxG
namespace Go.Proofs.YtfkilmmldjajmaaSx
open Go
set_option linter.unusedVariables false
set_option linter.unusedSimpArgs false

def SlotsE (m : Mm) (ls : List Loc) (E : Nat → SV) (a : Act) : Prop := ∀ t, (E t).rel m ls (a.eval (.tmp t))

theorem put_eval (a : Act) (d : Option Nat) (v : Value) (t : Nat) : (a.put d v).eval (.tmp t) = if d = some t ∧ t < a.tmps.size then v else a.eval (.tmp t) := by
  cases d with
  | none => simp [Act.put]
  | some d =>
    simp only [Act.put, Act.eval, Option.some.injEq]
    by_cases h : d = t
    · subst h
      by_cases hl : d < a.tmps.size
      · simp [hl]
      · simp [hl]
    · simp [h, Array.getElem?_setIfInBounds_ne h]

theorem put_size (a : Act) (d : Option Nat) (v : Value) : (a.put d v).tmps.size = a.tmps.size := by
  cases d <;> simp [Act.put]

theorem put_defers (a : Act) (d : Option Nat) (v : Value) : (a.put d v).defers = a.defers := by cases d <;> rfl

theorem SlotsE.put {m m' : Mm} {ls ls' : List Loc} {E : Nat → SV} {a : Act} {n : Nat} (h : SlotsE m ls E a) (X : Ext m ls m' ls') (hn : a.tmps.size = n) (d : Option Nat) {v : SV} {v' : Value} (hv : v.rel m' ls' v') :
    SlotsE m' ls' (updE n E d v) (a.put d v') := by
  intro t
  rw [put_eval, hn]
  unfold updE
  split
  · exact hv
  · exact SV.rel_ext X (h t)

section
variable {P : Program} {T : TT} {n : Nat} {ops : Array Oper} {D : Trd} {log : List Log}

theorem wanted_eq {j : Nat} {o : Oper} (S : StepAt P T n ops.toList D log j o) {m : Mm} {ls : List Loc} {a : Act}
    (hg : ∀ g want d og, o.guard = some (g, want) → ops.toList[g]? = some og → og.dst = some d → (D.E j d).rel m ls (a.eval (.tmp d))) :
    Region.wanted o (yielded ops a.tmps) = D.ran j := by
  rcases S.guard with ⟨h1, h2⟩ | ⟨g, want, d, og, h1, h2, h3, h4, h5⟩ | ⟨g, want, d, og, h1, h2, h3, h4⟩
  · simp [Region.wanted, h1, h2]
  · have hv := h5 m ls _ (hg g want d og h1 h2 h3)
    have h2' : ops[g]? = some og := by simpa using h2
    have hget : a.tmps[d]? = some undef ∨ a.tmps[d]? = none := by
      simp only [Act.eval, Array.getD] at hv
      split at hv
      · rename_i hlt
        rw [Array.getElem?_eq_getElem hlt]
        have : a.tmps[d] = undef := hv
        exact .inl (by rw [this])
      · rename_i hlt
        exact .inr (Array.getElem?_eq_none (by omega))
    simp only [Region.wanted, h1, yielded, h2', Option.bind_some, h3, h4]
    rcases hget with e | e <;> rw [e] <;> rfl
  · have hv := h4 m ls _ (hg g want d og h1 h2 h3)
    have hget : a.tmps[d]? = some (.bool (if D.ran j = true then want else !want)) := by
      simp only [Act.eval, Array.getD] at hv
      split at hv
      · rename_i hlt
        rw [Array.getElem?_eq_getElem hlt]
        have : a.tmps[d] = .bool (if D.ran j = true then want else !want) := hv
        rw [this]
      · cases hv
    have h2' : ops[g]? = some og := by simpa using h2
    simp only [Region.wanted, h1, yielded, h2', Option.bind_some, h3, hget]
    cases D.ran j <;> cases want <;> rfl

/-- One operation that runs, at memory where it does as told. -/
theorem run_step (hT : TOk P T) {j : Nat} {o : Oper} (S : StepAt P T n ops.toList D log j o) (hr : D.ran j = true) {bs : Base} {m : Mm} {ls : List Loc} {Bs : List (List Nat)} {C1 : List Chunk} {w : World} {a : Act}
    (M : Mem bs m ls Bs C1 w) (hu : ∀ t, .tmp t ∈ uses o.op → (D.E j t).rel m ls (a.eval (.tmp t)))
    (hC : (D.wr j = false ∧ exRd T o.op (D.σ j) C1 some = some (D.v j)) ∨ (D.wr j = true ∧ C1 = D.C j))
    {Kp : Act → World → Prop} {Q : Exit → Act → World → Prop}
    (hK : ∀ m' ls' Bs' v' w', Ext m ls m' ls' → Mem bs m' ls' Bs' (if D.wr j = true then D.C (j + 1) else C1) w' → (D.v j).rel m' ls' v' → Kp (a.put o.dst v') w') : o.wp P a w Kp Q := by
  have hσ : ∀ x, (D.σ j x).rel m ls (a.eval x) := fun x => S.looks hr x m ls a (fun t ht hx => by subst ht; exact hu t hx)
  rcases hC with ⟨h1, h2⟩ | ⟨h1, rfl⟩
  · obtain ⟨v', e1, e2⟩ := rd_ok hT h2 bs m ls Bs w a.eval o rfl M hσ (fun _ => rfl)
    unfold Oper.wp
    rw [e2]
    exact hK m ls Bs v' w (Ext.refl _ _) (by rw [h1]; simpa using M) e1
  · refine (S.write h1).1.2.2 bs m ls Bs w a o rfl M hσ Kp Q ?_
    intro m' ls' Bs' v' w' X M' hv
    exact hK m' ls' Bs' v' w' X (by rw [h1]; simpa using M') hv

/-- The order as it stands. -/
theorem region_plain (hT : TOk P T) (hS : ∀ j, j < ops.size → ∃ o, StepAt P T n ops.toList D log j o) {bs : Base} {Q : Exit → Act → World → Prop} {df : List Deferred}
    (hQ : ∀ m ls Bs a w, Mem bs m ls Bs (D.C ops.size) w → SlotsE m ls (D.E ops.size) a → a.tmps.size = n → a.defers = df → Q .normal a w) :
    ∀ (k j : Nat), j + k = ops.size → ∀ m ls Bs a w, Mem bs m ls Bs (D.C j) w → SlotsE m ls (D.E j) a → a.tmps.size = n → a.defers = df → wpOps P ops Q (List.range' j k) a w
  | 0, j, hj, m, ls, Bs, a, w, M, hs, hn, hd => by
    simp only [List.range'_zero, wpOps]
    have : j = ops.size := by omega
    subst this
    exact hQ m ls Bs a w M hs hn hd
  | k + 1, j, hj, m, ls, Bs, a, w, M, hs, hn, hd => by
    obtain ⟨o, S⟩ := hS j (by omega)
    have hop : ops[j]? = some o := by have := S.op; simpa using this
    simp only [List.range'_succ, wpOps, hop]
    rw [wanted_eq S (fun _ _ d _ _ _ _ => hs d)]
    have ih := region_plain hT hS hQ k (j + 1) (by omega)
    cases hr : D.ran j with
    | true =>
      simp only [if_true]
      refine .inl (run_step hT S hr M (fun t _ => hs t) ?_ ?_)
      · cases hw : D.wr j with
        | true => exact .inr ⟨rfl, rfl⟩
        | false => exact .inl ⟨rfl, (S.read hr hw).1⟩
      · intro m' ls' Bs' v' w' X M' hv
        refine ih m' ls' Bs' _ w' ?_ ?_ (by rw [put_size]; exact hn) (by rw [put_defers]; exact hd)
        · cases hw : D.wr j with
          | true => rw [hw] at M'; simpa using M'
          | false => rw [hw] at M'; rw [(S.read hr hw).2.1]; simpa using M'
        · rw [S.e]; exact hs.put X hn o.dst hv
    | false =>
      simp only [Bool.false_eq_true, if_false]
      obtain ⟨h1, h2, h3⟩ := S.skip hr
      refine ih m ls Bs _ w (by rw [h2]; exact M) ?_ (by rw [put_size]; exact hn) (by rw [put_defers]; exact hd)
      rw [S.e, h1]
      exact hs.put (Ext.refl _ _) hn o.dst (by simp only [SV.rel]; exact ⟨#[], rfl, by simp [SV.rels]⟩)

/-! whatever order -/

theorem enum_get {α : Type} : ∀ (l : List α) (i j : Nat) (a : α), l[j]? = some a → (i + j, a) ∈ enum i l
  | [], i, j, a, h => by simp at h
  | b :: l, i, j, a, h => by
    cases j with
    | zero => simp at h; subst h; simp [enum]
    | succ j =>
      simp at h
      have := enum_get l (i + 1) j a h
      simp only [enum, List.mem_cons]
      right
      have e : i + (j + 1) = i + 1 + j := by omega
      rw [e]; exact this

theorem union_mem (x : Nat) : ∀ (b a : List Nat), x ∈ union a b ↔ x ∈ a ∨ x ∈ b
  | [], a => by simp [union]
  | y :: b, a => by
    simp only [union]
    cases h : memL y a with
    | true =>
      simp only [cond_true, union_mem x b a, List.mem_cons]
      have := (memL_iff y a).1 h
      constructor
      · rintro (h | h)
        · exact .inl h
        · exact .inr (.inr h)
      · rintro (h | rfl | h)
        · exact .inl h
        · exact .inl this
        · exact .inr h
    | false =>
      simp only [cond_false, union_mem x b (y :: a), List.mem_cons]
      constructor
      · rintro ((h | h) | h)
        · exact .inr (.inl h)
        · exact .inl h
        · exact .inr (.inr h)
      · rintro (h | h | h)
        · exact .inl (.inr h)
        · exact .inl (.inl h)
        · exact .inr h

/-- What stands ahead of an operation is in each set that holds with one all that it waits for. -/
theorem aheadOf_mem {acc : List (List Nat)} {x : Nat} : ∀ (es : List Edge), x ∈ aheadOf acc es → ∃ e ∈ es, bindsAny e = true ∧ (x = e.on ∨ ∃ m, acc[e.on]? = some m ∧ x ∈ m)
  | [], h => by simp [aheadOf] at h
  | e :: es, h => by
    simp only [aheadOf] at h
    cases hb : bindsAny e with
    | true =>
      rw [hb] at h
      simp only [cond_true, union_mem, List.mem_cons, nth_eq] at h
      rcases h with h | h | h
      · obtain ⟨e', h1, h2⟩ := aheadOf_mem es h; exact ⟨e', List.mem_cons_of_mem _ h1, h2⟩
      · exact ⟨e, by simp, hb, .inl h⟩
      · split at h
        · rename_i m hm; exact ⟨e, by simp, hb, .inr ⟨m, hm, h⟩⟩
        · simp at h
    | false =>
      rw [hb] at h
      obtain ⟨e', h1, h2⟩ := aheadOf_mem es h; exact ⟨e', List.mem_cons_of_mem _ h1, h2⟩

def Closed (all : List Oper) (L : Nat → Prop) : Prop := ∀ i o e, all[i]? = some o → L i → e ∈ o.after.toList → bindsAny e = true → L e.on

theorem aheads_spec (all : List Oper) : ∀ (l : List Oper) (acc : List (List Nat)), (∀ j, l[j]? = all[acc.length + j]?) →
    (∀ (i : Nat) m o, acc[i]? = some m → all[i]? = some o → ∀ j ∈ m, ∀ L, Closed all L → (∀ e ∈ o.after.toList, bindsAny e = true → L e.on) → L j) →
    ∀ (i : Nat) m o, (aheads l acc)[i]? = some m → all[i]? = some o → ∀ j ∈ m, ∀ L, Closed all L → (∀ e ∈ o.after.toList, bindsAny e = true → L e.on) → L j
  | [], acc, _, h => h
  | o1 :: l, acc, hl, h => by
    simp only [aheads, app_eq]
    refine aheads_spec all l (acc ++ [aheadOf acc o1.after.toList]) (fun j => ?_) ?_
    · have := hl (j + 1)
      simp only [List.length_append, List.length_cons, List.length_nil]
      have e : acc.length + (0 + 1) + j = acc.length + (j + 1) := by omega
      rw [e, ← this]; simp
    · intro i m o hm ho j hj L hL hr
      by_cases hi : i < acc.length
      · rw [List.getElem?_append_left hi] at hm
        exact h i m o hm ho j hj L hL hr
      · have hi' : i = acc.length := by
          have := get_lt hm
          simp at this; omega
        subst hi'
        rw [List.getElem?_append_right (Nat.le_refl _)] at hm
        simp at hm
        subst hm
        have ho1 : o1 = o := by
          have := hl 0
          simp at this
          rw [ho] at this
          simpa using this
        subst ho1
        obtain ⟨e, h1, h2, h3⟩ := aheadOf_mem _ hj
        have hLe := hr e h1 h2
        rcases h3 with rfl | ⟨m', hm', hjm⟩
        · exact hLe
        · obtain ⟨o', ho'⟩ : ∃ o', all[e.on]? = some o' := by
            cases hq : all[e.on]? with
            | some o' => exact ⟨o', rfl⟩
            | none =>
              exfalso
              have := get_lt hm'
              have h0 := hl 0
              simp at h0
              have hlen : acc.length < all.length := get_lt (h0.symm.trans rfl)
              rw [List.getElem?_eq_getElem (by omega)] at hq
              cases hq
          exact h e.on m' o' hm' ho' j hjm L hL (fun e' he' hb' => hL e.on o' e' ho' hLe he' hb')

theorem isAhead_spec {all : List Oper} {i j : Nat} {o : Oper} (h : isAhead (aheads all []) j i = true) (ho : all[i]? = some o) {L : Nat → Prop} (hL : Closed all L)
    (hr : ∀ e ∈ o.after.toList, bindsAny e = true → L e.on) : L j := by
  unfold isAhead at h
  rw [nth_eq] at h
  split at h
  · rename_i m hm
    exact aheads_spec all all [] (by simp) (by simp) i m o hm ho j ((memL_iff j m).1 h) L hL hr
  · cases h

theorem binds_any (e : Edge) : Region.binds .any e = bindsAny e := by
  unfold Region.binds bindsAny
  cases e.ground <;> rfl

mutual
theorem SV.names_lt {m : Mm} {ls : List Loc} : ∀ {s : SV} {v : Value}, s.rel m ls v → ∀ c ∈ s.names, c < ls.length
  | .p .., _, _, c, hc => by simp [SV.names] at hc
  | .cb _, _, _, c, hc => by simp [SV.names] at hc
  | .nils, _, _, c, hc => by simp [SV.names] at hc
  | .kv _, _, _, c, hc => by simp [SV.names] at hc
  | .rp .., _, _, c, hc => by simp [SV.names] at hc
  | .dead, _, _, c, hc => by simp [SV.names] at hc
  | .pf .., _, _, c, hc => by simp [SV.names] at hc
  | .ixp d _ _ _, _, h, c, hc => by simp only [SV.names, List.mem_singleton] at hc; subst hc; simp only [SV.rel] at h; obtain ⟨l, b, h1, _⟩ := h; exact get_lt h1
  | .sub d lo n, _, h, c, hc => by simp only [SV.names, List.mem_singleton] at hc; subst hc; simp only [SV.rel] at h; obtain ⟨l, A, h1, _⟩ := h; exact get_lt h1
  | .own d, _, h, c, hc => by simp only [SV.names, List.mem_singleton] at hc; subst hc; simp only [SV.rel] at h; obtain ⟨l, h1, _⟩ := h; exact get_lt h1
  | .ptr d o, _, h, c, hc => by simp only [SV.names, List.mem_singleton] at hc; subst hc; simp only [SV.rel] at h; obtain ⟨l, b, h1, _⟩ := h; exact get_lt h1
  | .elo d i o, _, h, c, hc => by simp only [SV.names, List.mem_singleton] at hc; subst hc; simp only [SV.rel] at h; obtain ⟨l, b, o, h1, _⟩ := h; exact get_lt h1
  | .map d, _, h, c, hc => by simp only [SV.names, List.mem_singleton] at hc; subst hc; simp only [SV.rel] at h; obtain ⟨l, b, h1, _⟩ := h; exact get_lt h1
  | .agg l, _, h, c, hc => by simp only [SV.names] at hc; simp only [SV.rel] at h; obtain ⟨vs, _, h2⟩ := h; exact SV.names_ltL h2 c hc
  | .tup l, _, h, c, hc => by simp only [SV.names] at hc; simp only [SV.rel] at h; obtain ⟨vs, _, h2⟩ := h; exact SV.names_ltL h2 c hc
  | .rs l _, _, h, c, hc => by simp only [SV.names] at hc; simp only [SV.rel] at h; obtain ⟨b, o, vs, _, h2, _⟩ := h; exact SV.names_ltL h2 c hc
  | .fn f l, _, h, c, hc => by simp only [SV.names] at hc; simp only [SV.rel] at h; obtain ⟨vs, _, h2⟩ := h; exact SV.names_ltL h2 c hc
theorem SV.names_ltL {m : Mm} {ls : List Loc} : ∀ {l : List SV} {vs : List Value}, SV.rels m ls l vs → ∀ c ∈ SV.namesL l, c < ls.length
  | [], _, _, c, hc => by simp [SV.namesL] at hc
  | s :: l, _, h, c, hc => by
    simp only [SV.namesL, app_eq, List.mem_append] at hc
    simp only [SV.rels] at h
    obtain ⟨v, us, _, h2, h3⟩ := h
    rcases hc with hc | hc
    · exact SV.names_lt h2 c hc
    · exact SV.names_ltL h3 c hc
end

theorem namesL_mem {l : List SV} {c : Nat} (h : c ∈ SV.namesL l) : ∃ s ∈ l, c ∈ s.names := by
  induction l with
  | nil => simp [SV.namesL] at h
  | cons s l ih =>
    simp only [SV.namesL, app_eq, List.mem_append] at h
    rcases h with h | h
    · exact ⟨s, by simp, h⟩
    · obtain ⟨s', h1, h2⟩ := ih h; exact ⟨s', List.mem_cons_of_mem _ h1, h2⟩

theorem foot_sub {op : Op} {σ : Operand → SV} {c : Nat} (h : c ∈ foot op σ) : c ∈ SV.namesL ((uses op).map σ) := by
  unfold foot at h
  cases hm : noMem op with
  | true => rw [hm] at h; simp at h
  | false => rw [hm] at h; exact h

/-- A new variable that is not looked at before what stands ahead of it is done. -/
def Exempt (all : List Oper) (i j : Nat) : Prop := j < i ∧ ∃ o d, all[i]? = some o ∧ o.guard = none ∧ o.dst = some d ∧ ∀ z oz, all[z]? = some oz → d ∈ looks all oz → isAhead (aheads all []) j z = true

theorem exempt_says {all : List Oper} {k i j : Nat} (h : exempt all (aheads all []) k i j = true) : k = 1 ∧ Exempt all i j := by
  unfold exempt at h
  cases hb : Nat.blt j i with
  | false => rw [hb] at h; cases h
  | true =>
    rw [hb] at h
    simp only [cond_true, nth_eq] at h
    split at h
    · rename_i o ho
      cases hk : Nat.beq k 1 with
      | false => rw [hk] at h; cases h
      | true =>
        rw [hk] at h
        simp only [cond_true] at h
        split at h
        · rename_i hg
          split at h
          · rename_i d hd
            refine ⟨beq_nat hk, by simp [Nat.blt] at hb; omega, o, d, ho, hg, hd, fun z oz hz hm => ?_⟩
            rw [allL_iff] at h
            have := h (z, oz) (by simpa using enum_get all 0 z oz hz)
            simp only [(memL_iff d _).2 hm, cond_true] at this
            exact this
          · cases h
        · cases h
    · cases h

/-- What the log's test says. -/
structure LogSays (all : List Oper) (log : List Log) : Prop where
  slots : ∀ i j o o' d, all[i]? = some o → all[j]? = some o' → i ≠ j → o.dst = some d → o'.dst ≠ some d ∧ (d ∈ looks all o' → isAhead (aheads all []) i j = true ∨ isAhead (aheads all []) j i = true)
  edges : ∀ i o e, all[i]? = some o → e ∈ o.after.toList → bindsAny e = true → e.on < i
  reads : ∀ x ∈ log, x.writes = false → ∀ c ∈ x.foot, c < x.len
  apart : ∀ x ∈ log, ∀ y ∈ log, x.writes = true → x.i ≠ y.i → isAhead (aheads all []) x.i y.i = true ∨ isAhead (aheads all []) y.i x.i = true ∨ (y.writes = false ∧ ∀ c ∈ x.foot, c ∉ y.foot) ∨ (y.writes = true ∧ ((x.len = 1 ∧ Exempt all x.i y.i) ∨ (y.len = 1 ∧ Exempt all y.i x.i)))

theorem logOk_says {all : List Oper} (h : logOk all log = true) : LogSays all log := by
  unfold logOk at h
  simp only at h
  cases h1 : slotsOk all (aheads all []) with
  | false => rw [h1] at h; simp at h
  | true =>
    rw [h1] at h
    cases h2 : edgesOk all with
    | false => rw [h2] at h; simp at h
    | true =>
      rw [h2] at h
      simp only [cond_true] at h
      rw [allL_iff] at h
      constructor
      · intro i j o o' d hi hj hij hd
        unfold slotsOk at h1
        rw [allL_iff] at h1
        have q := h1 (i, o) (by simpa using enum_get all 0 i o hi)
        simp only [hd] at q
        rw [allL_iff] at q
        have q := q (j, o') (by simpa using enum_get all 0 j o' hj)
        simp only at q
        have hb : Nat.beq i j = false := by
          cases hb : Nat.beq i j with
          | true => exact absurd (beq_nat hb) hij
          | false => rfl
        rw [hb] at q
        simp only [cond_false] at q
        constructor
        · intro hd'
          rw [hd'] at q
          simp [Nat.beq_refl] at q
        · intro hm
          have hm' := (memL_iff _ _).2 hm
          rw [hm'] at q
          split at q
          · rename_i e _
            cases hbe : Nat.beq d e with
            | true => rw [hbe] at q; simp at q
            | false =>
              rw [hbe] at q
              simp only [cond_false, cond_true] at q
              cases ha : isAhead (aheads all []) i j with
              | true => exact .inl rfl
              | false => rw [ha] at q; exact .inr q
          · simp only [cond_false, cond_true] at q
            cases ha : isAhead (aheads all []) i j with
            | true => exact .inl rfl
            | false => rw [ha] at q; exact .inr q
      · intro i o e hi he hb
        unfold edgesOk at h2
        rw [allL_iff] at h2
        have q := h2 (i, o) (by simpa using enum_get all 0 i o hi)
        rw [allL_iff] at q
        have q := q e he
        rw [hb] at q
        simp only [cond_true, Nat.blt] at q
        have := Nat.le_of_ble_eq_true q
        omega
      · intro x hx hw c hc
        have q := h x hx
        rw [hw] at q
        simp only [cond_false] at q
        rw [allL_iff] at q
        have := Nat.le_of_ble_eq_true (q c hc)
        omega
      · intro x hx y hy hw hne
        have q := h x hx
        rw [hw] at q
        simp only [cond_true] at q
        rw [allL_iff] at q
        have q := q y hy
        have hb : Nat.beq x.i y.i = false := by
          cases hb : Nat.beq x.i y.i with
          | true => exact absurd (beq_nat hb) hne
          | false => rfl
        rw [hb] at q
        simp only [cond_false] at q
        cases ha : isAhead (aheads all []) x.i y.i with
        | true => exact .inl rfl
        | false =>
          rw [ha] at q
          cases ha2 : isAhead (aheads all []) y.i x.i with
          | true => exact .inr (.inl rfl)
          | false =>
            rw [ha2] at q
            cases hyw : y.writes with
            | true =>
              rw [hyw] at q
              simp only [cond_false, cond_true] at q
              refine .inr (.inr (.inr ⟨rfl, ?_⟩))
              cases he : exempt all (aheads all []) x.len x.i y.i with
              | true => exact .inl (exempt_says he)
              | false => rw [he] at q; exact .inr (exempt_says q)
            | false =>
              rw [hyw] at q
              simp only [cond_false] at q
              refine .inr (.inr (.inl ⟨rfl, fun c hc hcy => ?_⟩))
              unfold disjoint at q
              rw [allL_iff] at q
              have := q c hc
              rw [(memL_iff c _).2 hcy] at this
              simp at this

/-- Chunks between two places of a trace. -/
theorem seg (hS : ∀ j, j < ops.size → ∃ o, StepAt P T n ops.toList D log j o) (c : Nat) : ∀ (k p : Nat), p + k ≤ ops.size → c < (D.C p).length → (∀ j, p ≤ j → j < p + k → D.wr j = true → c ∉ D.z j) →
    (D.C (p + k))[c]? = (D.C p)[c]? ∧ c < (D.C (p + k)).length
  | 0, p, _, hc, _ => ⟨rfl, hc⟩
  | k + 1, p, hp, hc, hz => by
    obtain ⟨h1, h2⟩ := seg hS c k p (by omega) hc (fun j h1 h2 => hz j h1 (by omega))
    obtain ⟨o, S⟩ := hS (p + k) (by omega)
    have e : p + (k + 1) = p + k + 1 := by omega
    rw [e]
    cases hw : D.wr (p + k) with
    | true =>
      have W := (S.write hw).1
      exact ⟨by rw [W.2.1 c h2 (hz (p + k) (by omega) (by omega) hw), h1], Nat.lt_of_lt_of_le h2 W.1⟩
    | false =>
      have : D.C (p + k + 1) = D.C (p + k) := by
        cases hr : D.ran (p + k) with
        | true => exact (S.read hr hw).2.1
        | false => exact (S.skip hr).2.1
      rw [this]; exact ⟨h1, h2⟩

theorem seg_eq (hS : ∀ j, j < ops.size → ∃ o, StepAt P T n ops.toList D log j o) : ∀ (k p : Nat), p + k ≤ ops.size → (∀ j, p ≤ j → j < p + k → D.wr j = false) → D.C (p + k) = D.C p
  | 0, p, _, _ => rfl
  | k + 1, p, hp, hz => by
    have h1 := seg_eq hS k p (by omega) (fun j h1 h2 => hz j h1 (by omega))
    obtain ⟨o, S⟩ := hS (p + k) (by omega)
    have hw := hz (p + k) (by omega) (by omega)
    have e : p + (k + 1) = p + k + 1 := by omega
    rw [e, ← h1]
    cases hr : D.ran (p + k) with
    | true => exact (S.read hr hw).2.1
    | false => exact (S.skip hr).2.1

theorem E_val (hS : ∀ j, j < ops.size → ∃ o, StepAt P T n ops.toList D log j o) (t : Nat) : ∀ (j : Nat), j ≤ ops.size →
    (∃ j' o', j' < j ∧ ops.toList[j']? = some o' ∧ o'.dst = some t ∧ t < n ∧ D.E j t = D.v j') ∨
    ((∀ j' o', j' < j → ops.toList[j']? = some o' → o'.dst = some t → ¬ t < n) ∧ D.E j t = D.E 0 t)
  | 0, _ => .inr ⟨fun j' o' h => absurd h (Nat.not_lt_zero _), rfl⟩
  | j + 1, hj => by
    obtain ⟨o, S⟩ := hS j (by omega)
    have he : D.E (j + 1) t = if o.dst = some t ∧ t < n then D.v j else D.E j t := by rw [S.e]; rfl
    by_cases hc : o.dst = some t ∧ t < n
    · exact .inl ⟨j, o, by omega, S.op, hc.1, hc.2, by rw [he, if_pos hc]⟩
    · rw [if_neg hc] at he
      rcases E_val hS t j (by omega) with ⟨j', o', h1, h2, h3, h4, h5⟩ | ⟨h1, h2⟩
      · exact .inl ⟨j', o', by omega, h2, h3, h4, by rw [he, h5]⟩
      · refine .inr ⟨fun j' o' h3 h4 h5 h6 => ?_, by rw [he, h2]⟩
        by_cases hjj : j' = j
        · subst hjj
          rw [S.op] at h4; cases h4
          exact hc ⟨h5, h6⟩
        · exact h1 j' o' (by omega) h4 h5 h6

theorem filter_lt {α : Type} {p q : α → Bool} (hpq : ∀ x, q x = true → p x = true) : ∀ {l : List α} {a : α}, a ∈ l → p a = true → q a = false → (l.filter q).length < (l.filter p).length
  | [], a, h, _, _ => by simp at h
  | b :: l, a, h, hp, hq => by
    have le : ∀ (l : List α), (l.filter q).length ≤ (l.filter p).length := by
      intro l
      induction l with
      | nil => simp
      | cons x l ih =>
        simp only [List.filter_cons]
        cases hx : q x with
        | true => rw [hpq x hx]; simp; exact ih
        | false => cases p x <;> simp <;> omega
    simp only [List.filter_cons]
    simp at h
    rcases h with rfl | h
    · rw [hp, hq]
      have := le l
      simp; omega
    · have ih := filter_lt hpq h hp hq
      cases hx : q b with
      | true => rw [hpq b hx]; simp; exact ih
      | false => cases p b <;> simp <;> omega

def unl (listed : Array Bool) : List Nat := (List.range listed.size).filter fun i => !listed.getD i true

/-- A new variable that is not yet among the chunks. -/
structure Pend (bs : Base) (m : Mm) (Bs : List (List Nat)) (w : World) (g : Nat) (c : Chunk) (l : Loc) : Prop where
  lt : g < w.heap.size
  new : bs.w0.heap.size ≤ g
  holds : ∀ ls, c.holds m ls w l [g]
  m : ∀ o, m g o = none
  apart : ∀ (i : Nat) B, Bs[i]? = some B → g ∉ B

/-- What is known when the chunks are those ahead of a place. -/
structure Inv (P : Program) (n : Nat) (ops : Array Oper) (D : Trd) (bs : Base) (listed : Array Bool) (a : Act) (w : World) (p : Nat) (m : Mm) (ls : List Loc) (Bs : List (List Nat)) (G : Nat → Nat) : Prop where
  le : p ≤ ops.size
  mem : Mem bs m ls Bs (D.C p) w
  front : ∀ j, j < ops.size → D.wr j = true → j < p → listed[j]? = some true
  pend : ∀ j, j < ops.size → D.wr j = true → p ≤ j → listed[j]? = some true → ∃ o d c mk lo, ops.toList[j]? = some o ∧ MakerIs P o.op (D.σ j) (D.C j) (D.v j) (D.C (j + 1)) (D.z j) c mk lo ∧ o.dst = some d ∧ (d < n → a.eval (.tmp d) = mk (G j)) ∧ Pend bs m Bs w (G j) c (lo (G j))
  ne : ∀ i j, i < ops.size → j < ops.size → D.wr i = true → D.wr j = true → p ≤ i → p ≤ j → listed[i]? = some true → listed[j]? = some true → i ≠ j → G i ≠ G j
  vals : ∀ (t j : Nat) (o : Oper), ops.toList[j]? = some o → o.dst = some t → t < n → listed[j]? = some true → ¬ (p ≤ j ∧ D.wr j = true) → (D.v j).rel m ls (a.eval (.tmp t))
  rest : ∀ t, (∀ (j : Nat) (o : Oper), ops.toList[j]? = some o → o.dst = some t → t < n → listed[j]? ≠ some true) → (D.E 0 t).rel m ls (a.eval (.tmp t))

/-- What holds once some of a region's operations are done. -/
structure Part (P : Program) (n : Nat) (ops : Array Oper) (D : Trd) (bs : Base) (df : List Deferred) (listed : Array Bool) (a : Act) (w : World) : Prop where
  size : listed.size = ops.size
  closed : Closed ops.toList fun i => listed[i]? = some true
  inv : ∃ p m ls Bs G, Inv P n ops D bs listed a w p m ls Bs G
  tmps : a.tmps.size = n
  defers : a.defers = df

/-- One place further. -/
theorem Inv.step (hS : ∀ j, j < ops.size → ∃ o, StepAt P T n ops.toList D log j o) {bs : Base} {listed : Array Bool} {a : Act} {w : World} {p : Nat} {m : Mm} {ls : List Loc} {Bs : List (List Nat)} {G : Nat → Nat}
    (I : Inv P n ops D bs listed a w p m ls Bs G) (hp : p < ops.size) (hl : D.wr p = true → listed[p]? = some true) : ∃ ls' Bs', Inv P n ops D bs listed a w (p + 1) m ls' Bs' G := by
  obtain ⟨op, S⟩ := hS p hp
  cases hw : D.wr p with
  | false =>
    have hC : D.C (p + 1) = D.C p := by
      cases hr : D.ran p with
      | true => exact (S.read hr hw).2.1
      | false => exact (S.skip hr).2.1
    refine ⟨ls, Bs, hp, by rw [hC]; exact I.mem, fun j hj hwj hjp => ?_, fun j hj hwj hjp hlj => I.pend j hj hwj (by omega) hlj, fun i j hi hj hwi hwj hpi hpj => I.ne i j hi hj hwi hwj (by omega) (by omega), fun t j o e1 e2 e3 e4 e5 => ?_, I.rest⟩
    · have : j ≠ p := fun e => by subst e; rw [hw] at hwj; cases hwj
      exact I.front j hj hwj (by omega)
    · refine I.vals t j o e1 e2 e3 e4 (fun h => ?_)
      have : j ≠ p := fun e => by subst e; rw [hw] at h; cases h.2
      exact e5 ⟨by omega, h.2⟩
  | true =>
    have hlp := hl hw
    obtain ⟨o, d, c, mk, lo, ho, Mk, hd, hv, Pd⟩ := I.pend p hp hw (Nat.le_refl _) hlp
    have hoe : op = o := by rw [S.op] at ho; cases ho; rfl
    subst hoe
    have hC := Mk.more
    let l : Loc := lo (G p)
    have M' := I.mem.add (c := c) (l := l) (B := [G p]) (by
      intro b hb
      simp at hb
      subst hb
      exact ⟨Pd.lt, .inl Pd.new, Pd.m, fun j B' hj => Pd.apart j B' hj⟩) (Pd.holds _)
    have E := ext_push m ls l
    refine ⟨ls ++ [l], Bs ++ [[G p]], hp, by rw [hC]; exact M', fun j hj hwj hjp => ?_, fun j hj hwj hjp hlj => ?_, fun i j hi hj hwi hwj hpi hpj => I.ne i j hi hj hwi hwj (by omega) (by omega), fun t j o e1 e2 e3 e4 e5 => ?_, fun t h => SV.rel_ext E (I.rest t h)⟩
    · by_cases hjp' : j = p
      · subst hjp'; exact hlp
      · exact I.front j hj hwj (by omega)
    · obtain ⟨o2, d2, c2, mk2, lo2, q1, q2, q3, q4, Q⟩ := I.pend j hj hwj (by omega) hlj
      refine ⟨o2, d2, c2, mk2, lo2, q1, q2, q3, q4, Q.lt, Q.new, Q.holds, Q.m, fun i B hi => ?_⟩
      have hne := I.ne j p hj hp hwj hw (by omega) (Nat.le_refl _) hlj hlp (by omega)
      rcases Nat.lt_or_ge i Bs.length with h | h
      · rw [List.getElem?_append_left h] at hi; exact Q.apart i B hi
      · rw [List.getElem?_append_right h] at hi
        cases hq : i - Bs.length with
        | zero => rw [hq] at hi; simp at hi; subst hi; simpa using hne
        | succ q => rw [hq] at hi; simp at hi
    · by_cases hjp' : j = p
      · subst hjp'
        rw [S.op] at e1; cases e1
        rw [hd] at e2; cases e2
        rw [hv e3]
        exact Mk.rel m _ (G j) (by rw [← I.mem.nl]; simp [l])
      · exact SV.rel_ext E (I.vals t j o e1 e2 e3 e4 (fun h => e5 ⟨by omega, h.2⟩))

/-- On to a place ahead of which all is done. -/
theorem Inv.upto (hS : ∀ j, j < ops.size → ∃ o, StepAt P T n ops.toList D log j o) {bs : Base} {listed : Array Bool} {a : Act} {w : World} {m : Mm} {G : Nat → Nat} : ∀ (k p : Nat) {ls : List Loc} {Bs : List (List Nat)},
    Inv P n ops D bs listed a w p m ls Bs G → p + k ≤ ops.size → (∀ j, j < p + k → D.wr j = true → listed[j]? = some true) → ∃ ls' Bs', Inv P n ops D bs listed a w (p + k) m ls' Bs' G
  | 0, p, ls, Bs, I, _, _ => ⟨ls, Bs, I⟩
  | k + 1, p, ls, Bs, I, hk, hl => by
    obtain ⟨ls', Bs', I'⟩ := I.step hS (by omega) (hl p (by omega))
    have := Inv.upto hS k (p + 1) I' (by omega) (fun j hj => hl j (by omega))
    rw [show p + 1 + k = p + (k + 1) by omega] at this
    exact this

/-- As far as it goes. -/
theorem Inv.far (hS : ∀ j, j < ops.size → ∃ o, StepAt P T n ops.toList D log j o) {bs : Base} {listed : Array Bool} {a : Act} {w : World} {m : Mm} {G : Nat → Nat} : ∀ (k p : Nat) {ls : List Loc} {Bs : List (List Nat)}, ops.size - p ≤ k →
    Inv P n ops D bs listed a w p m ls Bs G → ∃ q ls' Bs', p ≤ q ∧ Inv P n ops D bs listed a w q m ls' Bs' G ∧ (q < ops.size → D.wr q = true ∧ listed[q]? ≠ some true)
  | 0, p, ls, Bs, hk, I => ⟨p, ls, Bs, Nat.le_refl _, I, fun h => by omega⟩
  | k + 1, p, ls, Bs, hk, I => by
    by_cases hp : p < ops.size
    · by_cases hl : D.wr p = true → listed[p]? = some true
      · obtain ⟨ls', Bs', I'⟩ := I.step hS hp hl
        obtain ⟨q, l2, B2, h1, h2, h3⟩ := Inv.far hS k (p + 1) (by omega) I'
        exact ⟨q, l2, B2, by omega, h2, h3⟩
      · exact ⟨p, ls, Bs, Nat.le_refl _, I, fun _ => by
          rw [Classical.not_imp] at hl
          exact hl⟩
    · exact ⟨p, ls, Bs, Nat.le_refl _, I, fun h => absurd h hp⟩

theorem Pend.kept {bs : Base} {m m' : Mm} {ls ls' : List Loc} {Bs Bs' : List (List Nat)} {cs' : List Chunk} {w w' : World} {g : Nat} {e : Chunk} {l : Loc} (Q : Pend bs m Bs w g e l) (M' : Mem ⟨w, m, Bs.flatten, ls⟩ m' ls' Bs' cs' w') : Pend bs m' Bs' w' g e l := by
  have hf : g ∉ Bs.flatten := fun h => by
    obtain ⟨i, B, h1, h2⟩ := mem_flatten.1 h
    exact Q.apart i B h1 h2
  refine ⟨Nat.lt_of_lt_of_le Q.lt M'.size, Q.new, fun ls2 => ?_, fun o => ?_, fun i B hi hg => ?_⟩
  · exact Chunk.holds_of (ls := []) ⟨fun b o v h => M'.m0 b o v h, fun i l h => by simp at h⟩ (fun b hb => by simp at hb; subst hb; exact M'.old b Q.lt hf) (Q.holds [])
  · cases h : m' g o with
    | none => rfl
    | some v =>
      rcases M'.mnew g o v h with h1 | h1 | h1
      · have : m g o = some v := h1
        rw [Q.m o] at this; cases this
      · exact absurd Q.lt (by show ¬ g < w.heap.size; have : w.heap.size ≤ g := h1; omega)
      · exact absurd h1 hf
  · rcases (M'.fresh i B hi g hg).2.1 with h1 | h1
    · have : w.heap.size ≤ g := h1
      have := Q.lt; omega
    · exact hf h1

theorem Pend.alloc {bs : Base} {m : Mm} {Bs : List (List Nat)} {w : World} {g : Nat} {e : Chunk} {l : Loc} (Q : Pend bs m Bs w g e l) (o : Obj) : Pend bs m Bs (w.alloc o) g e l := by
  refine ⟨Nat.lt_of_lt_of_le Q.lt (by show w.heap.size ≤ (w.heap.push o).size; simp), Q.new, fun ls2 => ?_, Q.m, Q.apart⟩
  refine Chunk.holds_of (Ext.refl m ls2) (fun b hb => ?_) (Q.holds ls2)
  simp at hb; subst hb
  show (w.heap.push o)[b]? = _
  rw [Array.getElem?_push, if_neg (by have := Q.lt; omega)]

theorem ready_spec {listed : Array Bool} {i : Nat} (h : i ∈ Region.ready .any ops listed) : ∃ o, ops.toList[i]? = some o ∧ listed[i]? ≠ some true ∧ i < listed.size ∧ ∀ e ∈ o.after.toList, bindsAny e = true → listed[e.on]? = some true := by
  unfold Region.ready at h
  simp only [List.mem_filter, List.mem_range, Bool.and_eq_true] at h
  obtain ⟨h1, h2, h3⟩ := h
  have ho : ops[i]? = some ops[i] := Array.getElem?_eq_getElem h1
  rw [ho] at h3
  simp only [Option.map_some, Option.getD_some] at h3
  have hl : listed.getD i true = false := by simpa using h2
  have hlt : i < listed.size := by
    rcases Nat.lt_or_ge i listed.size with h | h
    · exact h
    · simp [Array.getD, Nat.not_lt.2 h] at hl
  refine ⟨ops[i], by simp [h1], ?_, hlt, fun e he hb => ?_⟩
  · rw [Array.getElem?_eq_getElem hlt]
    simp [Array.getD, hlt] at hl
    simp [hl]
  · rw [Array.all_eq_true'] at h3
    have := h3 e (by simpa using he)
    rw [binds_any, hb] at this
    simp only [Bool.not_true, Bool.false_or] at this
    have hlt2 : e.on < listed.size := by
      rcases Nat.lt_or_ge e.on listed.size with h | h
      · exact h
      · simp [Array.getD, Nat.not_lt.2 h] at this
    rw [Array.getElem?_eq_getElem hlt2]
    simp [Array.getD, hlt2] at this
    simp [this]

theorem ready_of {listed : Array Bool} {i : Nat} {o : Oper} (ho : ops.toList[i]? = some o) (hi : listed[i]? = some false) (he : ∀ e ∈ o.after.toList, bindsAny e = true → listed[e.on]? = some true) :
    i ∈ Region.ready .any ops listed := by
  have hlt : i < ops.size := by have := get_lt ho; simpa using this
  unfold Region.ready
  simp only [List.mem_filter, List.mem_range, Bool.and_eq_true]
  refine ⟨hlt, ?_, ?_⟩
  · have := Array.getElem?_eq_some_iff.1 hi
    obtain ⟨h, h'⟩ := this
    simp [Array.getD, h, h']
  · have ho' : ops[i]? = some o := by simpa using ho
    rw [ho']
    simp only [Option.map_some, Option.getD_some]
    rw [Array.all_eq_true']
    intro e hem
    rw [binds_any]
    cases hb : bindsAny e with
    | false => rfl
    | true =>
      have := he e (by simpa using hem) hb
      obtain ⟨h, h'⟩ := Array.getElem?_eq_some_iff.1 this
      simp [Array.getD, h, h']

theorem set_listed {listed : Array Bool} {i : Nat} (hi : i < listed.size) (j : Nat) : (listed.setIfInBounds i true)[j]? = some true ↔ j = i ∨ listed[j]? = some true := by
  by_cases h : i = j
  · subst h
    simp [Array.getElem?_setIfInBounds, hi]
  · rw [Array.getElem?_setIfInBounds_ne h]
    constructor
    · exact .inr
    · rintro (h' | h')
      · exact absurd h'.symm h
      · exact h'

theorem closed_lt (hL : LogSays ops.toList log) (k : Nat) : Closed ops.toList fun i => i < k := by
  intro i o e ho hi he hb
  have := hL.edges i o e ho he hb
  omega

theorem ahead_lt (hL : LogSays ops.toList log) {i j : Nat} {o : Oper} (ho : ops.toList[i]? = some o) (h : isAhead (aheads ops.toList []) j i = true) : j < i :=
  isAhead_spec h ho (closed_lt hL i) (fun e he hb => hL.edges i o e ho he hb)

/-- At the end all is listed. -/
theorem all_listed (hL : LogSays ops.toList log) {listed : Array Bool} (hs : listed.size = ops.size) (hr : Region.ready .any ops listed = []) : ∀ (i : Nat), i < ops.size → listed[i]? = some true := by
  intro i
  induction i using Nat.strongRecOn with
  | _ i ih =>
    intro hi
    have ho : ops.toList[i]? = some ops[i] := by simp [hi]
    have hlt : i < listed.size := by omega
    cases hv : listed[i] with
    | true => rw [Array.getElem?_eq_getElem hlt, hv]
    | false =>
      exfalso
      have := ready_of (ops := ops) (listed := listed) ho (by rw [Array.getElem?_eq_getElem hlt, hv]) (fun e he hb => by
        have h1 := hL.edges i _ e ho he hb
        exact ih e.on h1 (by omega))
      rw [hr] at this; simp at this

theorem region_any (hT : TOk P T) (hS : ∀ j, j < ops.size → ∃ o, StepAt P T n ops.toList D log j o) (hL : LogSays ops.toList log) {bs : Base} {Q : Exit → Act → World → Prop} {df : List Deferred}
    (hQ : ∀ m ls Bs a w, Mem bs m ls Bs (D.C ops.size) w → SlotsE m ls (D.E ops.size) a → a.tmps.size = n → a.defers = df → Q .normal a w) :
    ∀ (fuel : Nat) (listed : Array Bool) (a : Act) (w : World), (unl listed).length ≤ fuel → Part P n ops D bs df listed a w → wpAny P .any ops Q fuel listed a w := by
  -- the end
  have fin : ∀ (listed : Array Bool) (a : Act) (w : World), Part P n ops D bs df listed a w → Region.ready .any ops listed = [] → Q .normal a w := by
    intro listed a w H hr
    have hall := all_listed hL H.size hr
    obtain ⟨p, m, ls, Bs, G, I⟩ := H.inv
    have hple := I.le
    obtain ⟨ls', Bs', I'⟩ := I.upto hS (ops.size - p) p (by omega) (fun j hj _ => hall j (by omega))
    rw [show p + (ops.size - p) = ops.size by omega] at I'
    refine hQ m ls' Bs' a w I'.mem ?_ H.tmps H.defers
    intro t
    rcases E_val hS t ops.size (Nat.le_refl _) with ⟨j', o', q1, q2, q3, q4, q5⟩ | ⟨q1, q2⟩
    · rw [q5]; exact I'.vals t j' o' q2 q3 q4 (hall j' q1) (fun h => by omega)
    · rw [q2]
      exact I'.rest t (fun j o e1 e2 e3 => absurd e3 (q1 j o (by have := get_lt e1; simpa using this) e1 e2))
  -- one step
  have one : ∀ (listed : Array Bool) (a : Act) (w : World), Part P n ops D bs df listed a w → ∀ i ∈ Region.ready .any ops listed, ∀ (K : Act → World → Prop),
      (∀ a' w', Part P n ops D bs df (listed.setIfInBounds i true) a' w' → K a' w') → wpOp P ops Q i K a w := by
    intro listed a w H i hi K hK
    obtain ⟨o, ho, hnl, hlt, hedge⟩ := ready_spec hi
    have hio : i < ops.size := by rw [← H.size]; exact hlt
    obtain ⟨o', S⟩ := hS i hio
    have : o' = o := by rw [S.op] at ho; cases ho; rfl
    subst this
    obtain ⟨p0, m, ls0, Bs0, G, I0⟩ := H.inv
    obtain ⟨p, ls, Bs, hp0, I, hmax⟩ := Inv.far hS (ops.size - p0) p0 (Nat.le_refl _) I0
    have hahead : ∀ j, isAhead (aheads ops.toList []) j i = true → listed[j]? = some true := fun j hj => isAhead_spec hj ho H.closed hedge
    have hbehind : ∀ j oj, ops.toList[j]? = some oj → listed[j]? = some true → isAhead (aheads ops.toList []) i j = true → False := fun j oj hoj hj hij =>
      hnl (isAhead_spec hij hoj H.closed (fun e he hb => H.closed j oj e hoj hj he hb))
    -- what is not yet among the chunks is not looked at
    have hnp : ∀ (t j : Nat) (oj : Oper), ops.toList[j]? = some oj → oj.dst = some t → t ∈ looks ops.toList o' → listed[j]? = some true → ¬ (p ≤ j ∧ D.wr j = true) := by
      rintro t j oj hoj hdj ht hlj ⟨hpj, hwj⟩
      have hjs : j < ops.size := by have := get_lt hoj; simpa using this
      obtain ⟨hwp, hlp⟩ := hmax (by omega)
      have hne : p ≠ j := fun e => by subst e; exact hlp hlj
      obtain ⟨oj', Sj⟩ := hS j hjs
      obtain ⟨op, Sp⟩ := hS p (by omega)
      rcases hL.apart _ (Sj.write hwj).2.1 _ (Sp.write hwp).2.1 rfl (fun e => hne e.symm) with h | h | ⟨h, _⟩ | ⟨_, h | h⟩
      · have := ahead_lt hL Sp.op h; simp only at this; omega
      · exact hlp (isAhead_spec h Sj.op H.closed (fun e he hb => H.closed j _ e Sj.op hlj he hb))
      · cases h
      · obtain ⟨_, _, o2, d2, q1, q3, q4, q5⟩ := h
        simp only at q1 q5
        rw [hoj] at q1; cases q1
        rw [hdj] at q4; cases q4
        exact hlp (hahead p (q5 i o' ho ht))
      · have := h.2.1; simp only at this; omega
    -- what it looks at
    have hlook : ∀ t, t ∈ looks ops.toList o' → (D.E i t).rel m ls (a.eval (.tmp t)) := by
      intro t ht
      rcases E_val hS t i (by omega) with ⟨j', oj, q1, q2, q3, q4, q5⟩ | ⟨q1, q2⟩
      · rw [q5]
        have hlj : listed[j']? = some true := by
          rcases (hL.slots j' i oj o' t q2 ho (by omega) q3).2 ht with h | h
          · exact hahead j' h
          · have := ahead_lt hL q2 h; omega
        exact I.vals t j' oj q2 q3 q4 hlj (hnp t j' oj q2 q3 ht hlj)
      · rw [q2]
        refine I.rest t (fun j oj e1 e2 e3 hj => ?_)
        have hji : j ≠ i := fun e => by subst e; exact hnl hj
        have hge : ¬ j < i := fun hlt' => q1 j oj hlt' e1 e2 e3
        rcases (hL.slots j i oj o' t e1 ho hji e2).2 ht with h | h
        · have := ahead_lt hL ho h; omega
        · exact hbehind j oj e1 hj h
    have huse : ∀ t, .tmp t ∈ uses o'.op → (D.E i t).rel m ls (a.eval (.tmp t)) := by
      intro t ht
      refine hlook t ?_
      unfold looks
      rw [app_eq, List.mem_append]
      left
      have : ∀ l : List Operand, .tmp t ∈ l → t ∈ tmpsOf l := by
        intro l
        induction l with
        | nil => simp
        | cons x l ih =>
          intro hm
          simp at hm
          rcases hm with rfl | hm
          · simp [tmpsOf]
          · cases x <;> simp only [tmpsOf] <;> first | exact ih hm | exact List.mem_cons_of_mem _ (ih hm)
      exact this _ ht
    have hguard : ∀ g want d og, o'.guard = some (g, want) → ops.toList[g]? = some og → og.dst = some d → (D.E i d).rel m ls (a.eval (.tmp d)) := by
      intro g want d og e1 e2 e3
      refine hlook d ?_
      unfold looks
      rw [app_eq, List.mem_append]
      right
      rw [e1]
      simp only [nth_eq, e2, e3]
      simp
    have hset := set_listed hlt
    -- the state behind it
    have hclosed : Closed ops.toList fun j => (listed.setIfInBounds i true)[j]? = some true := by
      intro j oj e hoj hj he hb
      rw [hset] at hj ⊢
      rcases hj with rfl | hj
      · rw [ho] at hoj; cases hoj
        exact .inr (hedge e he hb)
      · exact .inr (H.closed j oj e hoj hj he hb)
    have other : ∀ (j : Nat) (oj : Oper) (t : Nat) (v' : Value), ops.toList[j]? = some oj → oj.dst = some t → listed[j]? = some true → (a.put o'.dst v').eval (.tmp t) = a.eval (.tmp t) := by
      intro j oj t v' e1 e2 e4
      have hji : j ≠ i := fun e => by subst e; exact hnl e4
      rw [put_eval]
      have hne : ¬ (o'.dst = some t ∧ t < a.tmps.size) := fun h => (hL.slots j i oj o' t e1 ho hji e2).1 h.1
      rw [if_neg hne]
    have after : ∀ (q : Nat) (m' : Mm) (ls' : List Loc) (Bs' : List (List Nat)) (v' : Value) (w' : World) (lsI : List Loc) (BsI : List (List Nat)) (pI : Nat), Inv P n ops D bs listed a w pI m lsI BsI G → q ≤ ops.size → Ext m lsI m' ls' → Mem bs m' ls' Bs' (D.C q) w' →
        (∀ j, j < ops.size → D.wr j = true → j < q → j = i ∨ listed[j]? = some true) → (∀ j, j < ops.size → D.wr j = true → q ≤ j → j ≠ i ∧ pI ≤ j) → (∀ j, j < ops.size → D.wr j = true → pI ≤ j → listed[j]? = some true → q ≤ j) →
        (∀ g e l, Pend bs m BsI w g e l → Pend bs m' Bs' w' g e l) → (D.v i).rel m' ls' v' → Part P n ops D bs df (listed.setIfInBounds i true) (a.put o'.dst v') w' := by
      intro q m' ls' Bs' v' w' lsI BsI pI II hq X M' hf hb hb2 hpk hv
      refine ⟨by simp [H.size], hclosed, ⟨q, m', ls', Bs', G, hq, M', fun j hj hwj hjq => by rw [hset]; exact hf j hj hwj hjq, ?_, ?_, ?_, ?_⟩, by rw [put_size]; exact H.tmps, by rw [put_defers]; exact H.defers⟩
      · intro j hj hwj hqj hlj
        rw [hset] at hlj
        obtain ⟨hji, hpj⟩ := hb j hj hwj hqj
        have hlj := hlj.resolve_left hji
        obtain ⟨o2, d2, c2, mk2, lo2, q1, q2, q3, q4, Q2⟩ := II.pend j hj hwj hpj hlj
        exact ⟨o2, d2, c2, mk2, lo2, q1, q2, q3, fun hd => by rw [other j o2 d2 v' q1 q3 hlj]; exact q4 hd, hpk _ _ _ Q2⟩
      · intro x y hx hy hwx hwy hqx hqy hlx hly hxy
        rw [hset] at hlx hly
        obtain ⟨hxi, hpx⟩ := hb x hx hwx hqx
        obtain ⟨hyi, hpy⟩ := hb y hy hwy hqy
        exact II.ne x y hx hy hwx hwy hpx hpy (hlx.resolve_left hxi) (hly.resolve_left hyi) hxy
      · intro t j oj e1 e2 e3 e4 e5
        rw [hset] at e4
        by_cases hji : j = i
        · subst hji
          rw [ho] at e1; cases e1
          rw [put_eval, H.tmps, if_pos ⟨e2, e3⟩]; exact hv
        · have e4 := e4.resolve_left hji
          rw [other j oj t v' e1 e2 e4]
          have hjs : j < ops.size := by have := get_lt e1; simpa using this
          exact SV.rel_ext X (II.vals t j oj e1 e2 e3 e4 (fun h => e5 ⟨hb2 j hjs h.2 h.1 e4, h.2⟩))
      · intro t hno
        rw [put_eval, H.tmps]
        have hne : ¬ (o'.dst = some t ∧ t < n) := fun h => hno i o' ho h.1 h.2 ((hset i).2 (.inl rfl))
        rw [if_neg hne]
        exact SV.rel_ext X (II.rest t (fun j oj e1 e2 e3 e4 => hno j oj e1 e2 e3 ((hset j).2 (.inr e4))))
    unfold wpOp
    have hop : ops[i]? = some o' := by simpa using ho
    simp only [hop]
    rw [wanted_eq S hguard]
    -- what turns nothing
    have still : D.wr i = false → ∀ (v' : Value) (w' : World) (m' : Mm) (ls' : List Loc) (Bs' : List (List Nat)), Ext m ls m' ls' → Mem ⟨w, m, Bs.flatten, ls⟩ m' ls' Bs' (D.C p) w' → (D.v i).rel m' ls' v' → Part P n ops D bs df (listed.setIfInBounds i true) (a.put o'.dst v') w' := by
      intro hwi v' w' m' ls' Bs' X M' hv
      refine after p m' ls' Bs' v' w' ls Bs p I I.le X (I.mem.unbase M') (fun j hj hwj hjp => .inr (I.front j hj hwj hjp)) (fun j hj hwj hpj => ⟨fun e => (by subst e; rw [hwi] at hwj; cases hwj), hpj⟩) (fun j _ _ h _ => h) (fun g e l Q2 => Q2.kept M') hv
    cases hr : D.ran i with
    | false =>
      simp only [Bool.false_eq_true, if_false]
      obtain ⟨k1, k2, k3⟩ := S.skip hr
      exact hK _ _ (still k3 undef w m ls Bs (Ext.refl _ _) I.mem.rebase (by rw [k1]; simp only [SV.rel]; exact ⟨#[], rfl, by simp [SV.rels]⟩))
    | true =>
      simp only [if_true]
      cases hwi : D.wr i with
      | false =>
        -- a reader
        obtain ⟨r1, r2, r3⟩ := S.read hr hwi
        have hσ : ∀ x, (D.σ i x).rel m ls (a.eval x) := fun x => S.looks hr x m ls a (fun t ht hx => by subst ht; exact huse t hx)
        have hsame : ∀ c ∈ foot o'.op (D.σ i), (D.C p)[c]? = (D.C i)[c]? := by
          intro c hc
          have hci : c < (D.C i).length := hL.reads _ r3 rfl c hc
          have hcp : c < (D.C p).length := by
            obtain ⟨s, hs1, hs2⟩ := namesL_mem (foot_sub hc)
            obtain ⟨x, hx1, rfl⟩ := List.mem_map.1 hs1
            have := SV.names_lt (hσ x) c hs2
            rw [I.mem.nl] at this; exact this
          have hz : ∀ j, j < ops.size → D.wr j = true → ((p ≤ j ∧ j < i) ∨ (i < j ∧ j < p)) → c ∉ D.z j := by
            intro j hj hwj hjj hcz
            obtain ⟨oj, Sj⟩ := hS j hj
            have hlog := (Sj.write hwj).2.1
            have hji : j ≠ i := by omega
            rcases hL.apart _ hlog _ r3 rfl hji with h | h | ⟨_, h⟩ | ⟨h, _⟩
            · -- j ahead of i
              simp only at h
              have hl := hahead j h
              have q2 := ahead_lt hL ho h
              obtain ⟨o2, d2, c2, mk2, lo2, q1, q2, _⟩ := I.pend j hj hwj (by omega) hl
              rw [q2.noz] at hcz; simp at hcz
            · have hlt' := ahead_lt hL Sj.op h
              simp only at hlt'
              have hjl : listed[j]? = some true := I.front j hj hwj (by omega)
              exact hbehind j oj Sj.op hjl h
            · exact h c hcz hc
            · cases h
          rcases Nat.le_total p i with hpi | hpi
          · have := (seg hS c (i - p) p (by omega) hcp (fun j q1 q2 hwj => hz j (by omega) hwj (.inl ⟨q1, by omega⟩))).1
            rw [show p + (i - p) = i by omega] at this
            exact this.symm
          · have := (seg hS c (p - i) i (by have := I.le; omega) hci (fun j q1 q2 hwj => hz j (by have := I.le; omega) hwj (.inr ⟨(by
              rcases Nat.lt_or_ge i j with h | h
              · exact h
              · have e : j = i := by omega
                subst e; rw [hwi] at hwj; cases hwj), (by omega)⟩))).1
            rw [show i + (p - i) = p by omega] at this
            exact this
        refine .inl (run_step hT S hr I.mem.rebase (fun t ht => huse t ht) (.inl ⟨hwi, by rw [exRd_cs hsame]; exact r1⟩) ?_)
        intro m' ls' Bs' v' w' X M' hv
        rw [hwi] at M'
        exact hK _ _ (still hwi v' w' m' ls' Bs' X (by simpa using M') hv)
      | true =>
        -- a writer
        obtain ⟨W, r3, hal⟩ := S.write hwi
        have hpi : p ≤ i := by
          rcases Nat.lt_or_ge i p with h | h
          · exact absurd (I.front i hio hwi h) hnl
          · exact h
        by_cases hready : ∀ j, j < i → D.wr j = true → listed[j]? = some true
        · -- all ahead of it is done
          obtain ⟨ls1, Bs1, I1⟩ := I.upto hS (i - p) p (by omega) (fun j hj hwj => hready j (by omega) hwj)
          rw [show p + (i - p) = i by omega] at I1
          -- what it looks at, over the later places
          have hlook1 : ∀ t, .tmp t ∈ uses o'.op → (D.E i t).rel m ls1 (a.eval (.tmp t)) := by
            intro t ht
            have htl : t ∈ looks ops.toList o' := by
              unfold looks
              rw [app_eq, List.mem_append]
              left
              have : ∀ l : List Operand, .tmp t ∈ l → t ∈ tmpsOf l := by
                intro l
                induction l with
                | nil => simp
                | cons x l ih =>
                  intro hm
                  simp at hm
                  rcases hm with rfl | hm
                  · simp [tmpsOf]
                  · cases x <;> simp only [tmpsOf] <;> first | exact ih hm | exact List.mem_cons_of_mem _ (ih hm)
              exact this _ ht
            rcases E_val hS t i (by omega) with ⟨j', oj, q1, q2, q3, q4, q5⟩ | ⟨q1, q2⟩
            · rw [q5]
              have hlj : listed[j']? = some true := by
                rcases (hL.slots j' i oj o' t q2 ho (by omega) q3).2 htl with h | h
                · exact hahead j' h
                · have := ahead_lt hL q2 h; omega
              exact I1.vals t j' oj q2 q3 q4 hlj (fun h => by omega)
            · rw [q2]
              refine I1.rest t (fun j oj e1 e2 e3 hj => ?_)
              have hji : j ≠ i := fun e => by subst e; exact hnl hj
              have hge : ¬ j < i := fun hlt' => q1 j oj hlt' e1 e2 e3
              rcases (hL.slots j i oj o' t e1 ho hji e2).2 htl with h | h
              · have := ahead_lt hL ho h; omega
              · exact hbehind j oj e1 hj h
          refine .inl (run_step hT S hr I1.mem.rebase hlook1 (.inr ⟨hwi, rfl⟩) ?_)
          intro m' ls' Bs' v' w' X M' hv
          rw [hwi] at M'
          simp only [if_true] at M'
          refine hK _ _ (after (i + 1) m' ls' Bs' v' w' ls1 Bs1 i I1 (by omega) X (I1.mem.unbase M') (fun j hj hwj hjq => ?_) (fun j hj hwj hqj => ⟨by omega, by omega⟩) (fun j hj hwj hij hlj => ?_) (fun g e l Q2 => Q2.kept M') hv)
          · by_cases hji : j = i
            · exact .inl hji
            · exact .inr (hready j (by omega) hwj)
          · have hji : j ≠ i := fun e => by subst e; exact hnl hlj
            omega
        · -- a new variable, ahead of its turn
          obtain ⟨y, hyi, hwy, hly⟩ : ∃ y, y < i ∧ D.wr y = true ∧ listed[y]? ≠ some true := by
            apply Classical.byContradiction
            intro hno
            apply hready
            intro j hj hwj
            apply Classical.byContradiction
            intro hlj
            exact hno ⟨j, hj, hwj, hlj⟩
          obtain ⟨oy, Sy⟩ := hS y (by omega)
          have hex : ∃ d, mkFlag T (D.σ i) o'.op = 1 ∧ o'.dst = some d := by
            rcases hL.apart _ r3 _ (Sy.write hwy).2.1 rfl (by simp only; omega) with h | h | ⟨h, _⟩ | ⟨_, h | h⟩
            · have := ahead_lt hL Sy.op h; simp only at this; omega
            · exact absurd (hahead y h) hly
            · cases h
            · obtain ⟨q2, _, o2, d2, q1, q3, q4, _⟩ := h
              simp only at q1 q2
              rw [ho] at q1; cases q1
              exact ⟨d2, q2, q4⟩
            · have := h.2.1; simp only at this; omega
          obtain ⟨d, hoe, hod⟩ := hex
          obtain ⟨c, mk, lo, Mk⟩ := hal hoe
          obtain ⟨obj, hrun, hold⟩ := Mk.run a.eval o' w m ls rfl (fun x => S.looks hr x m ls a (fun t ht hx => by subst ht; exact huse t hx)) I.mem.mle
          refine .inl ?_
          unfold Oper.wp
          rw [hrun]
          refine hK _ _ ?_
          have hsz : w.heap.size < (w.alloc obj).heap.size := by show w.heap.size < (w.heap.push _).size; simp
          have hpn : Pend bs m Bs (w.alloc obj) w.heap.size c (lo w.heap.size) := by
            refine ⟨hsz, I.mem.size, fun ls2 => hold ls2 _ _ (heap_alloc _ _), I.mem.new_none, fun j B hj hb => ?_⟩
            exact absurd (I.mem.fresh j B hj _ hb).1 (Nat.lt_irrefl _)
          have hgn : ∀ j, j < ops.size → D.wr j = true → p ≤ j → listed[j]? = some true → G j ≠ w.heap.size := by
            intro j hj hwj hpj hlj he
            obtain ⟨_, _, _, _, _, _, _, _, _, Q2⟩ := I.pend j hj hwj hpj hlj
            have := Q2.lt
            omega
          refine ⟨by simp [H.size], hclosed, ⟨p, m, ls, Bs, fun j => if j = i then w.heap.size else G j, I.le, I.mem.alloc _, fun j hj hwj hjp => by rw [hset]; exact .inr (I.front j hj hwj hjp), ?_, ?_, ?_, ?_⟩, by rw [put_size]; exact H.tmps, by rw [put_defers]; exact H.defers⟩
          · intro j hj hwj hpj hlj
            rw [hset] at hlj
            by_cases hji : j = i
            · subst hji
              refine ⟨o', d, c, mk, lo, ho, Mk, hod, fun hd => ?_, by simpa using hpn⟩
              rw [put_eval, H.tmps, if_pos ⟨hod, hd⟩]; simp
            · have hlj := hlj.resolve_left hji
              obtain ⟨o2, d2, c2, mk2, lo2, q1, q2, q3, q4, Q2⟩ := I.pend j hj hwj hpj hlj
              simp only [hji, if_false]
              exact ⟨o2, d2, c2, mk2, lo2, q1, q2, q3, fun hd => by rw [other j o2 d2 _ q1 q3 hlj]; exact q4 hd, Q2.alloc _⟩
          · intro x y' hx hy hwx hwy' hpx hpy hlx hly' hxy
            rw [hset] at hlx hly'
            by_cases hxi : x = i
            · subst hxi
              have hyx : y' ≠ x := fun e => hxy e.symm
              simp only [hyx, if_true, if_false]
              exact fun e => hgn y' hy hwy' hpy (hly'.resolve_left hyx) e.symm
            · by_cases hyi' : y' = i
              · subst hyi'
                simp only [hxi, if_true, if_false]
                exact hgn x hx hwx hpx (hlx.resolve_left hxi)
              · simp only [hxi, hyi', if_false]
                exact I.ne x y' hx hy hwx hwy' hpx hpy (hlx.resolve_left hxi) (hly'.resolve_left hyi') hxy
          · intro t j oj e1 e2 e3 e4 e5
            rw [hset] at e4
            by_cases hji : j = i
            · subst hji; exact absurd ⟨hpi, hwi⟩ e5
            · have e4 := e4.resolve_left hji
              rw [other j oj t _ e1 e2 e4]
              exact I.vals t j oj e1 e2 e3 e4 e5
          · intro t hno
            rw [put_eval, H.tmps]
            have hne : ¬ (o'.dst = some t ∧ t < n) := fun h => hno i o' ho h.1 h.2 ((hset i).2 (.inl rfl))
            rw [if_neg hne]
            exact I.rest t (fun j oj e1 e2 e3 e4 => hno j oj e1 e2 e3 ((hset j).2 (.inr e4)))
  intro fuel
  induction fuel with
  | zero =>
    intro listed a w hf H
    have hr : Region.ready .any ops listed = [] := by
      cases hq : Region.ready .any ops listed with
      | nil => rfl
      | cons i l =>
        exfalso
        obtain ⟨o, _, hnl, hlt, _⟩ := ready_spec (ops := ops) (listed := listed) (i := i) (by rw [hq]; simp)
        have : i ∈ unl listed := by
          unfold unl
          simp only [List.mem_filter, List.mem_range]
          refine ⟨hlt, ?_⟩
          rw [Array.getElem?_eq_getElem hlt] at hnl
          simp [Array.getD, hlt] at hnl ⊢
          exact hnl
        have h0 : unl listed = [] := List.eq_nil_of_length_eq_zero (by omega)
        rw [h0] at this; simp at this
    exact ⟨hr, fin listed a w H hr⟩
  | succ fuel ih =>
    intro listed a w hf H
    refine ⟨fun hr => fin listed a w H hr, fun i hi => one listed a w H i hi _ (fun a' w' H' => ih _ a' w' ?_ H')⟩
    obtain ⟨o, _, hnl, hlt, _⟩ := ready_spec hi
    have : (unl (listed.setIfInBounds i true)).length < (unl listed).length := by
      unfold unl
      rw [Array.size_setIfInBounds]
      refine filter_lt (a := i) (fun x hx => ?_) (by simpa using hlt) ?_ ?_
      · by_cases hxi : i = x
        · subst hxi; simp [Array.getD, hlt] at hx
        · have e : (listed.setIfInBounds i true).getD x true = listed.getD x true := by
            simp only [Array.getD_eq_getD_getElem?]
            rw [Array.getElem?_setIfInBounds_ne hxi]
          rw [e] at hx; exact hx
      · rw [Array.getElem?_eq_getElem hlt] at hnl
        simp [Array.getD, hlt] at hnl ⊢
        exact hnl
      · simp [Array.getD, hlt]
    omega
end
end Go.Proofs.YtfkilmmldjajmaaSx
