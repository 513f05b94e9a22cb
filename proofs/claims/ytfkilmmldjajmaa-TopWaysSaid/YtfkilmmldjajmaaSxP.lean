/- A table of types is looked through. -/
import Derived.Test.YtfkilmmldjajmaaSxO
namespace Go.Proofs.YtfkilmmldjajmaaSx
open Go
set_option linter.unusedVariables false
set_option linter.unusedSimpArgs false

/-- Is this the zero that is told of? -/
def zOne : SV → Value → Bool
  | .p (.int k) x, v => (match v with | .int k' y => (match kindEq? k k' with | some _ => bif decide ((x : Int) = 0) then decide (y = 0) else false | none => false) | _ => false)
  | .cb .ff, v => (match v with | .bool false => true | _ => false)
  | .p .str x, v => (match v with | .string y => bif Nat.beq (ByteArray.size x) 0 then Nat.beq (ByteArray.size y) 0 else false | _ => false)
  | .nils, v => (match v with | .slice none 0 0 => true | _ => false)
  | .kv (.pointer none), v => (match v with | .pointer none => true | _ => false)
  | .kv (.map none), v => (match v with | .map none => true | _ => false)
  | .dead, _ => true
  | _, _ => false
def zAll : List SV → List Value → Bool
  | [], [] => true
  | s :: l, v :: vs => bif zOne s v then zAll l vs else false
  | _, _ => false

theorem zOne_ok {s : SV} {v : Value} (h : zOne s v = true) (m : Mm) (ls : List Loc) : s.rel m ls v := by
  unfold zOne at h
  split at h
  · rename_i k x
    split at h
    · rename_i k' y
      split at h
      · rename_i q hq
        obtain ⟨e⟩ := q
        subst e
        cases hx : decide ((show Int from x) = 0) with
        | false => rw [show decide ((x : Int) = 0) = false from hx] at h; simp at h
        | true =>
          rw [show decide ((x : Int) = 0) = true from hx] at h
          simp only [cond_true, decide_eq_true_eq] at h
          subst h
          have hx' : (show Int from x) = 0 := of_decide_eq_true hx
          simp only [SV.rel, Ty.agg, Bool.false_eq_true, if_false, Ty.rep]
          rw [show x = (0 : Int) from hx']
      · simp at h
    · simp at h
  · split at h
    · simp [SV.rel, BC.val]
    · simp at h
  · rename_i x
    split at h
    · rename_i y
      cases hx : Nat.beq (ByteArray.size x) 0 with
      | false => rw [hx] at h; simp at h
      | true =>
        rw [hx] at h
        simp only [cond_true] at h
        have h1 := beq_nat hx
        have h2 := beq_nat h
        have e : x = y := by
          have a1 : (show ByteArray from x) = ByteArray.empty := ByteArray.size_eq_zero_iff.1 h1
          have a2 : y = ByteArray.empty := ByteArray.size_eq_zero_iff.1 h2
          rw [a2]; exact a1
        subst e
        simp [SV.rel, Ty.agg, Ty.rep]
    · simp at h
  · split at h
    · simp [SV.rel]
    · simp at h
  · split at h
    · simp [SV.rel, Value.oneC]
    · simp at h
  · split at h
    · simp [SV.rel, Value.oneC]
    · simp at h
  · simp only [SV.rel]
  · simp at h

theorem zAll_ok (m : Mm) (ls : List Loc) : ∀ {l : List SV} {vs : List Value}, zAll l vs = true → SV.rels m ls l vs
  | [], [], _ => by simp [SV.rels]
  | [], _ :: _, h => by simp [zAll] at h
  | _ :: _, [], h => by simp [zAll] at h
  | s :: l, v :: vs, h => by
    simp only [zAll] at h
    cases h1 : zOne s v with
    | false => rw [h1] at h; simp at h
    | true =>
      rw [h1] at h
      simp only [SV.rels]
      exact ⟨v, vs, rfl, zOne_ok h1 m ls, zAll_ok m ls h⟩

/-- Is this the zero of a type? -/
def zTy : Ty → List Value → Option (List Value)
  | .int k, vs => (match vs with | .int k' y :: r => (match kindEq? k k' with | some _ => bif decide (y = 0) then some r else none | none => none) | _ => none)
  | .bool, vs => (match vs with | .bool false :: r => some r | _ => none)
  | .str, vs => (match vs with | .string y :: r => bif Nat.beq (ByteArray.size y) 0 then some r else none | _ => none)
  | .slice _, vs => (match vs with | .slice none 0 0 :: r => some r | _ => none)
  | .pair a b, vs => (match zTy a vs with | some r => zTy b r | none => none)
  | .unit, vs => some vs

theorem zTy_ok (m : Mm) : ∀ {t : Ty} {vs r : List Value}, zTy t vs = some r → ∃ us, vs = us ++ r ∧ t.rep m t.zero us
  | .int k, vs, r, h => by
    simp only [zTy] at h
    split at h
    · rename_i k' y r'
      split at h
      · rename_i q hq
        obtain ⟨e⟩ := q
        subst e
        cases hy : decide (y = 0) with
        | false => rw [hy] at h; simp at h
        | true =>
          rw [hy] at h
          simp at h hy
          subst h; subst hy
          exact ⟨[.int k 0], rfl, by simp [Ty.rep, Ty.zero]⟩
      · cases h
    · cases h
  | .bool, vs, r, h => by
    simp only [zTy] at h
    split at h
    · cases h; exact ⟨[.bool false], rfl, by simp [Ty.rep, Ty.zero]⟩
    · cases h
  | .str, vs, r, h => by
    simp only [zTy] at h
    split at h
    · rename_i y r'
      cases hy : Nat.beq (ByteArray.size y) 0 with
      | false => rw [hy] at h; simp at h
      | true =>
        rw [hy] at h
        simp at h
        subst h
        have h2 := beq_nat hy
        have a2 : y = ByteArray.empty := ByteArray.size_eq_zero_iff.1 h2
        subst a2
        exact ⟨[.string ByteArray.empty], rfl, by simp [Ty.rep, Ty.zero]⟩
    · cases h
  | .slice t, vs, r, h => by
    simp only [zTy] at h
    split at h
    · cases h; exact ⟨[.slice none 0 0], rfl, by simp only [Ty.rep, Ty.zero]; exact ⟨none, 0, by simp, by simp, fun h => absurd rfl h⟩⟩
    · cases h
  | .pair a b, vs, r, h => by
    simp only [zTy] at h
    split at h
    · rename_i r' hr
      obtain ⟨us, rfl, h1⟩ := zTy_ok m hr
      obtain ⟨ws, rfl, h2⟩ := zTy_ok m h
      exact ⟨us ++ ws, by simp, by simp only [Ty.rep, Ty.zero]; exact ⟨us, ws, rfl, h1, h2⟩⟩
    · cases h
  | .unit, vs, r, h => by
    simp only [zTy, Option.some.injEq] at h
    subst h
    exact ⟨[], rfl, by simp [Ty.rep]⟩

def fieldsEq : List (Nat × Nat) → List Field → Bool
  | [], [] => true
  | (o, t) :: l, f :: fs => bif Nat.beq o f.offset then (bif Nat.beq t f.type then fieldsEq l fs else false) else false
  | _, _ => false
theorem fieldsEq_ok : ∀ {l : List (Nat × Nat)} {fs : List Field}, fieldsEq l fs = true → l = fs.map fun f => (f.offset, f.type)
  | [], [], _ => rfl
  | [], _ :: _, h => by simp [fieldsEq] at h
  | _ :: _, [], h => by simp [fieldsEq] at h
  | (o, t) :: l, f :: fs, h => by
    simp only [fieldsEq] at h
    cases h1 : Nat.beq o f.offset with
    | false => rw [h1] at h; simp at h
    | true =>
      cases h2 : Nat.beq t f.type with
      | false => rw [h1, h2] at h; simp at h
      | true =>
        rw [h1, h2] at h
        have e1 := beq_nat h1
        have e2 := beq_nat h2
        simp only [List.map_cons, fieldsEq_ok h, e1, e2]

def descAgg : TypeDesc → Bool
  | .struct _ => true
  | .array _ _ => true
  | _ => false

def descOk (P : Program) : TD → TypeDesc → Bool
  | .int k, d => (match d with | .int k' => (match kindEq? k k' with | some _ => true | none => false) | _ => false)
  | .bool, d => (match d with | .bool => true | _ => false)
  | .str, d => (match d with | .string => true | _ => false)
  | .slice e, d => (match d with | .slice e' => Nat.beq e e' | _ => false)
  | .ptr e, d => (match d with | .pointer e' => Nat.beq e e' | _ => false)
  | .struct fs, d => (match d with | .struct fields => fieldsEq fs fields.toList | _ => false)
  | .arr n e, d => (match d with | .array n' e' => bif Nat.beq n n' then Nat.beq e e' else false | _ => false)
  | .map k e u, d => (match d with | .map k' e' => bif Nat.beq k k' then (bif Nat.beq e e' then (bif okKey P u (.ty k) then Nat.blt u.dep 10000 else false) else false) else false | _ => false)
  | .other, d => bif descAgg d then false else true

def isAggV : Value → Bool
  | .agg _ => true
  | _ => false

def boolEq : Bool → Bool → Bool
  | true, b => b
  | false, b => bif b then false else true

/-- Can values of a struct type be compared? -/
def eqsOk (P : Program) (t : Nat) (ti : TI) : Bool := match ti.d with
  | .struct _ => (match ti.ty with
    | some u => bif u.plain then (bif okKey P u (.ty t) then (bif Nat.blt u.dep 10000 then !(P.eqGuardType P.depth t) else false) else false) else true
    | none => true)
  | _ => true

def TI.check (P : Program) (t : Nat) (ti : TI) : Bool := match P.info? t with
  | some i => (match P.underlying t with
    | some d => (match i.zero with
      | some z => bif Nat.beq i.size ti.size then bif Nat.beq i.bytes ti.bytes then bif zAll ti.zero z.cells.toList then
          bif (match ti.ty with
            | some u => (match zTy u z.cells.toList with | some [] => bif Nat.beq u.width ti.size then boolEq u.agg ti.d.agg else false | _ => false)
            | none => true) then bif boolEq ti.d.agg (isAggV z) then bif descOk P ti.d d then bif (bif ti.d.agg then true else Nat.beq ti.size 1) then
              bif Nat.beq (lenL ti.zero) ti.size then eqsOk P t ti else false else false else false else false else false else false else false else false
      | none => false)
    | none => false)
  | none => false

theorem boolEq_ok {a b : Bool} (h : boolEq a b = true) : a = b := by cases a <;> cases b <;> simp_all [boolEq]
theorem bif_and {a b : Bool} (h : (bif a then b else false) = true) : a = true ∧ b = true := by cases a <;> simp_all

theorem descOk_ok {P : Program} {td : TD} {d : TypeDesc} : descOk P td d = true → (td.agg = true ↔ (∃ fs, d = .struct fs) ∨ ∃ n e, d = .array n e) ∧ (match td with
    | .int k => d = .int k
    | .bool => d = .bool
    | .str => d = .string
    | .slice e => d = .slice e
    | .ptr e => d = .pointer e
    | .struct fs => ∃ fields, d = .struct fields ∧ fs = fields.toList.map fun f => (f.offset, f.type)
    | .arr n e => d = .array n e
    | .map k e u => d = .map k e ∧ KeyOk P k u
    | .other => True) := by
  intro h
  cases td with
  | int k =>
    cases d <;> simp [descOk] at h
    split at h
    · rename_i q hq; obtain ⟨e⟩ := q; subst e; simp [TD.agg]
    · simp at h
  | bool => cases d <;> simp [descOk] at h; simp [TD.agg]
  | str => cases d <;> simp [descOk] at h; simp [TD.agg]
  | slice e => cases d <;> simp [descOk] at h; have := beq_nat (by simpa using h); simp [TD.agg, this]
  | ptr e => cases d <;> simp [descOk] at h; have := beq_nat (by simpa using h); simp [TD.agg, this]
  | struct fs => cases d <;> simp [descOk] at h; exact ⟨by simp [TD.agg], _, rfl, fieldsEq_ok h⟩
  | arr n e =>
    cases d with
    | array n' e' =>
      simp only [descOk] at h
      obtain ⟨h1, h2⟩ := bif_and h
      have e1 := beq_nat h1
      have e2 := beq_nat h2
      subst e1; subst e2
      exact ⟨by simp [TD.agg], rfl⟩
    | _ => simp [descOk] at h
  | map k e u =>
    cases d with
    | map k' e' =>
      simp only [descOk] at h
      obtain ⟨h1, h2⟩ := bif_and h
      obtain ⟨h2, h3⟩ := bif_and h2
      obtain ⟨h3, h4⟩ := bif_and h3
      have e1 := beq_nat h1
      have e2 := beq_nat h2
      subst e1; subst e2
      exact ⟨by simp [TD.agg], rfl, okKey_ok h3 (by simp [Nat.blt] at h4; omega)⟩
    | _ => simp [descOk] at h
  | other => cases d <;> simp [descOk, descAgg] at h <;> simp [TD.agg]

theorem TI.check_ok {P : Program} {t : Nat} {ti : TI} (h : ti.check P t = true) : ti.ok P t := by
  unfold TI.check at h
  split at h
  · rename_i i hi
    split at h
    · rename_i d hd
      split at h
      · rename_i z hz
        obtain ⟨h1, h⟩ := bif_and h
        obtain ⟨h2, h⟩ := bif_and h
        obtain ⟨h3, h⟩ := bif_and h
        obtain ⟨h4, h⟩ := bif_and h
        obtain ⟨h5, h⟩ := bif_and h
        obtain ⟨h6, h⟩ := bif_and h
        obtain ⟨h7, h⟩ := bif_and h
        have h5' := boolEq_ok h5
        obtain ⟨h, h8⟩ := bif_and h
        refine ⟨⟨i, z, hi, beq_nat h1, beq_nat h2, hz, fun m ls => zAll_ok m ls h3, ?_, ?_, ?_⟩, ⟨d, hd, descOk_ok h6⟩, ?_, ?_, ?_, ?_⟩
        · intro u hu m
          rw [hu] at h4
          simp only at h4
          split at h4
          · rename_i hq
            obtain ⟨us, e, hr⟩ := zTy_ok m hq
            rw [e]; simpa using hr
          · simp at h4
        · intro ha
          rw [ha] at h5'
          cases z <;> simp [isAggV] at h5' <;> exact ⟨_, rfl⟩
        · intro ha
          rw [ha] at h5'
          cases z <;> simp [isAggV] at h5' <;> rfl
        · intro u hu
          rw [hu] at h4
          simp only at h4
          split at h4
          · obtain ⟨q1, q2⟩ := bif_and h4
            exact ⟨beq_nat q1, boolEq_ok q2⟩
          · simp at h4
        · intro ha
          rw [ha] at h7
          exact beq_nat h7
        · have := beq_nat h; rw [lenL_eq] at this; exact this
        · intro fs u hd hu hf
          unfold eqsOk at h8
          rw [hd, hu] at h8
          simp only [hf, cond_true] at h8
          obtain ⟨k1, k2⟩ := bif_and h8
          obtain ⟨k2, k3⟩ := bif_and k2
          refine ⟨fun x y w => ((okKey_sem u (.ty t) k1).2.2.2 10000 (by simp [Nat.blt] at k2; omega)).2 w x y, by simpa using k3⟩
      · simp at h
    · simp at h
  · simp at h

def TT.check (P : Program) : TT → Bool
  | .nil => true
  | .node l k v r => bif l.check P then bif v.check P k then r.check P else false else false

theorem TT.check_ok {P : Program} : ∀ {T : TT}, T.check P = true → TOk P T
  | .nil, _ => fun t ti h => by simp [TT.find] at h
  | .node l k v r, h => by
    simp only [TT.check] at h
    obtain ⟨h1, h⟩ := bif_and h
    obtain ⟨h2, h3⟩ := bif_and h
    intro t ti hf
    simp only [TT.find] at hf
    cases hb : Nat.beq t k with
    | true =>
      rw [hb] at hf
      cases hf
      have := beq_nat hb; subst this
      exact TI.check_ok h2
    | false =>
      rw [hb] at hf
      simp only [cond_false] at hf
      cases hb2 : Nat.blt t k with
      | true => rw [hb2] at hf; exact TT.check_ok h1 t ti hf
      | false => rw [hb2] at hf; exact TT.check_ok h3 t ti hf
end Go.Proofs.YtfkilmmldjajmaaSx
