/- Keys of maps: when they are the same, and that the program's own search finds what the list's does. -/
import Derived.Test.YtfkilmmldjajmaaSxB
import Derived.MapKept
import Derived.ChangeKeysEq
import Derived.Laws.StructEq
import Derived.Laws.Sem
import Derived.Laws.Cells
namespace Go.Proofs.YtfkilmmldjajmaaSx
open Go
set_option linter.unusedVariables false
set_option linter.unusedSimpArgs false

/-- The cells of a flat value. -/
def Ty.vals : (u : Ty) → u.den → List Value
  | .int k, x => [.int k x]
  | .bool, x => [.bool x]
  | .str, x => [.string x]
  | .slice _, _ => []
  | .pair a b, x => a.vals x.1 ++ b.vals x.2
  | .unit, _ => []

def Ty.val (u : Ty) (x : u.den) : Value := if u.agg = true then .agg (u.vals x).toArray else (u.vals x).headD undef

def Ty.dep : Ty → Nat
  | .pair a b => max (a.dep + 1) b.dep
  | _ => 0

theorem rep_vals {m : Mm} : ∀ {u : Ty} {x : u.den} {vs : List Value}, u.flat = true → u.rep m x vs → vs = u.vals x
  | .int _, _, _, _, h => h
  | .bool, _, _, _, h => h
  | .str, _, _, _, h => h
  | .slice _, _, _, hf, _ => by simp [Ty.flat] at hf
  | .pair a b, _, _, hf, h => by
    simp only [Ty.rep] at h
    obtain ⟨us, ws, rfl, h1, h2⟩ := h
    have : a.flat = true ∧ b.flat = true := by simp only [Ty.flat] at hf; cases ha : a.flat <;> simp_all
    rw [rep_vals this.1 h1, rep_vals this.2 h2, Ty.vals]
  | .unit, _, _, _, h => h

theorem vals_rep (m : Mm) : ∀ {u : Ty} {x : u.den}, u.flat = true → u.rep m x (u.vals x)
  | .int _, _, _ => rfl
  | .bool, _, _ => rfl
  | .str, _, _ => rfl
  | .slice _, _, hf => by simp [Ty.flat] at hf
  | .pair a b, x, hf => by
    have : a.flat = true ∧ b.flat = true := by simp only [Ty.flat] at hf; cases ha : a.flat <;> simp_all
    simp only [Ty.rep]
    exact ⟨_, _, rfl, vals_rep m this.1, vals_rep m this.2⟩
  | .unit, _, _ => rfl

theorem vals_len {u : Ty} {x : u.den} (hf : u.flat = true) : (u.vals x).length = u.width := Ty.rep_length (vals_rep (fun _ _ => none) hf)

theorem rel_val {m : Mm} {ls : List Loc} {u : Ty} {x : u.den} {v : Value} (hf : u.flat = true) (h : (SV.p u x).rel m ls v) : v = u.val x := by
  simp only [SV.rel] at h
  unfold Ty.val
  split at h
  · rename_i ha
    obtain ⟨cs, rfl, h2⟩ := h
    rw [if_pos ha, ← rep_vals hf h2]
  · rename_i ha
    rw [if_neg ha, ← rep_vals hf h]; rfl

theorem val_rel (m : Mm) (ls : List Loc) {u : Ty} {x : u.den} (hf : u.flat = true) : (SV.p u x).rel m ls (u.val x) := by
  simp only [SV.rel]
  unfold Ty.val
  split
  · rename_i ha
    exact ⟨_, rfl, vals_rep m hf⟩
  · rename_i ha
    have := vals_rep m (x := x) hf
    cases u <;> simp_all [Ty.agg, Ty.vals, Ty.flat]

/-- A type, fields from a place on, items of an array from a place on. -/
inductive KG where
  | ty (t : Nat) | fields (fs : List Field) (off : Nat) | items (e i n : Nat)

def KG.exp (P : Program) : KG → Option KG
  | .ty t => match P.underlying t with
    | some (.struct fs) => bif P.stoodInHeld t then none else some (.fields fs.toList 0)
    | some (.array n e) => bif (P.info? e).isSome then some (.items e 0 n) else none
    | _ => none
  | g => some g

def isTy (P : Program) (f : TypeDesc → Bool) : KG → Bool
  | .ty t => match P.underlying t with | some d => f d | none => false
  | _ => false

def okKey (P : Program) : Ty → KG → Bool
  | .int k, g => isTy P (fun d => match d with | .int k' => (match kindEq? k k' with | some _ => true | none => false) | _ => false) g
  | .bool, g => isTy P (fun d => match d with | .bool => true | _ => false) g
  | .str, g => isTy P (fun d => match d with | .string => true | _ => false) g
  | .slice _, _ => false
  | .pair a b, g => (match g.exp P with
    | some (.fields (f :: fs) off) => Nat.beq f.offset off && !(f.name == "_") && Nat.beq (P.cellsOf f.type) a.width && (P.info? f.type).isSome && okKey P a (.ty f.type) && okKey P b (.fields fs (off + a.width))
    | some (.items e i (n + 1)) => Nat.beq (P.cellsOf e) a.width && (P.info? e).isSome && okKey P a (.ty e) && okKey P b (.items e (i + 1) n)
    | _ => false)
  | .unit, g => (match g.exp P with
    | some (.fields [] _) => true
    | some (.items _ _ 0) => true
    | _ => false)

section
variable {P : Program}

/-- The walk through a key's fields. -/
def chkFields (em : Bool) (d : Nat) (xs : Array Value) : List Field → Sem Unit
  | [] => pure ()
  | f :: fs => if f.name ≠ "_" then do
      let a ← part f.type xs f.offset
      Instr.checkKey em d f.type a
      chkFields em d xs fs
    else chkFields em d xs fs
def chkItems (em : Bool) (d : Nat) (e c : Nat) (xs : Array Value) : List Nat → Sem Unit
  | [] => pure ()
  | i :: is => do
    let a ← part e xs (i * c)
    Instr.checkKey em d e a
    chkItems em d e c xs is

theorem run_checkKey_struct (em : Bool) (d : Nat) {t : TypeId} {fs : Array Field} (xs : Array Value) (ht : P.underlying t = some (.struct fs)) (w : World) :
    (Instr.checkKey em (d + 1) t (.agg xs)).run P w = (chkFields em d xs fs.toList).run P w := by
  rw [Instr.checkKey]
  simp only [Sem.run_bind, run_underlying ht, Result.andThen_ok]
  rw [← Array.forIn_toList]
  generalize fs.toList = fs
  clear ht
  induction fs generalizing w with
  | nil => simp [chkFields]
  | cons f fs ih =>
    simp only [List.forIn_cons, chkFields, Sem.run_bind, Sem.run_ite]
    split
    · generalize (part f.type xs f.offset).run P w = r1
      cases r1 with
      | ok a w1 =>
        simp only [Result.andThen_ok]
        generalize (Instr.checkKey em d f.type a).run P w1 = r2
        cases r2 with
        | ok b w2 => simp only [Result.andThen_ok, Sem.run_pure]; exact ih w2
        | halt x w2 => simp [Result.andThen]
      | halt x w1 => simp [Result.andThen]
    · simp only [Sem.run_pure, Result.andThen_ok]; exact ih w

theorem run_checkKey_array (em : Bool) (d : Nat) {t e n : Nat} {i : TypeInfo} (xs : Array Value) (ht : P.underlying t = some (.array n e)) (hi : P.info? e = some i) (w : World) :
    (Instr.checkKey em (d + 1) t (.agg xs)).run P w = (chkItems em d e (P.cellsOf e) xs (List.range n)).run P w := by
  rw [Instr.checkKey]
  simp only [Sem.run_bind, run_underlying ht, Result.andThen_ok]
  simp only [Std.Legacy.Range.forIn_eq_forIn_range', Std.Legacy.Range.size, Nat.sub_zero, Nat.add_one_sub_one, Nat.div_one, List.range_eq_range']
  generalize List.range' 0 n = is
  induction is generalizing w with
  | nil => simp [chkItems]
  | cons j is ih =>
    simp only [List.forIn_cons, chkItems, Sem.run_bind, run_sizeOf w hi, Result.andThen_ok]
    generalize (part e xs (j * P.cellsOf e)).run P w = r1
    cases r1 with
    | ok a w1 =>
      simp only [Result.andThen_ok]
      generalize (Instr.checkKey em d e a).run P w1 = r2
      cases r2 with
      | ok b w2 => simp only [Result.andThen_ok, Sem.run_pure]; exact ih w2
      | halt x w2 => simp [Result.andThen]
    | halt x w1 => simp [Result.andThen]

/-- What is proved of a key's type. -/
def KGSem (P : Program) (u : Ty) : KG → Prop
  | .ty t => (∀ w, (isAgg t).run P w = .ok u.agg w) ∧ (u.agg = true ∨ ∃ d, P.underlying t = some d ∧ ∀ x y, Instr.sameNow d (u.val x) (u.val y) = some (u.beq x y)) ∧ (u.agg = true → ∃ d, P.underlying t = some d ∧ ∀ x y : Array Value, Instr.sameNow d (.agg x) (.agg y) = none) ∧
      ∀ n, u.dep + 1 ≤ n → (∀ em w x, (Instr.checkKey em n t (u.val x)).run P w = .ok () w) ∧ ∀ w x y, (Op.equalIn n t (u.val x) (u.val y)).run P w = .ok (u.beq x y) w
  | .fields fs off => ∀ n, u.dep ≤ n → ∀ x (xs : Array Value), xs.toList.drop off = u.vals x → (∀ em w, (chkFields em n xs fs).run P w = .ok () w) ∧
      ∀ w y (ys : Array Value), ys.toList.drop off = u.vals y → (Op.eqFields n xs ys fs).run P w = .ok (u.beq x y) w
  | .items e i k => ∀ n, u.dep ≤ n → ∀ x (xs : Array Value), xs.toList.drop (i * P.cellsOf e) = u.vals x → (∀ em w, (chkItems em n e (P.cellsOf e) xs (List.range' i k)).run P w = .ok () w) ∧
      ∀ w y (ys : Array Value), ys.toList.drop (i * P.cellsOf e) = u.vals y → (Op.eqItems n e (P.cellsOf e) xs ys (List.range' i k)).run P w = .ok (u.beq x y) w

theorem part_val {a : Ty} {t : TypeId} (ha : ∀ w, (isAgg t).run P w = .ok a.agg w) (hf : a.flat = true) (hs : P.cellsOf t = a.width) {i : TypeInfo} (hi : P.info? t = some i) {xs : Array Value} {off : Nat} {x : a.den} {rest : List Value}
    (h : xs.toList.drop off = a.vals x ++ rest) (w : World) : (part t xs off).run P w = .ok (a.val x) w := by
  have hl := vals_len (x := x) hf
  unfold part
  simp only [Sem.run_bind, ha, Result.andThen_ok]
  unfold Ty.val
  cases hag : a.agg with
  | true =>
    simp only [if_true, Sem.run_bind, run_sizeOf w hi, Result.andThen_ok, Sem.run_pure]
    congr 2
    apply Array.toList_inj.1
    rw [Array.toList_extract, hs]
    have e : (xs.toList.extract off (off + a.width)) = (xs.toList.drop off).take a.width := by simp [List.extract]
    rw [e, h, ← hl]; simp
  | false =>
    have hw : a.width = 1 := by cases a <;> simp_all [Ty.agg, Ty.width]
    simp only [Bool.false_eq_true, if_false]
    match hq : a.vals x, hl with
    | [v], _ =>
      rw [hq] at h
      have : xs[off]? = some v := by
        rw [← Array.getElem?_toList]
        have := congrArg (fun l => l[0]?) h
        simpa using this
      rw [this]; rfl
    | [], hl2 => rw [hw] at hl2; simp at hl2
    | _ :: _ :: _, hl2 => rw [hw] at hl2; simp at hl2

theorem okKey_flat : ∀ {u : Ty} {g : KG}, okKey P u g = true → u.flat = true
  | .int _, _, _ => rfl
  | .bool, _, _ => rfl
  | .str, _, _ => rfl
  | .slice _, _, h => by simp [okKey] at h
  | .unit, _, _ => rfl
  | .pair a b, g, h => by
    simp only [okKey] at h
    split at h
    · simp only [Bool.and_eq_true] at h
      simp [Ty.flat, okKey_flat h.1.2, okKey_flat h.2]
    · simp only [Bool.and_eq_true] at h
      simp [Ty.flat, okKey_flat h.1.2, okKey_flat h.2]
    · cases h

/-- From the parts to the whole. -/
theorem key_parts {u : Ty} (hag : u.agg = true) {g g' : KG} (h : g.exp P = some g') (H : KGSem P u g') : KGSem P u g := by
  cases g with
  | fields fs off => simp only [KG.exp, Option.some.injEq] at h; subst h; exact H
  | items e i n => simp only [KG.exp, Option.some.injEq] at h; subst h; exact H
  | ty t =>
    simp only [KG.exp] at h
    split at h
    · rename_i fs ht
      cases hst : P.stoodInHeld t with
      | true => rw [hst] at h; cases h
      | false =>
        rw [hst] at h
        simp only [cond_false, Option.some.injEq] at h
        subst h
        refine ⟨fun w => by simp [isAgg, run_underlying ht, hag], .inl hag, fun _ => ⟨_, ht, fun _ _ => rfl⟩, fun n hn => ?_⟩
        obtain ⟨n, rfl⟩ : ∃ k, n = k + 1 := ⟨n - 1, by omega⟩
        refine ⟨fun em w x => ?_, fun w x y => ?_⟩
        · have := (H n (by omega) x (u.vals x).toArray (by simp)).1 em w
          unfold Ty.val
          rw [if_pos hag, run_checkKey_struct em n _ ht]; exact this
        · have := (H n (by omega) x (u.vals x).toArray (by simp)).2 w y (u.vals y).toArray (by simp)
          unfold Ty.val
          rw [if_pos hag, if_pos hag]
          have hfo : P.fieldsOf t = fs := by simp [Program.fieldsOf, ht]
          rw [run_equalIn_struct w n t _ _ (by rw [hfo]; exact ht) hst, hfo]; exact this
    · rename_i k e ht
      cases hinf : (P.info? e).isSome with
      | false => rw [hinf] at h; cases h
      | true =>
        rw [hinf] at h
        simp only [cond_true, Option.some.injEq] at h
        subst h
        obtain ⟨i, hi⟩ := Option.isSome_iff_exists.1 hinf
        refine ⟨fun w => by simp [isAgg, run_underlying ht, hag], .inl hag, fun _ => ⟨_, ht, fun _ _ => rfl⟩, fun n hn => ?_⟩
        obtain ⟨n, rfl⟩ : ∃ k, n = k + 1 := ⟨n - 1, by omega⟩
        refine ⟨fun em w x => ?_, fun w x y => ?_⟩
        · have := (H n (by omega) x (u.vals x).toArray (by simp)).1 em w
          unfold Ty.val
          rw [if_pos hag, run_checkKey_array em n _ ht hi, List.range_eq_range']; exact this
        · have := (H n (by omega) x (u.vals x).toArray (by simp)).2 w y (u.vals y).toArray (by simp)
          unfold Ty.val
          rw [if_pos hag, if_pos hag, run_equalIn_array w n _ _ ht hi, List.range_eq_range']; exact this
    · cases h

theorem okKey_sem : ∀ (u : Ty) (g : KG), okKey P u g = true → KGSem P u g
  | .int k, g, h => by
    cases g with
    | ty t =>
      simp only [okKey, isTy] at h
      split at h
      · rename_i d hd
        split at h
        · rename_i k'
          split at h
          · rename_i q hq
            obtain ⟨e⟩ := q
            subst e
            refine ⟨fun w => by simp [isAgg, run_underlying hd, Ty.agg], .inr ⟨_, hd, fun x y => by simp [Ty.val, Ty.agg, Ty.vals, Instr.sameNow, Ty.beq]; rfl⟩, fun h => by simp [Ty.agg] at h, fun n hn => ?_⟩
            obtain ⟨n, rfl⟩ : ∃ k, n = k + 1 := ⟨n - 1, by omega⟩
            refine ⟨fun em w x => ?_, fun w x y => ?_⟩
            · exact MapKept.run_checkKey hd (by simp [MapKept.IsKey, Ty.val, Ty.agg, Ty.vals]) em n
            · simp [Op.equalIn, run_underlying hd, Ty.val, Ty.agg, Ty.vals, Ty.beq]; rfl
          · cases h
        · cases h
      · cases h
    | _ => simp [okKey, isTy] at h
  | .bool, g, h => by
    cases g with
    | ty t =>
      simp only [okKey, isTy] at h
      split at h
      · rename_i d hd
        split at h
        · refine ⟨fun w => by simp [isAgg, run_underlying hd, Ty.agg], .inr ⟨_, hd, fun x y => by simp [Ty.val, Ty.agg, Ty.vals, Instr.sameNow, Ty.beq]⟩, fun h => by simp [Ty.agg] at h, fun n hn => ?_⟩
          obtain ⟨n, rfl⟩ : ∃ k, n = k + 1 := ⟨n - 1, by omega⟩
          refine ⟨fun em w x => ?_, fun w x y => ?_⟩
          · exact MapKept.run_checkKey hd (by simp [MapKept.IsKey, Ty.val, Ty.agg, Ty.vals]) em n
          · simp [Op.equalIn, run_underlying hd, Ty.val, Ty.agg, Ty.vals, Ty.beq]
        · cases h
      · cases h
    | _ => simp [okKey, isTy] at h
  | .str, g, h => by
    have hb : ∀ x y : ByteArray, (x == y) = decide (x = y) := fun x y => by rw [Bool.eq_iff_iff, decide_eq_true_eq]; exact MapKept.bytes_beq x y
    cases g with
    | ty t =>
      simp only [okKey, isTy] at h
      split at h
      · rename_i d hd
        split at h
        · refine ⟨fun w => by simp [isAgg, run_underlying hd, Ty.agg], .inr ⟨_, hd, fun x y => by simp only [Ty.val, Ty.agg, Ty.vals, Instr.sameNow, Ty.beq, Bool.false_eq_true, if_false, List.headD_cons, hb]⟩, fun h => by simp [Ty.agg] at h, fun n hn => ?_⟩
          obtain ⟨n, rfl⟩ : ∃ k, n = k + 1 := ⟨n - 1, by omega⟩
          refine ⟨fun em w x => ?_, fun w x y => ?_⟩
          · exact MapKept.run_checkKey hd (by simp [MapKept.IsKey, Ty.val, Ty.agg, Ty.vals]) em n
          · simp [Op.equalIn, run_underlying hd, Ty.val, Ty.agg, Ty.vals, Ty.beq, hb]
        · cases h
      · cases h
    | _ => simp [okKey, isTy] at h
  | .slice _, _, h => by simp [okKey] at h
  | .unit, g, h => by
    simp only [okKey] at h
    split at h
    · rename_i off hg
      exact key_parts rfl hg (fun n _ x xs hx => ⟨fun em w => by simp [chkFields], fun w y ys _ => by simp [Op.eqFields, Ty.beq]⟩)
    · rename_i e i hg
      exact key_parts rfl hg (fun n _ x xs hx => ⟨fun em w => by simp [chkItems], fun w y ys _ => by simp [Op.eqItems, Ty.beq]⟩)
    · cases h
  | .pair a b, g, h => by
    have hfl := okKey_flat h
    have hfl' : a.flat = true ∧ b.flat = true := by simp only [Ty.flat] at hfl; cases ha : a.flat <;> simp_all
    simp only [okKey] at h
    split at h
    · rename_i f fs off hg
      simp only [Bool.and_eq_true] at h
      obtain ⟨⟨⟨⟨⟨h1, h2⟩, h3⟩, h4⟩, h5⟩, h6⟩ := h
      have h1 := Nat.eq_of_beq_eq_true h1
      have h3 := Nat.eq_of_beq_eq_true h3
      subst h1
      obtain ⟨i, hi⟩ := Option.isSome_iff_exists.1 h4
      have hn : f.name ≠ "_" := by simpa using h2
      obtain ⟨a1, _, _, a2⟩ := okKey_sem a (.ty f.type) h5
      have hb := okKey_sem b (.fields fs (f.offset + a.width)) h6
      refine key_parts rfl hg (fun n hd x xs hx => ?_)
      simp only [Ty.dep] at hd
      simp only [Ty.vals] at hx
      have la := vals_len (x := x.1) hfl'.1
      have tail : ∀ (ys : Array Value) (y : a.den × b.den), ys.toList.drop f.offset = a.vals y.1 ++ b.vals y.2 → ys.toList.drop (f.offset + a.width) = b.vals y.2 := by
        intro ys y hy
        rw [← List.drop_drop, hy, ← vals_len (x := y.1) hfl'.1]; simp
      refine ⟨fun em w => ?_, fun w y ys hy => ?_⟩
      · simp only [chkFields]
        rw [if_pos hn]
        simp only [Sem.run_bind, part_val a1 hfl'.1 h3 hi hx, Result.andThen_ok, (a2 n (by omega)).1]
        exact (hb n (by omega) x.2 xs (tail xs x hx)).1 em w
      · simp only [Ty.vals] at hy
        simp only [Op.eqFields]
        rw [if_pos hn]
        simp only [Sem.run_bind, part_val a1 hfl'.1 h3 hi hx, part_val a1 hfl'.1 h3 hi hy, Result.andThen_ok, (a2 n (by omega)).2, Ty.beq]
        cases hq : a.beq x.1 y.1 with
        | false => simp
        | true => simpa using (hb n (by omega) x.2 xs (tail xs x hx)).2 w y.2 ys (tail ys y hy)
    · rename_i e i k hg
      simp only [Bool.and_eq_true] at h
      obtain ⟨⟨⟨h3, h4⟩, h5⟩, h6⟩ := h
      have h3 := Nat.eq_of_beq_eq_true h3
      obtain ⟨inf, hi⟩ := Option.isSome_iff_exists.1 h4
      obtain ⟨a1, _, _, a2⟩ := okKey_sem a (.ty e) h5
      have hb := okKey_sem b (.items e (i + 1) k) h6
      refine key_parts rfl hg (fun n hd x xs hx => ?_)
      simp only [Ty.dep] at hd
      simp only [Ty.vals] at hx
      have tail : ∀ (ys : Array Value) (y : a.den × b.den), ys.toList.drop (i * P.cellsOf e) = a.vals y.1 ++ b.vals y.2 → ys.toList.drop ((i + 1) * P.cellsOf e) = b.vals y.2 := by
        intro ys y hy
        rw [Nat.add_mul, Nat.one_mul, ← List.drop_drop, hy, h3, ← vals_len (x := y.1) hfl'.1]; simp
      rw [List.range'_succ]
      refine ⟨fun em w => ?_, fun w y ys hy => ?_⟩
      · simp only [chkItems]
        simp only [Sem.run_bind, part_val a1 hfl'.1 h3 hi hx, Result.andThen_ok, (a2 n (by omega)).1]
        exact (hb n (by omega) x.2 xs (tail xs x hx)).1 em w
      · simp only [Ty.vals] at hy
        simp only [Op.eqItems]
        simp only [Sem.run_bind, part_val a1 hfl'.1 h3 hi hx, part_val a1 hfl'.1 h3 hi hy, Result.andThen_ok, (a2 n (by omega)).2, Ty.beq]
        cases hq : a.beq x.1 y.1 with
        | false => simp
        | true => simpa using (hb n (by omega) x.2 xs (tail xs x hx)).2 w y.2 ys (tail ys y hy)
    · cases h

/-- The first entry of a key. -/
def kfind (u : Ty) (x : u.den) : List u.den → Nat → Option Nat
  | [], _ => none
  | y :: l, i => bif u.beq x y then some i else kfind u x l (i + 1)

theorem kfind_lt {u : Ty} {x : u.den} : ∀ {l : List u.den} {i j : Nat}, kfind u x l i = some j → i ≤ j ∧ j < i + l.length
  | [], _, _, h => by simp [kfind] at h
  | y :: l, i, j, h => by
    simp only [kfind] at h
    cases hb : u.beq x y with
    | true => rw [hb] at h; simp at h; subst h; simp
    | false => rw [hb] at h; simp only [cond_false] at h; have := kfind_lt h; simp; omega

theorem beq_eq : ∀ {u : Ty} {x y : u.den}, u.beq x y = true → x = y
  | .int _, x, y, h => of_decide_eq_true h
  | .bool, x, y, h => eq_of_beq h
  | .str, x, y, h => of_decide_eq_true h
  | .slice _, _, _, h => by simp [Ty.beq] at h
  | .pair a b, (x1, x2), (y1, y2), h => by
    simp only [Ty.beq] at h
    cases h1 : a.beq x1 y1 with
    | false => rw [h1] at h; cases h
    | true =>
      rw [h1] at h
      rw [beq_eq h1, beq_eq h]
  | .unit, _, _, _ => rfl

theorem beq_self : ∀ {u : Ty} (x : u.den), u.flat = true → u.beq x x = true
  | .int _, x, _ => by simp [Ty.beq]
  | .bool, x, _ => by simp [Ty.beq]
  | .str, x, _ => by simp [Ty.beq]
  | .slice _, _, h => by simp [Ty.flat] at h
  | .pair a b, (x1, x2), h => by
    have : a.flat = true ∧ b.flat = true := by simp only [Ty.flat] at h; cases ha : a.flat <;> simp_all
    simp [Ty.beq, beq_self x1 this.1, beq_self x2 this.2]
  | .unit, _, _ => rfl

theorem kfind_eq {u : Ty} {x : u.den} : ∀ {l : List u.den} {i j : Nat} {y : u.den}, kfind u x l i = some j → l[j - i]? = some y → y = x
  | [], _, _, _, h, _ => by simp [kfind] at h
  | z :: l, i, j, y, h, hy => by
    simp only [kfind] at h
    cases hb : u.beq x z with
    | true =>
      rw [hb] at h
      simp at h
      subst h
      simp at hy
      rw [← hy, beq_eq hb]
    | false =>
      rw [hb] at h
      simp only [cond_false] at h
      have := kfind_lt h
      rw [show j - i = (j - (i + 1)) + 1 by omega, List.getElem?_cons_succ] at hy
      exact kfind_eq h hy

/-- A type of keys. -/
structure KeyOk (P : Program) (t : TypeId) (u : Ty) : Prop where
  flat : u.flat = true
  check : ∀ em x w, (Instr.checkKey em 10000 t (u.val x)).run P w = .ok () w
  find : ∀ (x : u.den) (xs : List u.den) (es : List MapEntry) w, es.map (·.key) = xs.map u.val →
    (Instr.findKey t (u.val x) es).run P w = .ok ((kfind u x xs 0).bind fun i => (es[i]?).map fun e => (i, e.val)) w
  stays : ∀ x w, (Instr.keyThatStays (u.val x) (u.val x)).run P w = .ok (u.val x) w

theorem sameBits_cells : ∀ (u : Ty) (x : u.den), u.flat = true → ∀ v ∈ u.vals x, ∀ n, Instr.sameBits n v v = true
  | .int _, x, _, v, hv, n => by simp [Ty.vals] at hv; subst hv; cases n <;> simp [Instr.sameBits]
  | .bool, x, _, v, hv, n => by simp [Ty.vals] at hv; subst hv; cases n <;> simp [Instr.sameBits]
  | .str, x, _, v, hv, n => by simp [Ty.vals] at hv; subst hv; cases n <;> simp [Instr.sameBits, MapKept.bytes_beq]
  | .slice _, _, hf, _, _, _ => by simp [Ty.flat] at hf
  | .unit, _, _, v, hv, _ => by simp [Ty.vals] at hv
  | .pair a b, x, hf, v, hv, n => by
    have : a.flat = true ∧ b.flat = true := by simp only [Ty.flat] at hf; cases ha : a.flat <;> simp_all
    simp only [Ty.vals, List.mem_append] at hv
    rcases hv with hv | hv
    · exact sameBits_cells a x.1 this.1 v hv n
    · exact sameBits_cells b x.2 this.2 v hv n

theorem findAsking_of {u : Ty} {t : TypeId} {w : World} (he : ∀ x y, (Op.equal t (u.val x) (u.val y)).run P w = .ok (u.beq x y) w) (x : u.den) : ∀ (xs : List u.den) (es : List MapEntry) (i : Nat), es.map (·.key) = xs.map u.val →
    (Instr.findAsking t (u.val x) es i).run P w = .ok ((kfind u x xs i).bind fun j => (es[j - i]?).map fun e => (j, e.val)) w
  | [], es, i, h => by
    have : es = [] := by simpa using h
    subst this; simp [Instr.findAsking, kfind]
  | y :: xs, es, i, h => by
    match es, h with
    | e :: es, h =>
      simp only [List.map_cons, List.cons.injEq] at h
      simp only [Instr.findAsking, Sem.run_bind, h.1, he, Result.andThen_ok, kfind]
      cases hb : u.beq x y with
      | true => simp
      | false =>
        simp only [Bool.false_eq_true, if_false, cond_false]
        rw [findAsking_of he x xs es (i + 1) h.2]
        cases hk : kfind u x xs (i + 1) with
        | none => rfl
        | some j =>
          have := kfind_lt hk
          simp only [Option.bind_some]
          rw [show j - i = (j - (i + 1)) + 1 by omega, List.getElem?_cons_succ]

theorem findNow_of {u : Ty} {d : TypeDesc} (he : ∀ x y, Instr.sameNow d (u.val x) (u.val y) = some (u.beq x y)) (x : u.den) : ∀ (xs : List u.den) (es : List MapEntry) (i : Nat), es.map (·.key) = xs.map u.val →
    Instr.findNow d (u.val x) es i = some ((kfind u x xs i).bind fun j => (es[j - i]?).map fun e => (j, e.val))
  | [], es, i, h => by
    have : es = [] := by simpa using h
    subst this; simp [Instr.findNow, kfind]
  | y :: xs, es, i, h => by
    match es, h with
    | e :: es, h =>
      simp only [List.map_cons, List.cons.injEq] at h
      simp only [Instr.findNow, h.1, he, kfind]
      cases hb : u.beq x y with
      | true => simp
      | false =>
        simp only [cond_false]
        rw [findNow_of he x xs es (i + 1) h.2]
        cases hk : kfind u x xs (i + 1) with
        | none => rfl
        | some j =>
          have := kfind_lt hk
          simp only [Option.bind_some]
          rw [show j - i = (j - (i + 1)) + 1 by omega, List.getElem?_cons_succ]

theorem okKey_ok {u : Ty} {t : TypeId} (h : okKey P u (.ty t) = true) (hd : u.dep < 10000) : KeyOk P t u := by
  have hf := okKey_flat h
  obtain ⟨h1, h2, h3, h4⟩ := okKey_sem u (.ty t) h
  obtain ⟨h5, h6⟩ := h4 10000 (by omega)
  refine ⟨hf, fun em x w => h5 em w x, fun x xs es w he => ?_, fun x w => ?_⟩
  · unfold Instr.findKey
    rcases h2 with hag | ⟨d, hu, hs⟩
    · obtain ⟨d, hu, hs⟩ := h3 hag
      simp only [Sem.run_bind, run_underlying hu, Result.andThen_ok]
      have hA := findAsking_of (P := P) (w := w) (t := t) (fun x y => h6 w x y) x xs es 0 he
      simp only [Nat.sub_zero] at hA
      cases es with
      | nil =>
        have : xs = [] := by simpa using he.symm
        subst this
        simp [Instr.findNow, kfind]
      | cons e es =>
        match xs, he with
        | y :: xs, he =>
          simp only [List.map_cons, List.cons.injEq] at he
          have : Instr.findNow d (u.val x) (e :: es) 0 = none := by
            simp only [Instr.findNow, he.1]
            have := hs (u.vals x).toArray (u.vals y).toArray
            simp only [Ty.val, hag, if_true, this]
          rw [this]; exact hA
    · simp only [Sem.run_bind, run_underlying hu, Result.andThen_ok]
      have := findNow_of hs x xs es 0 he
      simp only [Nat.sub_zero] at this
      rw [this]; rfl
  · unfold Instr.keyThatStays
    have : Instr.sameBits 10000 (u.val x) (u.val x) = true := by
      rw [show (10000 : Nat) = 9999 + 1 from rfl]
      generalize 9999 = n
      unfold Ty.val
      cases hag : u.agg with
      | true =>
        simp only [if_true, Instr.sameBits, beq_self_eq_true, Bool.true_and, List.all_eq_true]
        intro y hy
        have hz : ∀ (l : List Value) y, y ∈ l.zip l → y.1 = y.2 ∧ y.1 ∈ l := by
          intro l
          induction l with
          | nil => intro y hy; simp at hy
          | cons a l ih => intro y hy; simp at hy; rcases hy with rfl | hy; · simp
                           · have := ih y hy; exact ⟨this.1, List.mem_cons_of_mem _ this.2⟩
        obtain ⟨e1, e2⟩ := hz _ _ hy
        rw [← e1]
        exact sameBits_cells u x hf _ (by simpa using e2) n
      | false =>
        simp only [Bool.false_eq_true, if_false]
        have hl := vals_len (x := x) hf
        have hw : u.width = 1 := by cases u <;> simp_all [Ty.agg, Ty.width]
        have hc := sameBits_cells u x hf
        match hq : u.vals x, hl with
        | [v], _ => rw [hq] at hc; exact hc v (by simp) _
        | [], hl2 => rw [hw] at hl2; simp at hl2
        | _ :: _ :: _, hl2 => rw [hw] at hl2; simp at hl2
    rw [if_pos this]; rfl
end
end Go.Proofs.YtfkilmmldjajmaaSx
