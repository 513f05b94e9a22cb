/- Operations that only read: what the machine tells of them is so. -/
import Derived.Test.YtfkilmmldjajmaaSxB
import Derived.Test.YtfkilmmldjajmaaSxKey
import Derived.Laws.Sem
import Derived.Laws.Cells
import Derived.Laws.Slices
import Derived.Laws.BytesString
namespace Go.Proofs.YtfkilmmldjajmaaSx
open Go
set_option linter.unusedVariables false
set_option linter.unusedSimpArgs false

/-- What a row of the table of types says of the program's type. -/
structure TI.ok (P : Program) (t : Nat) (ti : TI) : Prop where
  info : ∃ i z, P.info? t = some i ∧ i.size = ti.size ∧ i.bytes = ti.bytes ∧ i.zero = some z ∧ (∀ m ls, SV.rels m ls ti.zero z.cells.toList) ∧
    (∀ u, ti.ty = some u → ∀ m, u.rep m u.zero z.cells.toList) ∧ (ti.d.agg = true → ∃ cs, z = .agg cs) ∧ (ti.d.agg = false → z.cells = #[z])
  und : ∃ d, P.underlying t = some d ∧ (ti.d.agg = true ↔ (∃ fs, d = .struct fs) ∨ ∃ n e, d = .array n e) ∧ (match ti.d with
    | .int k => d = .int k
    | .bool => d = .bool
    | .str => d = .string
    | .slice e => d = .slice e
    | .ptr e => d = .pointer e
    | .struct fs => ∃ fields, d = .struct fields ∧ fs = fields.toList.map fun f => (f.offset, f.type)
    | .arr n e => d = .array n e
    | .map k e u => d = .map k e ∧ KeyOk P k u
    | .other => True)
  ty : ∀ u, ti.ty = some u → u.width = ti.size ∧ u.agg = ti.d.agg
  one : ti.d.agg = false → ti.size = 1
  zsize : ti.zero.length = ti.size
  eqs : ∀ fs u, ti.d = .struct fs → ti.ty = some u → u.plain = true → (∀ x y w, (Op.equal t (u.val x) (u.val y)).run P w = .ok (u.beq x y) w) ∧ P.eqGuardType P.depth t = false

theorem plain_flat : ∀ {u : Ty}, u.plain = true → u.flat = true
  | .int _, _ => rfl
  | .bool, _ => rfl
  | .unit, _ => rfl
  | .str, h => by simp [Ty.plain] at h
  | .slice _, h => by simp [Ty.plain] at h
  | .pair a b, h => by
    simp only [Ty.plain] at h
    cases ha : a.plain with
    | false => rw [ha] at h; cases h
    | true => rw [ha] at h; simp [Ty.flat, plain_flat ha, plain_flat h]

def TOk (P : Program) (T : TT) : Prop := ∀ t ti, T.find t = some ti → ti.ok P t

/-- What an operation that only reads hands back. -/
def RdSem (P : Program) (op : Op) (σ : Operand → SV) (cs : List Chunk) (v : SV) : Prop :=
  ∀ (bs : Base) (m : Mm) (ls : List Loc) (Bs : List (List Nat)) (w : World) (ρ : Operand → Value) (o : Oper), o.op = op → Mem bs m ls Bs cs w →
    (∀ x, (σ x).rel m ls (ρ x)) → (∀ v, ρ (.const v) = v) → ∃ v', v.rel m ls v' ∧ (execOp ρ o).run P w = .ok (.value v') w

theorem BC.br_eq {α : Type} (b : BC) (x y : α) : b.br x y = if b.val = true then x else y := by
  induction b generalizing x y with
  | tt => simp [BC.br, BC.val]
  | ff => simp [BC.br, BC.val]
  | lt a b => simp [BC.br, BC.val]
  | le a b => simp [BC.br, BC.val]
  | eq a b => simp [BC.br, BC.val]
  | bv z => cases z <;> rfl
  | not z ih => simp only [BC.br, BC.val, ih]; by_cases hz : z.val = true <;> simp [hz]

theorem SV.bc_rel {m : Mm} {ls : List Loc} {s : SV} {b : BC} {v : Value} (h : s.bc = some b) (r : s.rel m ls v) : v = .bool b.val := by
  cases s with
  | cb c => simp only [SV.bc, Option.some.injEq] at h; subst h; simpa only [SV.rel] using r
  | p t x =>
    cases t <;> simp [SV.bc] at h
    subst h
    simp only [SV.rel, Ty.agg, Bool.false_eq_true, if_false, Ty.rep] at r
    simp at r; simp [r, BC.val]
  | _ => simp [SV.bc] at h

theorem SV.int_rel {m : Mm} {ls : List Loc} {k : IntKind} {x : Int} {v : Value} (r : (SV.p (.int k) x).rel m ls v) : v = .int k x := by
  simp only [SV.rel, Ty.agg, Bool.false_eq_true, if_false, Ty.rep] at r
  simpa using r
theorem SV.str_rel {m : Mm} {ls : List Loc} {x : ByteArray} {v : Value} (r : (SV.p .str x).rel m ls v) : v = .string x := by
  simp only [SV.rel, Ty.agg, Bool.false_eq_true, if_false, Ty.rep] at r
  simpa using r
theorem SV.mk_int {m : Mm} {ls : List Loc} (k : IntKind) (x : Int) : (SV.p (.int k) x).rel m ls (.int k x) := by
  simp [SV.rel, Ty.agg, Ty.rep]
theorem SV.mk_bool {m : Mm} {ls : List Loc} (x : Bool) : (SV.p .bool x).rel m ls (.bool x) := by
  simp [SV.rel, Ty.agg, Ty.rep]
theorem SV.mk_str {m : Mm} {ls : List Loc} (x : ByteArray) : (SV.p .str x).rel m ls (.string x) := by
  simp [SV.rel, Ty.agg, Ty.rep]
theorem SV.mk_cb {m : Mm} {ls : List Loc} (b : BC) : (SV.cb b).rel m ls (.bool b.val) := by
  simp only [SV.rel]

theorem eqGuard_int {P : Program} (op : BinOp) (t : TypeId) (x y : Operand) (a b : Value) (ha : ∀ c, a ≠ .agg c) (hn : a ≠ .nilIface) (w : World) :
    (eqGuard op t x y a b).run P w = .ok () w := by
  unfold eqGuard
  cases op <;> simp <;> (cases a <;> simp_all)

theorem alive_some {v u : SV} (h : alive v some = some u) : v = u ∧ v ≠ .dead := by
  cases v <;> simp [alive, bad] at h <;> (subst h; simp)

theorem kindEq?_some {k l : IntKind} {p : PLift (k = l)} (h : kindEq? k l = some p) : k = l := p.down

section
variable {P : Program} {T : TT} {m : Mm} {ls : List Loc}

theorem kind_match {k k' : IntKind} {X : Option SV} {n : Nat} {v : SV} (h : (match kindEq? k k' with | some _ => X | none => bad n) = some v) : k = k' ∧ X = some v := by
  split at h
  · rename_i p _; exact ⟨p.down, h⟩
  · simp [bad] at h

theorem rd_int {op : BinOp} {k k' : IntKind} {a b : Int} {v : SV} (h : exInt op k k' a b some = some v) (t : TypeId) (w : World) :
    ∃ v', v.rel m ls v' ∧ (binOp op t (.int k a) (.int k' b)).run P w = .ok v' w := by
  have ite_some : ∀ {c : Prop} [Decidable c] {x : SV}, (if c then some x else none) = some v → c ∧ x = v := by
    intro c _ x hh; split at hh
    · exact ⟨by assumption, Option.some.inj hh⟩
    · cases hh
  have ite_some' : ∀ {c : Prop} [Decidable c] {x : SV}, (if c then none else some x) = some v → ¬ c ∧ x = v := by
    intro c _ x hh; split at hh
    · cases hh
    · exact ⟨by assumption, Option.some.inj hh⟩
  cases op <;> simp only [exInt] at h
  case shl =>
    obtain ⟨hb, rfl⟩ := ite_some h
    exact ⟨_, SV.mk_int _ _, by simp [binOp, Op.shift, show ¬ b < 0 by omega]⟩
  case shr =>
    obtain ⟨hb, rfl⟩ := ite_some h
    exact ⟨_, SV.mk_int _ _, by simp [binOp, Op.shift, show ¬ b < 0 by omega]⟩
  all_goals
    have h2 := kind_match h
    clear h
    obtain ⟨e, h⟩ := h2
    subst e
  case quo =>
    obtain ⟨hb, rfl⟩ := ite_some' h
    exact ⟨_, SV.mk_int _ _, by simp [binOp, Op.intDiv, hb]⟩
  case rem =>
    obtain ⟨hb, rfl⟩ := ite_some' h
    exact ⟨_, SV.mk_int _ _, by simp [binOp, Op.intDiv, hb]⟩
  all_goals
    simp only [cmp, arith, Option.some.injEq] at h
    subst h
  case add => exact ⟨_, SV.mk_int _ _, by simp [binOp, Op.intArith]⟩
  case sub => exact ⟨_, SV.mk_int _ _, by simp [binOp, Op.intArith]⟩
  case mul => exact ⟨_, SV.mk_int _ _, by simp [binOp, Op.intArith]⟩
  case and => exact ⟨_, SV.mk_int _ _, by simp [binOp, Op.intBits]⟩
  case or => exact ⟨_, SV.mk_int _ _, by simp [binOp, Op.intBits]⟩
  case xor => exact ⟨_, SV.mk_int _ _, by simp [binOp, Op.intBits]⟩
  case andNot => exact ⟨_, SV.mk_int _ _, by simp [binOp, Op.intBits]⟩
  case eql => exact ⟨_, SV.mk_cb _, by simp [binOp, Op.intCmp, BC.val]; rfl⟩
  case neq => exact ⟨_, SV.mk_cb _, by simp [binOp, Op.intCmp, BC.val]; rfl⟩
  case lss => exact ⟨_, SV.mk_cb _, by simp [binOp, Op.intCmp, BC.val]⟩
  case leq => exact ⟨_, SV.mk_cb _, by simp [binOp, Op.intCmp, BC.val]⟩
  case gtr => exact ⟨_, SV.mk_cb _, by simp [binOp, Op.intCmp, BC.val]⟩
  case geq => exact ⟨_, SV.mk_cb _, by simp [binOp, Op.intCmp, BC.val]⟩

theorem rd_str {op : BinOp} {a b : ByteArray} {v : SV} (h : exStr op a b some = some v) (t : TypeId) (w : World) :
    ∃ v', v.rel m ls v' ∧ (binOp op t (.string a) (.string b)).run P w = .ok v' w := by
  cases op <;> simp only [exStr, bad] at h <;> try (cases h; done)
  case add =>
    split at h
    · rename_i hlt
      cases h
      refine ⟨_, SV.mk_str _, ?_⟩
      have : ¬ (((a.size + b.size : Nat) : Int) > IntKind.i64.max) := by
        have : IntKind.i64.max = 9223372036854775807 := by decide
        omega
      simp only [binOp, Op.stringOp, this, if_false]; rfl
    · cases h
  case eql => cases h; exact ⟨_, SV.mk_bool _, by simp [binOp, Op.stringOp]⟩
  case neq => cases h; exact ⟨_, SV.mk_bool _, by simp [binOp, Op.stringOp]⟩
  case lss => cases h; exact ⟨_, SV.mk_bool _, by simp [binOp, Op.stringOp]⟩

theorem run_equal_bool {t : TypeId} (ht : P.underlying t = some .bool) (a b : Bool) (w : World) : (Op.equal t (.bool a) (.bool b)).run P w = .ok (a == b) w := by
  unfold Op.equal
  simp only [Op.maxDepth]
  unfold Op.equalIn
  simp [underlying, ht]

theorem rd_bool {op : BinOp} {a b : Bool} {v : SV} (h : exBool op a b some = some v) {t : TypeId} (ht : P.underlying t = some .bool) (w : World) :
    ∃ v', v.rel m ls v' ∧ (binOp op t (.bool a) (.bool b)).run P w = .ok v' w := by
  cases op <;> simp only [exBool, bad] at h <;> try (cases h; done)
  case eql => cases h; exact ⟨_, SV.mk_bool _, by simp [binOp, run_equal_bool ht]⟩
  case neq => cases h; exact ⟨_, SV.mk_bool _, by simp [binOp, run_equal_bool ht]⟩


theorem rd_bin {op : BinOp} {sx sy v : SV} {t : TypeId} {isB : Bool} (hB : isB = true → P.underlying t = some .bool) (h : exBin isB op sx sy some = some v) {a b : Value} (ha : sx.rel m ls a) (hb : sy.rel m ls b) (x y : Operand) (w : World) :
    ∃ v', v.rel m ls v' ∧ (do eqGuard op t x y a b; binOp op t a b : Sem Value).run P w = .ok v' w := by
  have guard : (∀ c, a ≠ .agg c) → a ≠ .nilIface → ∀ {v'}, (binOp op t a b).run P w = .ok v' w → (do eqGuard op t x y a b; binOp op t a b : Sem Value).run P w = .ok v' w := by
    intro h1 h2 v' h3
    simp [eqGuard_int op t x y a b h1 h2, h3]
  unfold exBin at h
  split at h
  · split at h
    · obtain rfl := SV.int_rel ha
      obtain rfl := SV.int_rel hb
      obtain ⟨v', h1, h2⟩ := rd_int (P := P) (m := m) (ls := ls) h t w
      exact ⟨v', h1, guard (by simp) (by simp) h2⟩
    · simp [bad] at h
  · split at h
    · obtain rfl := SV.str_rel ha
      obtain rfl := SV.str_rel hb
      obtain ⟨v', h1, h2⟩ := rd_str (P := P) (m := m) (ls := ls) h t w
      exact ⟨v', h1, guard (by simp) (by simp) h2⟩
    · simp [bad] at h
  · split at h
    · rename_i p q hp hq
      obtain rfl := SV.bc_rel hp ha
      obtain rfl := SV.bc_rel hq hb
      cases isB with
      | false => simp [bad] at h
      | true =>
        obtain ⟨v', h1, h2⟩ := rd_bool (P := P) (m := m) (ls := ls) h (hB rfl) w
        exact ⟨v', h1, guard (by simp) (by simp) h2⟩
    · simp [bad] at h

theorem rd_eqs {op : BinOp} {sx sy v : SV} {t : TypeId} {u : Ty} (ha : u.agg = true) (hf : u.flat = true) (he : ∀ x y w, (Op.equal t (u.val x) (u.val y)).run P w = .ok (u.beq x y) w)
    (hg : P.eqGuardType P.depth t = false) (h : exEqs u op sx sy some = some v) {a b : Value} (hx : sx.rel m ls a) (hy : sy.rel m ls b) (x y : Operand) (w : World) :
    ∃ v', v.rel m ls v' ∧ (do eqGuard op t x y a b; binOp op t a b : Sem Value).run P w = .ok v' w := by
  unfold exEqs at h
  split at h
  · rename_i ta xa tb yb
    split at h
    · rename_i p hp
      split at h
      · rename_i q hq
        obtain ⟨e1, e2⟩ := cast?_some hp
        obtain ⟨e3, e4⟩ := cast?_some hq
        subst e1; subst e3
        cases e2; cases e4
        have ea := rel_val hf hx
        have eb := rel_val hf hy
        have va : ∀ z : tb.den, tb.val z = .agg (tb.vals z).toArray := fun z => by unfold Ty.val; rw [if_pos ha]
        have g : (eqGuard op t x y a b).run P w = .ok () w := by
          rw [ea, eb, va, va]
          unfold eqGuard
          cases op <;> simp [hg]
        have e := he xa yb w
        split at h
        · cases h
          refine ⟨_, SV.mk_bool _, ?_⟩
          simp only [Sem.run_bind, g, Result.andThen_ok]
          rw [ea, eb]
          simp only [va] at e ⊢
          simp [binOp, Sem.run_bind, e]
        · cases h
          refine ⟨_, SV.mk_bool _, ?_⟩
          simp only [Sem.run_bind, g, Result.andThen_ok]
          rw [ea, eb]
          simp only [va] at e ⊢
          simp [binOp, Sem.run_bind, e]
        · simp [bad] at h
      · simp [bad] at h
    · simp [bad] at h
  · simp [bad] at h

/-- What is read as data of a chunk is frozen. -/
def Reads (m : Mm) (ls : List Loc) (cs : List Chunk) (z : List Nat) : Prop :=
  (∀ (c : Nat) (l : Loc) (t : Ty) (L : List t.den), ls[c]? = some l → ((cs[c]? = some (.own t L) ∧ c ∈ z) ∨ cs[c]? = some (.froz t L)) →
    l.w = t.width ∧ (Ty.slice t).rep m L [.slice l.A l.len l.cap]) ∧
  ∀ (c : Nat) (l : Loc) cells ty, ls[c]? = some l → cs[c]? = some (.box cells ty) → c ∈ z →
    ∃ b us, l.A = some ⟨b, 0, none⟩ ∧ SV.rels m ls cells us ∧ ∀ j, j < us.length → m b j = us[j]?

theorem Reads.mono {m : Mm} {ls : List Loc} {cs : List Chunk} {z z' : List Nat} (h : Reads m ls cs z) (hz : ∀ c ∈ z', c ∈ z) : Reads m ls cs z' :=
  ⟨fun c l t L h1 h2 => h.1 c l t L h1 (h2.imp (fun x => ⟨x.1, hz c x.2⟩) id), fun c l cells ty h1 h2 h3 => h.2 c l cells ty h1 h2 (hz c h3)⟩

theorem reads_no (m : Mm) (ls : List Loc) (z : List Nat) : Reads m ls [] z := ⟨fun c l t L _ h => by simp at h, fun c l cells ty _ h => by simp at h⟩

theorem Mem.reads_nil {bs : Base} {Bs : List (List Nat)} {cs : List Chunk} {w : World} (M : Mem bs m ls Bs cs w) : Reads m ls cs [] := by
  refine ⟨fun c l t L h1 h2 => ?_, fun c l cells ty _ _ h => by simp at h⟩
  rcases h2 with ⟨_, h⟩ | h
  · simp at h
  · obtain ⟨l', B, h3, h4, h5⟩ := M.at h
    rw [h1] at h3; cases h3
    simp only [Chunk.holds] at h5; exact h5.2

theorem Addr_add_add (ad : Addr) (a b : Nat) : (ad.add a).add b = ad.add (a + b) := by
  unfold Addr.add
  by_cases ha : a = 0
  · subst ha; simp
  · by_cases hb : b = 0
    · subst hb; simp
    · simp [ha, hb, Nat.add_assoc]

theorem rep_part0 {m : Mm} {u : Ty} {L : List u.den} {A A' : Option Addr} {len c c' w lo n : Nat} (h : (Ty.slice u).rep m L [.slice A len c]) (h1 : lo + n ≤ len) (hA : 0 < n → A' = A.map (·.add (lo * w))) (hw : w = u.width) (hc' : n ≤ c') :
    (Ty.slice u).rep m (List.take n (List.drop lo L)) [.slice A' n c'] := by
  simp only [Ty.rep] at h ⊢
  obtain ⟨A1, c1, he, hc, hall⟩ := h
  simp only [List.cons.injEq, Value.slice.injEq, and_true] at he
  obtain ⟨rfl, rfl, rfl⟩ := he
  have hlen : (List.take n (List.drop lo L)).length = n := by simp; omega
  refine ⟨A', c', by rw [hlen], by rw [hlen]; exact hc', fun hne => ?_⟩
  rw [hlen] at hne
  obtain ⟨b, o, rfl, hq⟩ := hall (by omega)
  have hA := hA (by omega)
  rw [hw] at hA
  refine ⟨b, o + lo * u.width, ?_, fun i hi' => ?_⟩
  · rw [hA]; simp [Addr.add]
  · rw [hlen] at hi'
    obtain ⟨us, r1, r2⟩ := hq (lo + i) (by omega)
    refine ⟨us, ?_, fun j hj => ?_⟩
    · have : List.get (List.take n (List.drop lo L)) ⟨i, by rw [hlen]; exact hi'⟩ = List.get L ⟨lo + i, by omega⟩ := by simp
      rw [this]; exact r1
    · have := r2 j hj
      rw [← this]
      congr 1
      rw [Nat.add_mul]; omega

/-- A part of a row that can be read. -/
theorem rep_part {m : Mm} {u : Ty} {L : List u.den} {A A' : Option Addr} {len c w lo n : Nat} (h : (Ty.slice u).rep m L [.slice A len c]) (h1 : lo + n ≤ len) (hA : lo < c → A' = A.map (·.add (lo * w))) (hw : w = u.width) :
    (Ty.slice u).rep m (List.take n (List.drop lo L)) [.slice A' n (c - lo)] := by
  have h' := h
  simp only [Ty.rep] at h'
  obtain ⟨A1, c1, he, hc, _⟩ := h'
  simp only [List.cons.injEq, Value.slice.injEq, and_true] at he
  obtain ⟨rfl, rfl, rfl⟩ := he
  exact rep_part0 h h1 (fun hn => hA (by omega)) hw (by omega)

theorem atom_rel {cs : List Chunk} {strict : Bool} {u : Ty} {s : SV} {x : u.den} {z : List Nat} {v : Value} (hu : u.agg = false)
    (h : s.atom cs strict u = some (x, z)) (R : Reads m ls cs z) (r : s.rel m ls v) : u.rep m x [v] := by
  cases s with
  | p t y =>
    simp only [SV.atom] at h
    split at h
    · rename_i y' hy
      cases h
      obtain ⟨e, rfl⟩ := cast?_some hy
      subst e
      simp only [SV.rel, hu, Bool.false_eq_true, if_false] at r
      exact r
    · cases h
  | cb b =>
    simp only [SV.atom] at h
    cases u <;> simp at h
    obtain ⟨rfl, rfl⟩ := h
    simp only [SV.rel] at r; subst r; simp [Ty.rep]
  | nils =>
    simp only [SV.atom] at h
    cases strict <;> simp at h
    cases u <;> simp at h
    obtain ⟨rfl, rfl⟩ := h
    simp only [SV.rel] at r; subst r
    simp only [Ty.rep]
    exact ⟨none, 0, by simp, by simp, by simp⟩
  | own c =>
    simp only [SV.atom, nth_eq] at h
    cases strict <;> simp at h
    simp only [SV.rel] at r
    obtain ⟨l, hl, rfl⟩ := r
    split at h
    · rename_i t L hc
      split at h
      · rename_i y hy
        cases h
        obtain ⟨e, rfl⟩ := cast?_some hy
        subst e
        exact (R.1 c l t L hl (.inl ⟨hc, by simp⟩)).2
      · cases h
    · rename_i t L hc
      split at h
      · rename_i y hy
        cases h
        obtain ⟨e, rfl⟩ := cast?_some hy
        subst e
        exact (R.1 c l t L hl (.inr hc)).2
      · cases h
    · cases h
  | sub c lo n =>
    simp only [SV.atom, nth_eq] at h
    cases strict <;> simp at h
    simp only [SV.rel] at r
    obtain ⟨l, A, hl, hlo, rfl, hA⟩ := r
    split at h
    · rename_i t L hc
      split at h
      · rename_i y hy
        cases h
        obtain ⟨e, rfl⟩ := cast?_some hy
        subst e
        have hr := R.1 c l t L hl (.inl ⟨hc, by simp⟩)
        exact rep_part hr.2 hlo hA hr.1
      · cases h
    · rename_i t L hc
      split at h
      · rename_i y hy
        cases h
        obtain ⟨e, rfl⟩ := cast?_some hy
        subst e
        have hr := R.1 c l t L hl (.inr hc)
        exact rep_part hr.2 hlo hA hr.1
      · cases h
    · cases h
  | pf t L =>
    simp only [SV.atom] at h
    simp only [SV.rel] at r
    obtain ⟨A, rfl, hr⟩ := r
    split at h
    · rename_i y hy
      cases h
      obtain ⟨e, rfl⟩ := cast?_some hy
      subst e
      exact hr
    · cases h
  | _ => simp [SV.atom] at h

theorem take_rel {cs : List Chunk} {strict : Bool} : ∀ {t : Ty} {l l' : List SV} {x : t.den} {z : List Nat} {vs : List Value}, t.take cs strict l = some (x, l', z) → Reads m ls cs z →
    SV.rels m ls l vs → ∃ us ws, vs = us ++ ws ∧ t.rep m x us ∧ SV.rels m ls l' ws
  | .pair a b, l, l', x, z, vs, h, R, r => by
    simp only [Ty.take] at h
    split at h
    · rename_i x1 l1 z1 h1
      split at h
      · rename_i y l2 z2 h2
        cases h
        simp only [app_eq] at R
        obtain ⟨us, ws, rfl, h3, h4⟩ := take_rel h1 (R.mono (by simp; exact fun c hc => .inl hc)) r
        obtain ⟨us', ws', rfl, h5, h6⟩ := take_rel h2 (R.mono (by simp; exact fun c hc => .inr hc)) h4
        exact ⟨us ++ us', ws', by simp, by simp only [Ty.rep]; exact ⟨us, us', rfl, h3, h5⟩, h6⟩
      · cases h
    · cases h
  | .unit, l, l', x, z, vs, h, R, r => by
    simp only [Ty.take, Option.some.injEq, Prod.mk.injEq] at h
    obtain ⟨_, rfl, rfl⟩ := h
    exact ⟨[], vs, rfl, by simp only [Ty.rep], r⟩
  | .int k, l, l', x, z, vs, h, R, r => take1 rfl (by simp [Ty.take]) (by intro v l h; simp [Ty.take, h]) (by intro v l x z h; simp [Ty.take, h]) h R r
  | .bool, l, l', x, z, vs, h, R, r => take1 rfl (by simp [Ty.take]) (by intro v l h; simp [Ty.take, h]) (by intro v l x z h; simp [Ty.take, h]) h R r
  | .str, l, l', x, z, vs, h, R, r => take1 rfl (by simp [Ty.take]) (by intro v l h; simp [Ty.take, h]) (by intro v l x z h; simp [Ty.take, h]) h R r
  | .slice t, l, l', x, z, vs, h, R, r => take1 rfl (by simp [Ty.take]) (by intro v l h; simp [Ty.take, h]) (by intro v l x z h; simp [Ty.take, h]) h R r
where
  take1 {cs : List Chunk} {strict : Bool} {t : Ty} {l l' : List SV} {x : t.den} {z : List Nat} {vs : List Value} (ha : t.agg = false)
      (h0 : t.take cs strict [] = none) (h1 : ∀ (v : SV) (l : List SV), v.atom cs strict t = none → t.take cs strict (v :: l) = none)
      (h2 : ∀ (v : SV) (l : List SV) x z, v.atom cs strict t = some (x, z) → t.take cs strict (v :: l) = some (x, l, z))
      (h : t.take cs strict l = some (x, l', z)) (R : Reads m ls cs z) (r : SV.rels m ls l vs) : ∃ us ws, vs = us ++ ws ∧ t.rep m x us ∧ SV.rels m ls l' ws := by
    cases l with
    | nil => rw [h0] at h; cases h
    | cons v l =>
      simp only [SV.rels] at r
      obtain ⟨v', us, rfl, r1, r2⟩ := r
      cases hx : v.atom cs strict t with
      | none => rw [h1 v l hx] at h; cases h
      | some y =>
        obtain ⟨y, z'⟩ := y
        rw [h2 v l y z' hx] at h
        simp only [Option.some.injEq, Prod.mk.injEq] at h
        obtain ⟨rfl, rfl, rfl⟩ := h
        exact ⟨[v'], us, rfl, atom_rel ha hx R r1, r2⟩

/-- A value as one value. -/
def valOf (agg : Bool) (vs : List Value) : Value := if agg = true then .agg vs.toArray else vs.headD undef

theorem beq_nat {a b : Nat} (h : Nat.beq a b = true) : a = b := Nat.eq_of_beq_eq_true h

theorem loaded_rel {t : Nat} {ti : TI} (hti : ti.ok P t) {cells : List SV} {vs : List Value} (hr : SV.rels m ls cells vs) (hd : loaded ti cells ≠ .dead) :
    (loaded ti cells).rel m ls (valOf ti.d.agg vs) ∧ vs.length = ti.size := by
  unfold loaded at hd ⊢
  cases hb : Nat.beq (lenL cells) ti.size with
  | false => rw [hb] at hd; simp at hd
  | true =>
    rw [hb] at hd
    have hlen : vs.length = ti.size := by rw [SV.rels_length hr, ← lenL_eq]; exact beq_nat hb
    refine ⟨?_, hlen⟩
    simp only [cond_true] at hd ⊢
    cases ha : ti.d.agg with
    | true =>
      simp only [cond_true, valOf, if_true]
      split
      · rename_i u hu
        split
        · rename_i x z hx
          obtain ⟨us, ws, rfl, h3, h4⟩ := take_rel (m := m) (ls := ls) hx (reads_no m ls z) hr
          simp only [SV.rels] at h4
          subst h4
          simp only [SV.rel, (hti.ty u hu).2, ha, if_true]
          exact ⟨_, rfl, by simpa using h3⟩
        · simp only [SV.rel]; exact ⟨_, rfl, by simpa using hr⟩
      · simp only [SV.rel]; exact ⟨_, rfl, by simpa using hr⟩
    | false =>
      rw [ha] at hd
      simp only [cond_false, valOf, Bool.false_eq_true, if_false] at hd ⊢
      split
      · rename_i v
        simp only [SV.rels] at hr
        obtain ⟨v', us, rfl, h1, rfl⟩ := hr
        simpa using h1
      · simp at hd

theorem Addr.add_none (b o n : Nat) : (⟨b, o, none⟩ : Addr).add n = ⟨b, o + n, none⟩ := by
  unfold Addr.add; split
  · rename_i h; subst h; rfl
  · rfl

theorem run_isAgg {t : Nat} {ti : TI} (hti : ti.ok P t) (w : World) : (isAgg t).run P w = .ok ti.d.agg w := by
  obtain ⟨d, hd, ha, _⟩ := hti.und
  unfold isAgg
  simp only [Sem.run_bind, run_underlying hd, Result.andThen_ok]
  cases hx : ti.d.agg with
  | true =>
    rcases ha.1 hx with ⟨fs, rfl⟩ | ⟨n, e, rfl⟩ <;> rfl
  | false =>
    have : ¬ ((∃ fs, d = .struct fs) ∨ ∃ n e, d = .array n e) := fun h => by rw [ha.2 h] at hx; cases hx
    cases d <;> first | rfl | (exact absurd (.inl ⟨_, rfl⟩) this) | (exact absurd (.inr ⟨_, _, rfl⟩) this)

theorem run_sizeOf {t : Nat} {ti : TI} (hti : ti.ok P t) (w : World) : (Go.sizeOf t).run P w = .ok ti.size w := by
  obtain ⟨i, z, hi, hs, _⟩ := hti.info
  simp [Go.sizeOf, typeInfo, hi, hs]

/-- A variable is loaded. -/
theorem run_loadVar {t : Nat} {ti : TI} (hti : ti.ok P t) {b o : Nat} {vs : List Value} (hl : vs.length = ti.size) {w : World}
    (hc : ∀ j, j < ti.size → w.cell? ⟨b, o + j, none⟩ = vs[j]?) : (loadVar t ⟨b, o, none⟩).run P w = .ok (valOf ti.d.agg vs) w := by
  unfold loadVar
  simp only [Sem.run_bind, run_isAgg hti, Result.andThen_ok]
  cases ha : ti.d.agg with
  | true =>
    have := run_loadCells_list (P := P) w ⟨b, o, none⟩ vs (fun j v hv => by
      have hj : j < vs.length := by
        rcases Nat.lt_or_ge j vs.length with h | h
        · exact h
        · rw [List.getElem?_eq_none h] at hv; cases hv
      rw [Addr.add_none, hc j (by omega), hv])
    simp only [if_true, Sem.run_bind, run_sizeOf hti, Result.andThen_ok, ← hl, this, Sem.run_pure, valOf]
  | false =>
    have h1 := hti.one ha
    have := hc 0 (by omega)
    cases vs with
    | nil => simp at hl; omega
    | cons v vs => simp only [Nat.add_zero, List.getElem?_cons_zero] at this; simp [this, valOf]

theorem proj_rel : ∀ {u : Ty} {x : u.den} {off : Nat} {t : Ty} {y : t.den} {us : List Value}, u.proj x off t = some y → u.rep m x us →
    t.rep m y ((us.drop off).take t.width) ∧ off + t.width ≤ u.width
  | .pair a b, x, off, t, y, us, h, r => by
    simp only [Ty.proj] at h
    have hl := Ty.rep_length r
    split at h
    · rename_i y' hy
      cases h
      cases hb : Nat.beq off 0 with
      | false => rw [hb] at hy; simp at hy
      | true =>
        rw [hb] at hy
        obtain ⟨e, rfl⟩ := cast?_some hy
        subst e
        have := beq_nat hb; subst this
        simp only [List.drop_zero, Nat.zero_add, Nat.le_refl, and_true]
        rw [List.take_of_length_le (by omega)]; exact r
    · have r' := r
      simp only [Ty.rep] at r'
      obtain ⟨us1, us2, rfl, r1, r2⟩ := r'
      have l1 := Ty.rep_length r1
      have l2 := Ty.rep_length r2
      cases hb : Nat.blt off a.width with
      | true =>
        rw [hb] at h
        obtain ⟨h1, h2⟩ := proj_rel h r1
        refine ⟨?_, by simp [Ty.width]; omega⟩
        rw [List.drop_append_of_le_length (by omega), List.take_append_of_le_length (by simp; omega)]
        exact h1
      | false =>
        rw [hb] at h
        have hge : a.width ≤ off := by
          rcases Nat.lt_or_ge off a.width with h' | h'
          · have : Nat.blt off a.width = true := by simp [Nat.blt]; omega
            rw [this] at hb; cases hb
          · exact h'
        obtain ⟨h1, h2⟩ := proj_rel h r2
        refine ⟨?_, by simp [Ty.width]; omega⟩
        rw [List.drop_append, List.drop_of_length_le (by omega), List.nil_append, l1]
        exact h1
  | .int k, x, off, t, y, us, h, r => proj1 (by simp [Ty.proj]) h r
  | .bool, x, off, t, y, us, h, r => proj1 (by simp [Ty.proj]) h r
  | .str, x, off, t, y, us, h, r => proj1 (by simp [Ty.proj]) h r
  | .slice t, x, off, t', y, us, h, r => proj1 (by simp [Ty.proj]) h r
  | .unit, x, off, t, y, us, h, r => proj1 (by simp [Ty.proj]) h r
where
  proj1 {u : Ty} {x : u.den} {off : Nat} {t : Ty} {y : t.den} {us : List Value} (he : u.proj x off t = bif Nat.beq off 0 then cast? u t x else none)
      (h : u.proj x off t = some y) (r : u.rep m x us) : t.rep m y ((us.drop off).take t.width) ∧ off + t.width ≤ u.width := by
    rw [he] at h
    cases hb : Nat.beq off 0 with
    | false => rw [hb] at h; simp at h
    | true =>
      rw [hb] at h
      obtain ⟨e, rfl⟩ := cast?_some h
      subst e
      have := beq_nat hb; subst this
      simp only [List.drop_zero, Nat.zero_add, Nat.le_refl, and_true]
      rw [List.take_of_length_le (by rw [Ty.rep_length r]; exact Nat.le_refl _)]; exact r

theorem run_fieldsSizes (hT : TOk P T) (w : World) : ∀ (fields : List Field), knownAll T (fields.map fun f => (f.offset, f.type)) = true →
    (fields.mapM fun f => (Prod.mk f.offset <$> Go.sizeOf f.type : Sem (Nat × Nat))).run P w = .ok (fields.map fun f => (f.offset, match T.find f.type with | some ti => ti.size | none => 0)) w
  | [], _ => by simp
  | f :: fs, h => by
    simp only [knownAll, List.map_cons, allL] at h
    cases ht : T.find f.type with
    | none => rw [ht] at h; simp at h
    | some ti =>
      rw [ht] at h
      have h1 := run_fieldsSizes hT w fs (by simpa [knownAll] using h)
      simp only [List.mapM_cons, Sem.run_bind, Sem.run_map, run_sizeOf (hT _ _ ht), Result.andThen_ok, h1, Sem.run_pure, List.map_cons, ht]

/-- Cells put in a row's place. -/
theorem foldl_put (cs : Array Value) (off : Nat) : ∀ (vs : List Value) (k : Nat) (cs : Array Value), off + k + vs.length ≤ cs.size →
    ((vs.zipIdx k).foldl (fun cs (x : Value × Nat) => cs.setIfInBounds (off + x.2) x.1) cs).toList = cs.toList.take (off + k) ++ vs ++ cs.toList.drop (off + k + vs.length)
  | [], k, cs, h => by simp
  | v :: vs, k, cs, h => by
    simp only [List.zipIdx_cons, List.foldl_cons]
    rw [foldl_put cs off vs (k + 1) _ (by simp at h ⊢; omega)]
    simp only [List.length_cons] at h
    have hk : off + k < cs.toList.length := by simp; omega
    apply List.ext_getElem?
    intro i
    simp only [Array.toList_setIfInBounds, List.length_cons]
    rcases Nat.lt_trichotomy i (off + k) with hi | hi | hi
    · simp only [List.getElem?_append, List.length_take, List.length_set, List.length_append]
      rw [if_pos (by omega), if_pos (by omega), if_pos (by omega), if_pos (by simp; omega)]
      rw [List.getElem?_take, List.getElem?_take, if_pos (by omega), if_pos hi, List.getElem?_set_ne (by omega)]
    · subst hi
      simp only [List.getElem?_append, List.length_take, List.length_set, List.length_append]
      rw [if_pos (by omega), if_pos (by omega), if_pos (by simp; omega), if_neg (by omega)]
      rw [List.getElem?_take, if_pos (by omega), List.getElem?_set_self hk]
      have : off + k - min (off + k) cs.toList.length = 0 := by omega
      rw [this]; rfl
    · by_cases hj : i < off + k + 1 + vs.length
      · simp only [List.getElem?_append, List.length_take, List.length_set, List.length_append]
        rw [if_pos (by omega), if_neg (by omega), if_pos (by simp; omega), if_neg (by omega)]
        have e1 : i - min (off + (k + 1)) cs.toList.length = i - (off + k) - 1 := by omega
        have e2 : i - min (off + k) cs.toList.length = i - (off + k) := by omega
        rw [e1, e2]
        obtain ⟨d, rfl⟩ : ∃ d, i = off + k + d + 1 := ⟨i - (off + k) - 1, by omega⟩
        have e3 : off + k + d + 1 - (off + k) - 1 = d := by omega
        have e4 : off + k + d + 1 - (off + k) = d + 1 := by omega
        rw [e3, e4]; rfl
      · simp only [List.getElem?_append, List.length_take, List.length_set, List.length_append]
        rw [if_neg (by omega), if_neg (by simp; omega)]
        simp only [List.getElem?_drop]
        rw [List.getElem?_set_ne (by omega)]
        congr 1
        simp
        omega

theorem fieldAt_some (hT : TOk P T) {s f off ft : Nat} (hf : fieldAt T s f = some (off, ft)) :
    ∃ fields fl, P.underlying s = some (.struct fields) ∧ fields[f]? = some fl ∧ fl.offset = off ∧ fl.type = ft := by
  unfold fieldAt at hf
  split at hf
  · rename_i ti ht
    split at hf
    · rename_i fs hfs
      obtain ⟨d, h1, _, h3⟩ := (hT _ _ ht).und
      rw [hfs] at h3
      obtain ⟨fields, rfl, rfl⟩ := h3
      rw [nth_eq] at hf
      simp only [List.getElem?_map] at hf
      cases hq : fields.toList[f]? with
      | none => rw [hq] at hf; simp at hf
      | some fl =>
        rw [hq] at hf
        simp at hf
        exact ⟨fields, fl, h1, by simpa using hq, hf.1, hf.2⟩
    · cases hf
  · cases hf

theorem putCells_rel {cells new : List SV} {off : Nat} {cs us : List Value} (h : SV.rels m ls cells cs) (k : SV.rels m ls new us) (hl : off + us.length ≤ cs.length) :
    SV.rels m ls (putCells cells new off) (cs.take off ++ us ++ cs.drop (off + us.length)) := by
  unfold putCells
  simp only [app_eq, takeL_eq, dropL_eq, lenL_eq, List.append_assoc]
  have := SV.rels_length k
  rw [← this]
  exact SV.rels_app (SV.rels_take _ h) (SV.rels_app k (SV.rels_drop _ h))

theorem SV.solid_cells {s : SV} (h : s.solid = true) : s.one = true ∨ (∃ t x, s = .p t x) ∨ ∃ l, s = .agg l := by
  cases s <;> simp_all [SV.solid, SV.one]

theorem arrFs_some (e c : Nat) : ∀ (n o i : Nat) x, (arrFs e c n o)[i]? = some x → x = (o + i * c, e)
  | 0, _, _, _, h => by simp [arrFs] at h
  | n + 1, o, 0, x, h => by simp [arrFs] at h; simp [h]
  | n + 1, o, i + 1, x, h => by
    simp only [arrFs, List.getElem?_cons_succ] at h
    rw [arrFs_some e c n (o + c) i x h, Nat.add_mul]
    congr 1; omega

theorem build_fill (hT : TOk P T) {σ : Operand → SV} {ρ : Operand → Value} (hσ : ∀ x, (σ x).rel m ls (ρ x)) {fs : List (Nat × Nat)} {place : Nat → Option (Nat × Nat)} (hpl : ∀ (i : Nat) off ft ti, fs[i]? = some (off, ft) → T.find ft = some ti → place i = some (off, ti.size)) :
    ∀ (parts : List (Nat × Operand)) (cells out : List SV) (cs : Array Value), buildCells T σ fs parts cells = some out → SV.rels m ls cells cs.toList →
      ∃ cs', Instr.fill place cs (parts.map fun x => (x.1, ρ x.2)) = some cs' ∧ SV.rels m ls out cs'.toList ∧ cs'.size = cs.size
  | [], cells, out, cs, h, r => by
    simp only [buildCells, Option.some.injEq] at h
    subst h
    exact ⟨cs, by simp [Instr.fill], r, rfl⟩
  | (i, o) :: ps, cells, out, cs, h, r => by
    simp only [buildCells, nth_eq] at h
    cases hf : fs[i]? with
    | none => rw [hf] at h; simp at h
    | some f =>
      obtain ⟨foff, ft⟩ := f
      rw [hf] at h
      simp only at h
      cases ht : T.find ft with
      | none => rw [ht] at h; simp at h
      | some ti =>
        rw [ht] at h
        simp only at h
        cases hs : (σ o).solid with
        | false => rw [hs] at h; simp at h
        | true =>
          rw [hs] at h
          cases hb : Nat.beq (lenL (σ o).cells) ti.size with
          | false => rw [hb] at h; simp at h
          | true =>
            rw [hb] at h
            cases hle : Nat.ble (foff + lenL (σ o).cells) (lenL cells) with
            | false => rw [hle] at h; simp at h
            | true =>
              rw [hle] at h
              simp only [cond_true] at h
              have h1 := beq_nat hb
              have h2 := Nat.le_of_ble_eq_true hle
              have hr := SV.cells_rel (hσ o) (SV.solid_cells hs)
              have hl := SV.rels_length hr
              have hl2 := SV.rels_length r
              simp only [lenL_eq] at h1 h2
              have hsz : (ρ o).cells.size = ti.size := by rw [← Array.length_toList, hl, h1]
              have hroom : foff + 0 + (ρ o).cells.toList.length ≤ cs.size := by
                have : cs.size = cells.length := by rw [← Array.length_toList, hl2]
                omega
              have hput := foldl_put cs foff (ρ o).cells.toList 0 cs hroom
              simp only [Nat.add_zero] at hput
              have hrel := putCells_rel (off := foff) r hr (by simp; simp at hroom; omega)
              obtain ⟨cs', e1, e2, e3⟩ := build_fill hT hσ hpl ps _ out _ h (by rw [← hput] at hrel; exact hrel)
              refine ⟨cs', ?_, e2, ?_⟩
              · simp only [List.map_cons, Instr.fill]
                rw [hpl i foff ft ti hf ht]
                simp only [hsz, ne_eq, not_true_eq_false, false_or]
                rw [if_neg (by simp at hroom; rw [hsz] at hroom; simp; omega)]
                rw [← e1]
                congr 1
                rw [← Array.foldl_toList]
                congr 1
                simp
              · rw [e3]
                have : ∀ (l : List (Value × Nat)) (c : Array Value), (l.foldl (fun cs (x : Value × Nat) => cs.setIfInBounds (foff + x.2) x.1) c).size = c.size := by
                  intro l; induction l with
                  | nil => intro c; rfl
                  | cons a l ih => intro c; simp [ih]
                exact this _ _

theorem rel_valOf_cells {ti : TI} {t : Nat} (hti : ti.ok P t) {z : Value} (h1 : ti.d.agg = true → ∃ cs, z = .agg cs) (h2 : ti.d.agg = false → z.cells = #[z]) : z = valOf ti.d.agg z.cells.toList := by
  unfold valOf
  cases h : ti.d.agg with
  | true => obtain ⟨cs, rfl⟩ := h1 h; simp [Value.cells]
  | false => rw [h2 h]; simp

theorem map_two {α β : Type} {f : α → β} {l : List α} {u v : β} (h : l.map f = [u, v]) : ∃ x y, l = [x, y] ∧ f x = u ∧ f y = v := by
  cases l with
  | nil => simp at h
  | cons a l => cases l with
    | nil => simp at h
    | cons b l => cases l with
      | nil => simp at h; exact ⟨a, b, rfl, h.1, h.2⟩
      | cons c l => simp at h

/-- All that stands in memory. -/
def cellsOf (w : World) : Mm := fun b o => w.cell? ⟨b, o, none⟩

theorem add_plain (b o n : Nat) : Addr.add ⟨b, o, none⟩ n = ⟨b, o + n, none⟩ := by
  unfold Addr.add
  by_cases h : n = 0
  · subst h; simp
  · simp [h]

theorem own_reads {m : Mm} {ls : List Loc} {w : World} {l : Loc} {B : List Nat} {t : Ty} {L : List t.den} (h : (Chunk.own t L).holds m ls w l B)
    (m' : Mm) (hm : ∀ b o v, m b o = some v → m' b o = some v) (hB : ∀ b ∈ B, ∀ o v, w.cell? ⟨b, o, none⟩ = some v → m' b o = some v) : (Ty.slice t).rep m' L [.slice l.A l.len l.cap] := by
  simp only [Chunk.holds] at h
  obtain ⟨h0, h1, h2, h3, h⟩ := h
  simp only [Ty.rep]
  refine ⟨l.A, l.cap, by rw [h2], h3, fun hne => ?_⟩
  rcases h with ⟨hc, _⟩ | ⟨g, o, cs, e, hA, rfl, hheap, hroom, hall⟩
  · exact absurd hne (by omega)
  · refine ⟨g, o, hA, fun i hi => ?_⟩
    obtain ⟨us, r1, r2⟩ := hall i hi
    refine ⟨us, Ty.rep_mono hm r1, fun j hj => ?_⟩
    have hl := Ty.rep_length r1
    have hlt : j < us.length := by omega
    rw [← r2 j hj]
    have hx := r2 j hj
    rw [List.getElem?_eq_getElem hlt] at hx
    rw [hx]
    exact hB g (by simp) _ _ (by simp only [World.cell?, hheap]; simpa using hx)

theorem conv_bytes {P : Program} (w : World) {src dst e : TypeId} (hs : P.underlying src = some (.slice e)) (he : P.underlying e = some (.int .u8)) (hd : P.underlying dst = some .string)
    {m : Mm} (hm : ∀ b o v, m b o = some v → w.cell? ⟨b, o, none⟩ = some v) {L : List Int} {A : Option Addr} {c : Nat} (h : (Ty.slice (.int .u8)).rep m L [.slice A L.length c]) :
    (convert src dst (.slice A L.length c)).run P w = .ok (.string (strOf L)) w := by
  rw [run_convert_bytes_string w src dst e A L.length c hs he hd]
  simp only [Ty.rep] at h
  obtain ⟨A', c', he', hc, hall⟩ := h
  simp only [List.cons.injEq, Value.slice.injEq, and_true, true_and] at he'
  obtain ⟨rfl, rfl⟩ := he'
  cases A with
  | none =>
    have : L = [] := by
      rcases Nat.eq_zero_or_pos L.length with h0 | h0
      · exact List.eq_nil_of_length_eq_zero h0
      · obtain ⟨b, o, hA, _⟩ := hall (by show L.length ≠ 0; omega)
        cases hA
    subst this
    simp [Conv.bytesToString, strOf]
  | some ad =>
    have hl := run_loadCells_list (P := P) w ad (L.map (Value.int .u8)) (fun j v hj => by
      have hj' : j < L.length := by
        have := (List.getElem?_eq_some_iff.1 hj).1
        simpa using this
      obtain ⟨b, o, hA, hq⟩ := hall (by show L.length ≠ 0; omega)
      cases hA
      obtain ⟨us, r1, r2⟩ := hq j hj'
      have h0 := r2 0 (by simp [Ty.width])
      rw [add_plain]
      have r1' : us = [.int .u8 L[j]] := r1
      rw [r1'] at h0
      simp only [Ty.width, Nat.mul_one, Nat.add_zero, List.getElem?_cons_zero] at h0
      rw [hm _ _ _ h0]
      simp [List.getElem?_eq_getElem hj'] at hj
      rw [← hj])
    simp only [List.length_map] at hl
    rw [run_bytesToString w ad L.length c _ hl]
    rfl

/-- A slice's elements, in memory. -/
theorem flat_says {bs : Base} {m : Mm} {ls : List Loc} {Bs : List (List Nat)} {cs : List Chunk} {w : World} (M : Mem bs m ls Bs cs w) {u : Ty} {s : SV} {L : List u.den} (h : flatOf cs u s = some L) {x : Value} (hx : s.rel m ls x) :
    ∃ A c, x = .slice A L.length c ∧ (Ty.slice u).rep (cellsOf w) L [.slice A L.length c] := by
  have hm : ∀ b o v, m b o = some v → cellsOf w b o = some v := fun b o v h => M.mle b o v h
  have fin : ∀ {x : Value}, (Ty.slice u).rep (cellsOf w) L [x] → ∃ A c, x = .slice A L.length c ∧ (Ty.slice u).rep (cellsOf w) L [.slice A L.length c] := by
    intro x hx
    have h2 := hx
    simp only [Ty.rep] at h2
    obtain ⟨A, c, e, _⟩ := h2
    simp only [List.cons.injEq, and_true] at e
    subst e
    exact ⟨A, c, rfl, hx⟩
  have chunk : ∀ {c : Nat} {l : Loc} {t : Ty} {L' : List t.den}, ls[c]? = some l → (cs[c]? = some (.own t L') ∨ cs[c]? = some (.froz t L')) → l.w = t.width ∧ (Ty.slice t).rep (cellsOf w) L' [.slice l.A l.len l.cap] := by
    intro c l t L' hl hc
    rcases hc with hc | hc
    · obtain ⟨l', B, h1, h2, h3⟩ := M.at hc
      rw [hl] at h1; cases h1
      refine ⟨?_, own_reads h3 (cellsOf w) hm (fun _ _ _ _ h => h)⟩
      simp only [Chunk.holds] at h3; exact h3.2.1
    · obtain ⟨l', B, h1, h2, h3⟩ := M.at hc
      rw [hl] at h1; cases h1
      simp only [Chunk.holds] at h3
      exact ⟨h3.2.1, Ty.rep_mono hm h3.2.2⟩
  unfold flatOf at h
  split at h
  · obtain ⟨e, rfl⟩ := cast?_some h
    subst e
    simp only [SV.rel, Ty.agg, Bool.false_eq_true, if_false] at hx
    exact fin (Ty.rep_mono hm hx)
  · obtain ⟨e, rfl⟩ := cast?_some h
    simp only [Ty.slice.injEq] at e
    subst e
    simp only [SV.rel] at hx
    obtain ⟨A, rfl, hr⟩ := hx
    exact fin (Ty.rep_mono hm hr)
  · cases h
    simp only [SV.rel] at hx
    subst hx
    exact ⟨none, 0, rfl, by simp only [Ty.rep]; exact ⟨none, 0, by simp, by simp, by simp⟩⟩
  · rename_i c
    simp only [SV.rel] at hx
    obtain ⟨l, hl, rfl⟩ := hx
    split at h
    · rename_i t L' hc
      rw [nth_eq] at hc
      have hr := (chunk hl (.inl hc)).2
      obtain ⟨e, rfl⟩ := cast?_some h
      simp only [Ty.slice.injEq] at e
      subst e
      exact fin hr
    · rename_i t L' hc
      rw [nth_eq] at hc
      have hr := (chunk hl (.inr hc)).2
      obtain ⟨e, rfl⟩ := cast?_some h
      simp only [Ty.slice.injEq] at e
      subst e
      exact fin hr
    · cases h
  · rename_i c lo n
    simp only [SV.rel] at hx
    obtain ⟨l, A, hl, hlo, rfl, hA⟩ := hx
    split at h
    · rename_i t L' hc
      rw [nth_eq] at hc
      obtain ⟨hw, hr⟩ := chunk hl (.inl hc)
      obtain ⟨e, rfl⟩ := cast?_some h
      simp only [Ty.slice.injEq] at e
      subst e
      exact fin (rep_part hr hlo hA hw)
    · rename_i t L' hc
      rw [nth_eq] at hc
      obtain ⟨hw, hr⟩ := chunk hl (.inr hc)
      obtain ⟨e, rfl⟩ := cast?_some h
      simp only [Ty.slice.injEq] at e
      subst e
      exact fin (rep_part hr hlo hA hw)
    · cases h
  · cases h

theorem bytesOf_says {bs : Base} {m : Mm} {ls : List Loc} {Bs : List (List Nat)} {cs : List Chunk} {w : World} (M : Mem bs m ls Bs cs w) {s : SV} {L : List Int} (h : bytesOf cs s = some L) {x : Value} (hx : s.rel m ls x) :
    ∃ A c, x = .slice A L.length c ∧ (Ty.slice (.int .u8)).rep (cellsOf w) L [.slice A L.length c] := flat_says M (u := .int .u8) h hx

theorem bnd_says {m : Mm} {ls : List Loc} {σ : Operand → SV} {ρ : Operand → Value} (hσ : ∀ x, (σ x).rel m ls (ρ x)) {d l : Int} : ∀ {o : Option Operand}, bnd d (o.map σ) = some l → (o = none ∧ l = d) ∨ ∃ y k, o = some y ∧ ρ y = .int k l
  | none, h => by simp only [Option.map_none, bnd, Option.some.injEq] at h; exact .inl ⟨rfl, h.symm⟩
  | some y, h => by
    simp only [Option.map_some, bnd] at h
    split at h
    · rename_i k i hi
      cases h
      have := hσ y
      rw [hi] at this
      exact .inr ⟨y, k, rfl, SV.int_rel this⟩
    · cases h

theorem exBnds_some {n : Int} {lo hi : Option SV} {K : Nat → Nat → Option SV} {v : SV} (h : exBnds n lo hi K = some v) :
    ∃ l h', bnd 0 lo = some l ∧ bnd n hi = some h' ∧ 0 ≤ l ∧ l ≤ h' ∧ h' ≤ n ∧ K l.toNat h'.toNat = some v := by
  unfold exBnds at h
  split at h
  · rename_i l hl
    split at h
    · rename_i h' hh
      split at h
      · split at h
        · split at h
          · exact ⟨l, h', hl, hh, by assumption, by assumption, by assumption, h⟩
          · cases h
        · cases h
      · cases h
    · simp [bad] at h
  · simp [bad] at h

theorem elemSize_some (hT : TOk P T) {t sz : Nat} (hsz : elemSize T t = some sz) : P.underlying t = some (.slice (P.elem t)) ∧ ∀ w, (Go.sizeOf (P.elem t)).run P w = .ok sz w := by
  obtain ⟨e, hund, he⟩ : ∃ e, P.underlying t = some (.slice e) ∧ ∀ w, (Go.sizeOf e).run P w = .ok sz w := by
    unfold elemSize at hsz
    split at hsz
    · rename_i ti ht
      split at hsz
      · rename_i e hd
        split at hsz
        · rename_i te hte
          cases hsz
          obtain ⟨d, h1, _, h3⟩ := (hT _ _ ht).und
          rw [hd] at h3
          subst h3
          exact ⟨e, h1, fun w => run_sizeOf (hT _ _ hte) w⟩
        · cases hsz
      · cases hsz
    · cases hsz
  have hel : P.elem t = e := by simp [Program.elem, hund]
  rw [hel]
  exact ⟨hund, he⟩

/-- A part of a slice is taken. -/
theorem run_part (hT : TOk P T) {t : Nat} {lo hi : Option Operand} {sz : Nat} (hsz : elemSize T t = some sz) {σ : Operand → SV} {ρ : Operand → Value} {m : Mm} {ls : List Loc} {w : World} (hσ : ∀ x, (σ x).rel m ls (ρ x))
    {A : Option Addr} {len c : Nat} {l h : Int} (hl : bnd 0 (lo.map σ) = some l) (hhi : bnd (len : Int) (hi.map σ) = some h) (h0 : 0 ≤ l) (h1 : l ≤ h) (h2 : h ≤ len) (hc : len ≤ c) :
    (do let r ← Instr.sliceAt t (.slice A len c) (lo.map ρ) (hi.map ρ) (Option.map ρ none); pure (Next.value r) : Sem Next).run P w = .ok (.value (sliced A l.toNat h.toNat c sz)) w := by
  obtain ⟨hund', he⟩ := elemSize_some hT hsz
  have key : (Instr.slice t (.slice A len c) (lo.map ρ) (hi.map ρ) none).run P w = .ok (sliced A l.toNat h.toNat c sz) w := by
    rcases bnd_says hσ hl with ⟨rfl, rfl⟩ | ⟨y, k, rfl, hy⟩
    · rcases bnd_says hσ hhi with ⟨rfl, rfl⟩ | ⟨y', k', rfl, hy'⟩
      · simp only [Option.map_none]
        rw [run_slice_all w t A _ c hund', he]; simp
      · simp only [Option.map_none, Option.map_some, hy']
        rw [run_slice_h w t A _ c hund' k' h (by omega) (by omega), he]; simp
    · rcases bnd_says hσ hhi with ⟨rfl, rfl⟩ | ⟨y', k', rfl, hy'⟩
      · simp only [Option.map_none, Option.map_some, hy]
        rw [run_slice_l w t A _ c hund' k l (by omega) (by omega), he]; simp
      · simp only [Option.map_some, hy, hy']
        rw [run_slice_lh w t A _ c hund' k k' l h (by omega) (by omega) (by omega), he]; simp
  simp only [Sem.run_bind, Option.map_none, run_sliceAt_slice w t _ _ _ _ hund', key, Result.andThen_ok, Sem.run_pure]

theorem sliced_eq (A : Option Addr) (l h c s : Nat) : ∃ A', sliced A l h c s = .slice A' (h - l) (c - l) ∧ (l < c → A' = A.map (·.add (l * s))) :=
  ⟨if c = l then A else A.map (·.add (l * s)), rfl, fun hl => by rw [if_neg (by omega)]⟩

theorem slice_ok (hT : TOk P T) {t : Nat} {x : Operand} {lo hi : Option Operand} {sz : Nat} (hsz : elemSize T t = some sz) {σ : Operand → SV} {ρ : Operand → Value} {bs : Base} {m : Mm} {ls : List Loc} {Bs : List (List Nat)} {cs : List Chunk} {w : World} {v : SV} (M : Mem bs m ls Bs cs w)
    (h : exSlice sz cs (σ x) (lo.map σ) (hi.map σ) some = some v) (hx : (σ x).rel m ls (ρ x)) (hσ : ∀ x, (σ x).rel m ls (ρ x)) :
    ∃ v', v.rel m ls v' ∧ (do let r ← Instr.sliceAt t (ρ x) (lo.map ρ) (hi.map ρ) (Option.map ρ none); pure (Next.value r) : Sem Next).run P w = .ok (.value v') w := by
  have told : ∀ (u : Ty) (L : List u.den) (q : Nat), (bif Nat.beq sz u.width then exBnds (List.length L : Int) (lo.map σ) (hi.map σ) (fun l h => some (.p (.slice u) (List.take (h - l) (List.drop l L)))) else bad q) = some v →
      (Ty.slice u).rep m L [ρ x] → ∃ v', v.rel m ls v' ∧ (do let r ← Instr.sliceAt t (ρ x) (lo.map ρ) (hi.map ρ) (Option.map ρ none); pure (Next.value r) : Sem Next).run P w = .ok (.value v') w := by
    intro u L q h hr
    cases hb : Nat.beq sz u.width with
    | false => rw [hb] at h; simp [bad] at h
    | true =>
      rw [hb] at h
      have hbw := beq_nat hb
      simp only [cond_true] at h
      obtain ⟨l, hh, hl, hhi, h0, h1, h2, h⟩ := exBnds_some h
      cases h
      have hx2 := hr
      simp only [Ty.rep] at hx2
      obtain ⟨A, c, e1, hc, _⟩ := hx2
      simp only [List.cons.injEq, and_true] at e1
      rw [e1] at hr
      obtain ⟨A', e2, hA'⟩ := sliced_eq A l.toNat hh.toNat c sz
      refine ⟨_, ?_, by rw [e1]; exact run_part hT hsz hσ hl hhi h0 h1 h2 hc⟩
      simp only [SV.rel, Ty.agg, Bool.false_eq_true, if_false]
      rw [e2]
      exact rep_part hr (by omega) hA' hbw
  have view : ∀ (c0 a n : Nat) (l0 : Loc) (A0 : Option Addr), ls[c0]? = some l0 → a + n ≤ l0.len → l0.len ≤ l0.cap → l0.w = sz → ρ x = .slice A0 n (l0.cap - a) → (a < l0.cap → A0 = l0.A.map (·.add (a * l0.w))) →
      exBnds (n : Int) (lo.map σ) (hi.map σ) (fun l h => some (.sub c0 (a + l) (h - l))) = some v →
      ∃ v', v.rel m ls v' ∧ (do let r ← Instr.sliceAt t (ρ x) (lo.map ρ) (hi.map ρ) (Option.map ρ none); pure (Next.value r) : Sem Next).run P w = .ok (.value v') w := by
    intro c0 a n l0 A0 hl0 hlen hcap hw hρ hA0 h
    obtain ⟨l, hh, hl, hhi, h0, h1, h2, h⟩ := exBnds_some h
    cases h
    obtain ⟨A', e2, hA'⟩ := sliced_eq A0 l.toNat hh.toNat (l0.cap - a) sz
    refine ⟨_, ?_, by rw [hρ]; exact run_part hT hsz hσ hl hhi h0 h1 h2 (by omega)⟩
    simp only [SV.rel]
    refine ⟨l0, A', hl0, by omega, by rw [e2]; congr 1; omega, fun hlt => ?_⟩
    rw [hA' (by omega), hA0 (by omega), hw]
    cases l0.A with
    | none => rfl
    | some ad => simp only [Option.map_some]; rw [Addr_add_add, Nat.add_mul]
  unfold exSlice at h
  split at h
  · rename_i u L hxL
    rw [hxL] at hx
    simp only [SV.rel, Ty.agg, Bool.false_eq_true, if_false] at hx
    exact told u L 94 h hx
  · rename_i c hc0
    rw [hc0] at hx
    simp only [SV.rel] at hx
    obtain ⟨l0, hl0, hv⟩ := hx
    split at h
    · rename_i u L hc
      rw [nth_eq] at hc
      obtain ⟨l', B, hl', hB, hh⟩ := M.at hc
      rw [hl0] at hl'; cases hl'
      simp only [Chunk.holds] at hh
      obtain ⟨hw0, hlw, hll, hlc, _⟩ := hh
      cases hb : Nat.beq sz u.width with
      | false => rw [hb] at h; simp [bad] at h
      | true =>
        rw [hb] at h
        simp only [cond_true] at h
        have hbw := beq_nat hb
        have := view c 0 (List.length L) l0 l0.A hl0 (by omega) (by omega) (by omega) (by rw [hv, hll, Nat.sub_zero]) (fun _ => by cases l0.A <;> simp [Addr.add]) (by simpa using h)
        exact this
    · rename_i u L hc
      rw [nth_eq] at hc
      obtain ⟨l', B, hl', hB, hh⟩ := M.at hc
      rw [hl0] at hl'; cases hl'
      simp only [Chunk.holds] at hh
      exact told u L 109 h (by rw [hv]; exact hh.2.2)
    · simp [bad] at h
  · rename_i c a n hc0
    rw [hc0] at hx
    simp only [SV.rel] at hx
    obtain ⟨l0, A0, hl0, hlen, hv, hA0⟩ := hx
    split at h
    · rename_i u L hc
      rw [nth_eq] at hc
      obtain ⟨l', B, hl', hB, hh⟩ := M.at hc
      rw [hl0] at hl'; cases hl'
      simp only [Chunk.holds] at hh
      obtain ⟨hw0, hlw, hll, hlc, _⟩ := hh
      cases hb : Nat.beq sz u.width with
      | false => rw [hb] at h; simp [bad] at h
      | true =>
        rw [hb] at h
        simp only [cond_true] at h
        have hbw := beq_nat hb
        exact view c a n l0 A0 hl0 hlen (by omega) (by omega) hv hA0 h
    · simp [bad] at h
  · rename_i hc0
    rw [hc0] at hx
    simp only [SV.rel] at hx
    obtain ⟨l, hh, hl, hhi, h0, h1, h2, h⟩ := exBnds_some h
    cases h
    have e1 : l = 0 := by omega
    have e2 : hh = 0 := by omega
    subst e1; subst e2
    refine ⟨.slice none 0 0, by simp only [SV.rel], ?_⟩
    rw [hx]
    have := run_part (w := w) hT hsz hσ (A := none) (len := 0) (c := 0) hl hhi h0 h1 h2 (Nat.le_refl _)
    simpa [sliced] using this
  · simp [bad] at h

theorem run_part3 (hT : TOk P T) {t : Nat} {lo : Option Operand} {hi mx : Operand} {sz : Nat} (hsz : elemSize T t = some sz) {ρ : Operand → Value} {w : World}
    {A : Option Addr} {len c : Nat} {l h m' : Int} {kh km : IntKind} (hl : (lo = none ∧ l = 0) ∨ ∃ y k, lo = some y ∧ ρ y = .int k l) (hh : ρ hi = .int kh h) (hm : ρ mx = .int km m') (h0 : 0 ≤ l) (h1 : l ≤ h) (h2 : h ≤ m') (hc : m' ≤ c) :
    (do let r ← Instr.sliceAt t (.slice A len c) (lo.map ρ) (some (ρ hi)) (some (ρ mx)); pure (Next.value r) : Sem Next).run P w = .ok (.value (sliced A l.toNat h.toNat m'.toNat sz)) w := by
  obtain ⟨hund', he⟩ := elemSize_some hT hsz
  have key : (Instr.slice t (.slice A len c) (lo.map ρ) (some (ρ hi)) (some (ρ mx))).run P w = .ok (sliced A l.toNat h.toNat m'.toNat sz) w := by
    rcases hl with ⟨rfl, rfl⟩ | ⟨y, k, rfl, hy⟩
    · simp only [Option.map_none, hh, hm]
      rw [run_slice_hm w t A _ c hund' kh km h m' (by omega) (by omega) (by omega), he]; simp
    · simp only [Option.map_some, hy, hh, hm]
      rw [run_slice_lhm w t A _ c hund' k kh km l h m' (by omega) (by omega) (by omega) (by omega), he]; simp
  simp only [Sem.run_bind, run_sliceAt_slice w t _ _ _ _ hund', key, Result.andThen_ok, Sem.run_pure]

theorem isZeroC_some {o : Operand} (h : isZeroC o = true) : ∃ k, o = .const (.int k 0) := by
  unfold isZeroC at h
  split at h
  · rename_i k n
    split at h
    · exact ⟨k, rfl⟩
    · cases h
  · cases h

theorem zeroPart_some {lo : Option Operand} {hi mx : Operand} (hz : zeroPart lo hi mx = true) : lo = none ∧ ∃ k k', hi = .const (.int k 0) ∧ mx = .const (.int k' 0) := by
  unfold zeroPart at hz
  cases h1 : isZeroC hi with
  | false => rw [h1] at hz; cases hz
  | true =>
    rw [h1] at hz
    cases h2 : isZeroC mx with
    | false => rw [h2] at hz; cases hz
    | true =>
      rw [h2] at hz
      cases lo with
      | some _ => cases hz
      | none =>
        obtain ⟨k', rfl⟩ := isZeroC_some h2
        obtain ⟨k, rfl⟩ := isZeroC_some h1
        exact ⟨rfl, k, k', rfl, rfl⟩

theorem bnd_int {m : Mm} {ls : List Loc} {σ : Operand → SV} {ρ : Operand → Value} (hσ : ∀ x, (σ x).rel m ls (ρ x)) {d l : Int} {y : Operand} (h : bnd d (some (σ y)) = some l) : ∃ k, ρ y = .int k l := by
  unfold bnd at h
  simp only at h
  split at h
  · rename_i k i hi'
    cases h
    have := hσ y
    rw [hi'] at this
    exact ⟨k, SV.int_rel this⟩
  · cases h

theorem slice3_ok (hT : TOk P T) {t : Nat} {x : Operand} {lo : Option Operand} {hi mx : Operand} {sz : Nat} (hsz : elemSize T t = some sz) {σ : Operand → SV} {m : Mm} {ls : List Loc} {w : World} {v : SV} {ρ : Operand → Value}
    (hcst : zeroPart lo hi mx = true → (∃ k, ρ hi = .int k 0) ∧ ∃ k, ρ mx = .int k 0)
    (h : exSlice3 sz (zeroPart lo hi mx) (σ x) (lo.map σ) (σ hi) (σ mx) some = some v) (hσ : ∀ x, (σ x).rel m ls (ρ x)) :
    ∃ v', v.rel m ls v' ∧ (do let r ← Instr.sliceAt t (ρ x) (lo.map ρ) (some (ρ hi)) (some (ρ mx)); pure (Next.value r) : Sem Next).run P w = .ok (.value v') w := by
  have hx := hσ x
  unfold exSlice3 at h
  split at h
  · rename_i u L hxL
    rw [hxL] at hx
    simp only [SV.rel, Ty.agg, Bool.false_eq_true, if_false] at hx
    cases hb : Nat.beq sz u.width with
    | false => rw [hb] at h; simp [bad] at h
    | true =>
      rw [hb] at h
      have hbw := beq_nat hb
      simp only [cond_true] at h
      have hx2 := hx
      simp only [Ty.rep] at hx2
      obtain ⟨A, c, e1, hc, _⟩ := hx2
      simp only [List.cons.injEq, and_true] at e1
      rw [e1] at hx
      cases hz : zeroPart lo hi mx with
      | true =>
        rw [hz] at h
        simp only [cond_true, Option.some.injEq] at h
        subst h
        obtain ⟨⟨k1, q1⟩, ⟨k2, q2⟩⟩ := hcst hz
        obtain ⟨rfl, _⟩ := zeroPart_some hz
        refine ⟨_, ?_, by rw [e1]; exact run_part3 hT hsz (l := 0) (h := 0) (m' := 0) (.inl ⟨rfl, rfl⟩) q1 q2 (by omega) (by omega) (by omega) (by omega)⟩
        simp only [SV.rel, sliced]
        refine ⟨_, rfl, ?_⟩
        simp only [Ty.rep]
        exact ⟨_, _, rfl, by simp, by simp⟩
      | false =>
        rw [hz] at h
        simp only [cond_false] at h
        obtain ⟨l, hh, hl, hhi, h0, h1, h2, h⟩ := exBnds_some h
        split at h
        · rename_i m' hm'
          split at h
          · rename_i hm
            cases h
            have hme : m' = hh := by omega
            subst hme
            obtain ⟨km, hkm⟩ := bnd_int hσ hm'
            obtain ⟨kh, hkh⟩ := bnd_int hσ hhi
            refine ⟨_, ?_, by rw [e1]; exact run_part3 hT hsz (bnd_says hσ hl) hkh hkm h0 h1 (by omega) (by omega)⟩
            have hlen : (List.take (m'.toNat - l.toNat) (List.drop l.toNat L)).length = m'.toNat - l.toNat := by simp; omega
            simp only [SV.rel]
            refine ⟨if m'.toNat = l.toNat then A else A.map (·.add (l.toNat * sz)), by rw [hlen]; rfl, ?_⟩
            exact rep_part0 hx (by omega) (fun hn => by rw [if_neg (by omega)]) hbw (Nat.le_refl _)
          · cases h
        · simp [bad] at h
  · rename_i hn
    rw [hn] at hx
    simp only [SV.rel] at hx
    cases hz : zeroPart lo hi mx with
    | false => rw [hz] at h; simp [bad] at h
    | true =>
      rw [hz] at h
      simp only [cond_true, Option.some.injEq] at h
      subst h
      obtain ⟨⟨k1, q1⟩, ⟨k2, q2⟩⟩ := hcst hz
      obtain ⟨rfl, _⟩ := zeroPart_some hz
      refine ⟨.slice none 0 0, by simp only [SV.rel], ?_⟩
      rw [hx]
      have := run_part3 (w := w) (ρ := ρ) hT hsz (A := none) (len := 0) (c := 0) (lo := none) (l := 0) (h := 0) (m' := 0) (.inl ⟨rfl, rfl⟩) q1 q2 (by omega) (by omega) (by omega) (by omega)
      simpa [sliced] using this
  · simp [bad] at h

/-- A part of a string. -/
theorem strSlice_ok (hT : TOk P T) {t : Nat} {x : Operand} {lo hi : Option Operand} {mx : Option Operand} {σ : Operand → SV} {m : Mm} {ls : List Loc} {w : World} {v : SV} {ρ : Operand → Value}
    (h : exStrSlice T t (σ x) (lo.map σ) (hi.map σ) mx some = some v) (hσ : ∀ x, (σ x).rel m ls (ρ x)) :
    ∃ v', v.rel m ls v' ∧ (do let r ← Instr.sliceAt t (ρ x) (lo.map ρ) (hi.map ρ) (mx.map ρ); pure (Next.value r) : Sem Next).run P w = .ok (.value v') w := by
  have hx := hσ x
  unfold exStrSlice at h
  split at h
  · split at h
    · rename_i ti ht
      split at h
      · rename_i hd
        split at h
        · rename_i s hs
          rw [hs] at hx
          have ex := SV.str_rel hx
          obtain ⟨d, hund, _, hd2⟩ := (hT _ _ ht).und
          rw [hd] at hd2
          subst hd2
          obtain ⟨l, hh, hl, hhi, h0, h1, h2, h⟩ := exBnds_some h
          cases h
          refine ⟨_, SV.mk_str _, ?_⟩
          have key : (Instr.slice t (.string s) (lo.map ρ) (hi.map ρ) none).run P w = .ok (.string (ByteArray.extract s l.toNat hh.toNat)) w := by
            rcases bnd_says hσ hl with ⟨rfl, rfl⟩ | ⟨y, k, rfl, hy⟩
            · rcases bnd_says hσ hhi with ⟨rfl, rfl⟩ | ⟨y', k', rfl, hy'⟩
              · simp [Instr.slice, run_underlying hund, Instr.sliceBounds]
              · simp [Instr.slice, run_underlying hund, Instr.sliceBounds, Instr.sliceBound, asIntOf, hy', show 0 ≤ hh by omega, h2]
            · rcases bnd_says hσ hhi with ⟨rfl, rfl⟩ | ⟨y', k', rfl, hy'⟩
              · simp [Instr.slice, run_underlying hund, Instr.sliceBounds, Instr.sliceBound, asIntOf, hy, h0, h1]
              · have e1 : l ≤ max hh 0 := by omega
                have e2 : ¬ (max hh 0 < l) := by omega
                simp [Instr.slice, run_underlying hund, Instr.sliceBounds, Instr.sliceBound, asIntOf, hy, hy', h0, show 0 ≤ hh by omega, h2, e1, e2]
          simp only [Option.map_none, ex, Instr.sliceAt, Sem.run_bind, run_underlying hund, Result.andThen_ok, key, Sem.run_pure]
        · simp [bad] at h
      · simp [bad] at h
    · simp [bad] at h
  · simp [bad] at h

theorem run_getObj_some {w : World} {b : Nat} {es : Array MapEntry} {clock : Nat} (h : w.heap[b]? = some (.map es clock)) : (getObj b).run P w = .ok (.map es clock) w := MapKept.run_getObj_map h

theorem map_one {α β : Type} {f : α → β} {l : List α} {u : β} (h : l.map f = [u]) : ∃ x, l = [x] ∧ f x = u := by
  cases l with
  | nil => simp at h
  | cons a l => cases l with
    | nil => simp at h; exact ⟨a, rfl, h⟩
    | cons b l => simp at h

theorem noInt_some (hT : TOk P T) {t : Nat} (h : noInt T t = true) : ∃ e, P.underlying t = some (.slice e) := by
  unfold noInt at h
  split at h
  · rename_i ti ht
    split at h
    · rename_i e hd
      obtain ⟨d, h1, _, h3⟩ := (hT _ _ ht).und
      rw [hd] at h3
      exact ⟨e, by rw [h1, h3]⟩
    · cases h
  · cases h

theorem ix_rep {m : Mm} {u : Ty} : ∀ {n : Nat} {v : Ty} {y : v.den} {us : List Value} {i : Nat}, arrTy u n v = true → v.rep m y us → i < n → u.rep m (v.ix y i u) ((us.drop (i * u.width)).take u.width) ∧ i * u.width + u.width ≤ us.length
  | 0, v, y, us, i, h, r, hi => by omega
  | n + 1, v, y, us, i, h, r, hi => by
    cases v with
    | pair a b =>
      simp only [arrTy] at h
      cases hq : a.eq? u with
      | none => rw [hq] at h; simp at h
      | some p =>
        rw [hq] at h
        simp only [cond_true] at h
        simp only [Ty.rep] at r
        obtain ⟨us1, us2, rfl, r1, r2⟩ := r
        have e := p.down
        subst e
        have l1 := Ty.rep_length r1
        cases i with
        | zero =>
          simp only [Ty.ix, hq, Nat.zero_mul, List.drop_zero]
          rw [List.take_append_of_le_length (by omega), List.take_of_length_le (by omega)]
          exact ⟨r1, by simp; omega⟩
        | succ i =>
          simp only [Ty.ix]
          obtain ⟨h1, h2⟩ := ix_rep (i := i) h r2 (by omega)
          have e1 : (i + 1) * a.width = us1.length + i * a.width := by rw [Nat.add_mul, l1]; omega
          rw [e1, ← List.drop_drop]
          simp only [List.drop_left]
          exact ⟨h1, by simp; omega⟩
    | _ => simp [arrTy] at h

theorem ixc_eq : ∀ (t : Ty) (x : t.den) (n : Nat) (u : Ty), t.ixc x n u = t.ix x n u
  | .pair a b, x, 0, u => rfl
  | .pair a b, x, n + 1, u => ixc_eq b x.2 n u
  | .int _, _, 0, _ => rfl | .int _, _, _ + 1, _ => rfl
  | .bool, _, 0, _ => rfl | .bool, _, _ + 1, _ => rfl
  | .str, _, 0, _ => rfl | .str, _, _ + 1, _ => rfl
  | .slice _, _, 0, _ => rfl | .slice _, _, _ + 1, _ => rfl
  | .unit, _, 0, _ => rfl | .unit, _, _ + 1, _ => rfl

theorem constNat_some {o : Operand} {k : Nat} (h : constNat o = some k) : ∃ kk, o = .const (.int kk k) := by
  unfold constNat at h
  split at h
  · split at h
    · cases h; exact ⟨_, rfl⟩
    · cases h
  · cases h

theorem index_ok (hT : TOk P T) {t : Nat} {kc : Option Nat} {sx si v : SV} (h : exIndex T t kc sx si some = some v) {x i : Value} (hx : sx.rel m ls x) (hi : si.rel m ls i) (hkc : ∀ k, kc = some k → ∃ kk, i = .int kk k) {w : World} :
    ∃ v', v.rel m ls v' ∧ (Instr.index t x i).run P w = .ok v' w := by
  unfold exIndex at h
  split at h
  · rename_i k iv
    obtain ⟨z, hz⟩ : ∃ z : Int, z = iv := ⟨iv, rfl⟩
    subst hz
    have ei := SV.int_rel hi
    split at h
    · rename_i ti ht
      obtain ⟨d, hund, hagd, hd2⟩ := (hT _ _ ht).und
      split at h
      · rename_i hd
        rw [hd] at hd2
        subst hd2
        split at h
        · rename_i s
          have ex := SV.str_rel hx
          split at h
          · rename_i h0
            split at h
            · rename_i hlt
              cases h
              obtain ⟨s', hs'⟩ : ∃ q : ByteArray, q = s := ⟨s, rfl⟩
              subst hs'
              have h0' : 0 ≤ z := h0
              have hlt' : z.toNat < s'.size := by have : z < (s'.size : Int) := hlt; omega
              refine ⟨.int .u8 (strAt s' z), SV.mk_int _ _, ?_⟩
              have e1 : s'[z.toNat]? = some (s'[z.toNat]) := getElem?_pos s' z.toNat hlt'
              have e2 : strAt s' z = ((s'[z.toNat]).toNat : Int) := by
                unfold strAt
                have : s'.data[z.toNat]? = some (s'[z.toNat]) := by
                  rw [Array.getElem?_eq_getElem (by simpa using hlt')]; rfl
                rw [this]
              simp only [Instr.index, ei, asIntOf, Sem.run_bind, Sem.run_pure, Result.andThen_ok, run_underlying hund, ex, h0', if_true, e1, e2]
            · cases h
          · cases h
        · simp [bad] at h
      · rename_i n e hd
        rw [hd] at hd2
        subst hd2
        split at h
        · rename_i te hte
          split at h
          · rename_i u hu
            split at h
            · rename_i vt y
              cases hb : arrTy u n vt with
              | false => rw [hb] at h; simp [bad] at h
              | true =>
                rw [hb] at h
                simp only [cond_true] at h
                have main : 0 ≤ z → z < (n : Int) → v = .p u (vt.ix y z.toNat u) → ∃ v', v.rel m ls v' ∧ (Instr.index t x i).run P w = .ok v' w := by
                    intro h0' hlt' hveq
                    subst hveq
                    have hn : 0 < n := by omega
                    have hagv : vt.agg = true := by
                      cases n with
                      | zero => omega
                      | succ n => cases vt <;> simp_all [arrTy, Ty.agg]
                    simp only [SV.rel, hagv, if_true] at hx
                    obtain ⟨cs, rfl, hr⟩ := hx
                    obtain ⟨h1, h2⟩ := ix_rep (i := z.toNat) hb hr (by omega)
                    have hte' := hT _ _ hte
                    obtain ⟨hw, hag⟩ := hte'.ty u hu
                    refine ⟨valOf te.d.agg ((cs.toList.drop (z.toNat * u.width)).take u.width), ?_, ?_⟩
                    · simp only [SV.rel, hag, valOf]
                      cases hga : te.d.agg with
                      | true => simp only [if_true]; exact ⟨_, rfl, by simpa using h1⟩
                      | false =>
                        simp only [Bool.false_eq_true, if_false]
                        have hlen := Ty.rep_length h1
                        have hw1 : u.width = 1 := by rw [hw]; exact hte'.one hga
                        match hq : (cs.toList.drop (z.toNat * u.width)).take u.width, hlen with
                        | [q], _ => rw [hq] at h1; simpa using h1
                        | [], hq2 => rw [hw1] at hq2; simp at hq2
                        | _ :: _ :: _, hq2 => rw [hw1] at hq2; simp at hq2
                    · simp only [Instr.index, ei, asIntOf, Sem.run_bind, Sem.run_pure, Result.andThen_ok, run_underlying hund, run_sizeOf hte']
                      rw [if_pos ⟨h0', hlt'⟩]
                      unfold part
                      simp only [Sem.run_bind, run_isAgg hte', run_sizeOf hte', Result.andThen_ok, ← hw]
                      cases hga : te.d.agg with
                      | true =>
                        simp only [if_true, Sem.run_pure, valOf, Sem.run_bind, run_sizeOf hte', Result.andThen_ok, ← hw]
                        congr 2
                        apply Array.toList_inj.1
                        simp [List.extract]
                      | false =>
                        have hw1 : u.width = 1 := by rw [hw]; exact hte'.one hga
                        have hlt2 : z.toNat * u.width < cs.size := by simp at h2; omega
                        simp only [Bool.false_eq_true, if_false, valOf]
                        rw [Array.getElem?_eq_getElem hlt2]
                        simp only [Sem.run_pure]
                        congr 1
                        have e5 : cs.toList.drop (z.toNat * u.width) = cs[z.toNat * u.width] :: cs.toList.drop (z.toNat * u.width + 1) := by
                          rw [List.drop_eq_getElem_cons (by simpa using hlt2)]; simp
                        rw [e5]
                        have e6 : ∀ k (a : Value) l, k = 1 → a = (List.take k (a :: l)).headD undef := by intro k a l hk; subst hk; rfl
                        exact e6 _ _ _ hw1
                split at h
                · rename_i k
                  obtain ⟨kk, hk⟩ := hkc k rfl
                  cases hkn : Nat.blt k n with
                  | false => rw [hkn] at h; simp [bad] at h
                  | true =>
                    rw [hkn] at h
                    simp only [cond_true, Option.some.injEq] at h
                    have hz : z = (k : Int) := by
                      rw [ei] at hk
                      simp only [Value.int.injEq] at hk
                      exact hk.2
                    have hkn' : k < n := by simp [Nat.blt] at hkn; omega
                    refine main (by omega) (by omega) ?_
                    rw [← h, ixc_eq, hz]; rfl
                · split at h
                  · rename_i h0
                    split at h
                    · rename_i hlt
                      cases h
                      exact main h0 hlt rfl
                    · cases h
                  · cases h
            · simp [bad] at h
          · simp [bad] at h
        · simp [bad] at h
      · simp [bad] at h
    · simp [bad] at h
  · simp [bad] at h

theorem mget_kfind (k v : Ty) (x : k.den) : ∀ (L : List (k.den × v.den)) (i : Nat), 
    (match kfind k x (L.map (·.1)) i with | some j => mhas k v L x = true ∧ ∃ e, L[j - i]? = some e ∧ mget k v L x = e.2 | none => mhas k v L x = false ∧ mget k v L x = v.zero)
  | [], i => by simp [kfind, mhas, mget]
  | a :: L, i => by
    simp only [List.map_cons, kfind, mhas, mget]
    cases hb : k.beq x a.1 with
    | true => simp
    | false =>
      simp only [cond_false]
      have := mget_kfind k v x L (i + 1)
      cases hk : kfind k x (L.map (·.1)) (i + 1) with
      | none => rw [hk] at this; exact this
      | some j =>
        rw [hk] at this
        have hj := kfind_lt hk
        obtain ⟨h1, e, h2, h3⟩ := this
        refine ⟨h1, e, ?_, h3⟩
        rw [show j - i = (j - (i + 1)) + 1 by omega, List.getElem?_cons_succ]; exact h2

/-- The zero of a type. -/
theorem zero_rel (hT : TOk P T) {e : Nat} {te : TI} (hte : T.find e = some te) {v : Ty} (hv : te.ty = some v) (w : World) : ∃ z, (zeroValue e).run P w = .ok z w ∧ (SV.p v v.zero).rel m ls z := by
  obtain ⟨i, z, hi, hs, hby, hz, hzr, hzd, ha1, ha2⟩ := (hT _ _ hte).info
  refine ⟨z, by simp [zeroValue, typeInfo, hi, hz], ?_⟩
  have hag := ((hT _ _ hte).ty v hv).2
  have hr := hzd v hv m
  simp only [SV.rel]
  cases hga : te.d.agg with
  | true =>
    rw [hag, hga]
    obtain ⟨cs, rfl⟩ := ha1 hga
    exact ⟨cs, rfl, hr⟩
  | false =>
    rw [hag, hga]
    simp only [Bool.false_eq_true, if_false]
    rw [ha2 hga] at hr
    simpa using hr

theorem es_keys {k v : Ty} {L : List (k.den × v.den)} {es : Array MapEntry} (hf : k.flat = true) (hes : es.size = List.length L)
    (hr : ∀ (i : Nat) e (h : i < List.length L), es[i]? = some e → SV.rel m ls (.p k (L[i]).1) e.key ∧ SV.rel m ls (.p v (L[i]).2) e.val) : es.toList.map (·.key) = (L.map (·.1)).map k.val := by
  apply List.ext_getElem?
  intro i
  simp only [List.getElem?_map]
  rcases Nat.lt_or_ge i (List.length L) with hi | hi
  · have hi' : i < es.size := by omega
    rw [List.getElem?_eq_getElem hi, Array.getElem?_toList, Array.getElem?_eq_getElem hi']
    simp only [Option.map_some]
    rw [rel_val hf (hr i _ hi (Array.getElem?_eq_getElem hi')).1]
  · rw [List.getElem?_eq_none hi, List.getElem?_eq_none (by simpa using by omega)]; rfl

theorem key_data {u : Ty} (hf : u.flat = true) {s : SV} {y : u.den} (h : s.data [] u = some (y, [])) {x : Value} (hx : s.rel m ls x) : x = u.val y := by
  have R0 : Reads m ls [] [] := ⟨fun c l t L h1 h2 => by simp at h2, fun c l cells ty _ h2 => by simp at h2⟩
  refine rel_val hf (m := m) (ls := ls) ?_
  unfold SV.data at h
  simp only [SV.rel]
  cases hu : u.agg with
  | true =>
    rw [hu] at h
    simp only [cond_true] at h
    simp only [if_true]
    split at h
    · split at h
      · rename_i y' hy
        cases h
        obtain ⟨e, rfl⟩ := cast?_some hy
        subst e
        simp only [SV.rel, hu, if_true] at hx
        exact hx
      · cases h
    · split at h
      · rename_i y' z hy
        cases h
        simp only [SV.rel] at hx
        obtain ⟨cs', rfl, hr⟩ := hx
        obtain ⟨us, ws, e, h1, h2⟩ := take_rel hy R0 hr
        simp only [SV.rels] at h2
        subst h2
        exact ⟨cs', rfl, by rw [e, List.append_nil]; exact h1⟩
      · cases h
    · cases h
  | false =>
    rw [hu] at h
    simp only [cond_false] at h
    simp only [Bool.false_eq_true, if_false]
    exact atom_rel hu h R0 hx

theorem lookup_ok (hT : TOk P T) {bs : Base} {Bs : List (List Nat)} {cs : List Chunk} {w : World} (M : Mem bs m ls Bs cs w) {t : Nat} {sx si v : SV} {ok : Bool} (h : exLookup T t cs sx si ok some = some v) {x i : Value} (hx : sx.rel m ls x) (hi : si.rel m ls i) :
    ∃ v', v.rel m ls v' ∧ (Instr.lookup t x i ok).run P w = .ok v' w := by
  unfold exLookup at h
  split at h
  · rename_i c
    simp only [SV.rel] at hx
    obtain ⟨l, b, hl, hA, rfl⟩ := hx
    split at h
    · rename_i k vt L hc
      rw [nth_eq] at hc
      obtain ⟨l', B, hl', hB, hh⟩ := M.at hc
      rw [hl] at hl'; cases hl'
      simp only [Chunk.holds] at hh
      obtain ⟨g, es, clock, hA', rfl, hheap, hes, hr⟩ := hh
      rw [hA] at hA'; cases hA'
      split at h
      · rename_i ti ht
        obtain ⟨d, hund, _, hd2⟩ := (hT _ _ ht).und
        split at h
        · rename_i kt e u hd
          rw [hd] at hd2
          obtain ⟨rfl, hK⟩ := hd2
          split at h
          · rename_i te hte
            split at h
            · rename_i v' hv'
              split at h
              · rename_i y hy
                split at h
                · rename_i y' hy'
                  obtain ⟨e1, rfl⟩ := cast?_some hy'
                  subst e1
                  split at h
                  · rename_i z hz
                    obtain ⟨e2, rfl⟩ := cast?_some hz
                    subst e2
                    have hkey := key_data hK.flat hy hi
                    subst hkey
                    have hks := es_keys hK.flat hes hr
                    have hfind := hK.find y (L.map (·.1)) es.toList w hks
                    have hm := mget_kfind u vt y L 0
                    obtain ⟨zv, hzr, hzrel⟩ := zero_rel (P := P) (m := m) (ls := ls) hT hte hv' w
                    have hobj : (getObj b).run P w = .ok (.map es clock) w := run_getObj_some hheap
                    have main : ∃ val has, (SV.p vt (mget u vt L y)).rel m ls val ∧ has = mhas u vt L y ∧ (Instr.lookup t (.map (some b)) (u.val y) ok).run P w = .ok (if ok = true then .tuple #[val, .bool has] else val) w := by
                      cases hk : kfind u y (L.map (·.1)) 0 with
                      | none =>
                        rw [hk] at hm hfind
                        refine ⟨zv, false, by rw [hm.2]; exact hzrel, hm.1.symm, ?_⟩
                        simp only [Instr.lookup, Sem.run_bind, run_underlying hund, Result.andThen_ok, hobj, Sem.run_pure, hK.check, hfind, Option.bind_none, hzr]
                      | some j =>
                        rw [hk] at hm hfind
                        have hj := (kfind_lt hk).2
                        simp only [List.length_map, Nat.zero_add] at hj
                        obtain ⟨h1, ent, h2, h3⟩ := hm
                        have hj' : j < es.size := by omega
                        have hgj := Array.getElem?_eq_getElem hj'
                        have hrj := (hr j _ hj hgj).2
                        rw [Nat.sub_zero, List.getElem?_eq_getElem hj] at h2
                        cases h2
                        refine ⟨es[j].val, true, by rw [h3]; exact hrj, h1.symm, ?_⟩
                        simp only [Option.bind_some, Array.getElem?_toList, hgj, Option.map_some] at hfind
                        simp only [Instr.lookup, Sem.run_bind, run_underlying hund, Result.andThen_ok, hobj, Sem.run_pure, hK.check, hfind]
                    obtain ⟨val, has, q1, q2, q3⟩ := main
                    cases ok with
                    | true =>
                      simp only [cond_true, Option.some.injEq] at h
                      subst h
                      refine ⟨_, ?_, q3⟩
                      simp only [if_true, SV.rel]
                      refine ⟨_, rfl, ?_⟩
                      simp only [SV.rels]
                      exact ⟨val, _, rfl, q1, _, _, rfl, by rw [q2]; exact SV.mk_bool _, rfl⟩
                    | false =>
                      simp only [cond_false, Option.some.injEq] at h
                      subst h
                      exact ⟨_, q1, q3⟩
                  · simp [bad] at h
                · simp [bad] at h
              · simp [bad] at h
            · simp [bad] at h
          · simp [bad] at h
        · simp [bad] at h
      · simp [bad] at h
    · simp [bad] at h
  · simp [bad] at h

theorem cellsAs_rel {u : Ty} (hu : u.agg = false) : ∀ {l : List SV} {xs : List u.den} {vs : List Value}, cellsAs u l = some xs → SV.rels m ls l vs → xs.length = vs.length ∧ ∀ (k : Nat) (hk : k < xs.length), ∃ v, vs[k]? = some v ∧ u.rep m xs[k] [v]
  | [], xs, vs, h, r => by
    simp only [cellsAs, Option.some.injEq] at h
    simp only [SV.rels] at r
    subst h; subst r
    exact ⟨rfl, fun k hk => by simp at hk⟩
  | s :: l, xs, vs, h, r => by
    simp only [cellsAs] at h
    simp only [SV.rels] at r
    obtain ⟨v, us, rfl, r1, r2⟩ := r
    split at h
    · rename_i x z hx
      split at h
      · rename_i ys hys
        cases h
        have hz : z = [] ∨ z ≠ [] := Classical.em _
        obtain ⟨h1, h2⟩ := cellsAs_rel hu hys r2
        refine ⟨by simp [h1], fun k hk => ?_⟩
        cases k with
        | zero => exact ⟨v, rfl, atom_rel hu hx (reads_no _ _ _) r1⟩
        | succ k =>
          obtain ⟨v', e1, e2⟩ := h2 k (by simpa using hk)
          exact ⟨v', by simpa using e1, by simpa using e2⟩
      · cases h
    · cases h

/-- An address of an array's element. -/
theorem arrAddr_ok (hT : TOk P T) {t : Nat} {kc : Option Nat} {sx si v : SV} (h : exArrAddr T t kc sx si some = some v) {x i : Value} (hx : sx.rel m ls x) (hi : si.rel m ls i) (hkc : ∀ k, kc = some k → ∃ kk, i = .int kk k) {w : World} :
    ∃ v', v.rel m ls v' ∧ (Instr.indexAt t x i).run P w = .ok v' w := by
  unfold exArrAddr at h
  split at h
  · rename_i kk iv
    obtain ⟨z, hz⟩ : ∃ z : Int, z = iv := ⟨iv, rfl⟩
    subst hz
    have ei := SV.int_rel hi
    split at h
    · rename_i ti ht
      obtain ⟨d, hund, _, hd2⟩ := (hT _ _ ht).und
      split at h
      · rename_i n e hd
        rw [hd] at hd2
        subst hd2
        split at h
        · rename_i te hte
          have key : ∀ (b o : Nat), x = .pointer (some ⟨b, o, none⟩) → 0 ≤ z → z < (n : Int) → (Instr.indexAt t x i).run P w = .ok (.pointer (some ⟨b, o + z.toNat * te.size, none⟩)) w := by
            intro b o hxv h0 h1
            simp [Instr.indexAt, ei, asIntOf, run_underlying hund, hxv, Instr.sureAddr, h0, h1, run_sizeOf (hT _ _ hte), Addr.add_none]
          split at h
          · rename_i k
            obtain ⟨kk', hk⟩ := hkc k rfl
            cases hkn : Nat.blt k n with
            | false => rw [hkn] at h; simp [bad] at h
            | true =>
              rw [hkn] at h
              cases hsz : Nat.blt 0 te.size with
              | false => rw [hsz] at h; simp [bad] at h
              | true =>
                rw [hsz] at h
                simp only [cond_true] at h
                have hzk : z = (k : Int) := by
                  rw [ei] at hk
                  simp only [Value.int.injEq] at hk
                  exact hk.2
                have hkn' : k < n := by simp [Nat.blt] at hkn; omega
                have hzt : z.toNat = k := by omega
                split at h
                · rename_i c o
                  cases h
                  simp only [SV.rel] at hx
                  obtain ⟨l, b, h1, h2, h3⟩ := hx
                  refine ⟨_, ?_, key b o h3 (by omega) (by omega)⟩
                  simp only [SV.rel, hzt]
                  exact ⟨l, b, h1, h2, rfl⟩
                · rename_i u y o
                  cases h
                  simp only [SV.rel] at hx
                  obtain ⟨b, o', us, h1, h2, h3⟩ := hx
                  refine ⟨_, ?_, key b (o' + o) h1 (by omega) (by omega)⟩
                  simp only [SV.rel, hzt]
                  exact ⟨b, o', us, by rw [Nat.add_assoc], h2, h3⟩
                · rename_i l o
                  cases h
                  simp only [SV.rel] at hx
                  obtain ⟨b, o', us, h1, h2, h3⟩ := hx
                  refine ⟨_, ?_, key b (o' + o) h1 (by omega) (by omega)⟩
                  simp only [SV.rel, hzt]
                  exact ⟨b, o', us, by rw [Nat.add_assoc], h2, h3⟩
                · rename_i c j o
                  cases h
                  simp only [SV.rel] at hx
                  obtain ⟨l, b, o', h1, h2, h3, h4⟩ := hx
                  refine ⟨_, ?_, key b _ h4 (by omega) (by omega)⟩
                  simp only [SV.rel, hzt]
                  exact ⟨l, b, o', h1, h2, h3, by rw [Nat.add_assoc]⟩
                · simp [bad] at h
          · split at h
            · rename_i c o
              cases hsz : Nat.beq te.size 1 with
              | false => rw [hsz] at h; simp [bad] at h
              | true =>
                rw [hsz] at h
                have hs1 := beq_nat hsz
                simp only [cond_true] at h
                split at h
                · rename_i h0
                  split at h
                  · rename_i h1
                    cases h
                    have h0' : 0 ≤ z := h0
                    have h1' : z < (n : Int) := h1
                    simp only [SV.rel] at hx
                    obtain ⟨l, b, q1, q2, q3⟩ := hx
                    refine ⟨_, ?_, key b o q3 h0' h1'⟩
                    simp only [SV.rel, hs1, Nat.mul_one]
                    exact ⟨l, b, q1, q2, by omega, rfl⟩
                  · cases h
                · cases h
            · rename_i u y o
              split at h
              · rename_i vt hvt
                split at h
                · rename_i ue hue
                  split at h
                  · rename_i a ha
                    cases hb : arrTy ue n vt with
                    | false => rw [hb] at h; simp [bad] at h
                    | true =>
                      rw [hb] at h
                      cases hsz : Nat.blt 0 te.size with
                      | false => rw [hsz] at h; simp [bad] at h
                      | true =>
                        rw [hsz] at h
                        simp only [cond_true] at h
                        split at h
                        · rename_i h0
                          split at h
                          · rename_i h1
                            cases h
                            have h0' : 0 ≤ z := h0
                            have h1' : z < (n : Int) := h1
                            simp only [SV.rel] at hx
                            obtain ⟨b, o', us, q1, q2, q3⟩ := hx
                            obtain ⟨p1, p2⟩ := proj_rel ha q2
                            obtain ⟨r1, r2⟩ := ix_rep (i := z.toNat) hb p1 (by omega)
                            have hw := ((hT _ _ hte).ty ue hue).1
                            have hus := Ty.rep_length q2
                            have hl1 := Ty.rep_length p1
                            refine ⟨_, ?_, key b (o' + o) q1 h0' h1'⟩
                            simp only [SV.rel, Nat.add_zero]
                            refine ⟨b, o' + o + z.toNat * te.size, _, rfl, r1, fun j hj => ?_⟩
                            rw [List.getElem?_take, if_pos hj, List.getElem?_drop, List.getElem?_take, if_pos (by omega), List.getElem?_drop, ← q3 _ (by omega), ← hw]
                            congr 1; omega
                          · cases h
                        · cases h
                  · simp [bad] at h
                · simp [bad] at h
              · simp [bad] at h
            · simp [bad] at h
        · simp [bad] at h
      · simp [bad] at h
    · simp [bad] at h
  · simp [bad] at h

theorem rd_ok (hT : TOk P T) {op : Op} {σ : Operand → SV} {cs : List Chunk} {v : SV} (h : exRd T op σ cs some = some v) : RdSem P op σ cs v := by
  intro bs m ls Bs w ρ o ho M hσ hcst
  unfold execOp
  rw [ho]
  unfold exRd at h
  split at h
  · cases h; exact ⟨_, hσ _, by simp⟩
  · cases h; exact ⟨_, hσ _, by simp⟩
  · -- pick
    rename_i c a b
    split at h
    · rename_i bc hbc
      have hc := SV.bc_rel hbc (hσ c)
      rw [BC.br_eq] at h
      simp only [hc, asBool]
      split at h <;> rename_i hv <;> cases h
      · exact ⟨_, hσ a, by simp [hv]⟩
      · exact ⟨_, hσ b, by simp [hv]⟩
    · simp [bad] at h
  · -- build
    rename_i t parts
    split at h
    · rename_i ti ht
      split at h
      · rename_i fs hfs
        cases hk : knownAll T fs with
        | false => rw [hk] at h; simp [bad] at h
        | true =>
          rw [hk] at h
          simp only [cond_true] at h
          split at h
          · rename_i cells hcells
            cases hb : Nat.beq (lenL ti.zero) ti.size with
            | false => rw [hb] at h; simp [bad] at h
            | true =>
              rw [hb] at h
              simp only [cond_true] at h
              obtain ⟨hv, hd⟩ := alive_some h
              have hti := hT _ _ ht
              obtain ⟨i, z, hi, hs, hby, hz, hzr, hzd, ha1, ha2⟩ := hti.info
              obtain ⟨d, hd1, hd2, hd3⟩ := hti.und
              rw [hfs] at hd3
              obtain ⟨fields, rfl, rfl⟩ := hd3
              obtain ⟨cs', e1, e2, e3⟩ := build_fill hT hσ (place := ((fields.toList.map fun f => (f.offset, match T.find f.type with | some ti => ti.size | none => 0)).toArray[·]?)) (fun i off ft ti hi hf => by
                rw [List.getElem?_map] at hi
                cases hfl : fields.toList[i]? with
                | none => rw [hfl] at hi; simp at hi
                | some fl =>
                  rw [hfl] at hi
                  simp only [Option.map_some, Option.some.injEq, Prod.mk.injEq] at hi
                  obtain ⟨rfl, rfl⟩ := hi
                  have hfl' : fields[i]? = some fl := by simpa using hfl
                  simp [hfl', hf]) parts.toList ti.zero cells z.cells hcells (hzr m ls)
              have hld := loaded_rel hti e2 hd
              have hagg : ti.d.agg = true := by rw [hfs]; rfl
              refine ⟨.agg cs', ?_, ?_⟩
              · have := hld.1
                rw [hv, hagg] at this
                simpa [valOf] using this
              · have hm := run_fieldsSizes (P := P) hT w fields.toList hk
                simp only [Instr.build, zeroValue, typeInfo, Sem.run_bind, run_program, Result.andThen_ok, hi, hz, Sem.run_pure, run_underlying hd1]
                rw [Array.mapM_eq_mapM_toList]
                simp only [Sem.run_map, Sem.run_bind]
                have e : (fun f : Field => (do let s ← Go.sizeOf f.type; pure (f.offset, s) : Sem (Nat × Nat))) = fun f => Prod.mk f.offset <$> Go.sizeOf f.type := by
                  funext f; simp
                rw [e, hm]
                simp only [Result.andThen_ok]
                have e4 : (Array.map (fun x => match x with | (i, x) => (i, ρ x)) parts).toList = parts.toList.map fun x => (x.1, ρ x.2) := by simp
                rw [e4, e1]
                simp
          · simp [bad] at h
      · rename_i n e hfs
        split at h
        · rename_i te hte
          split at h
          · rename_i cells hcells
            cases hb : Nat.beq (lenL ti.zero) ti.size with
            | false => rw [hb] at h; simp [bad] at h
            | true =>
              rw [hb] at h
              simp only [cond_true] at h
              obtain ⟨hv, hd⟩ := alive_some h
              have hti := hT _ _ ht
              obtain ⟨i, z, hi, hs, hby, hz, hzr, hzd, ha1, ha2⟩ := hti.info
              obtain ⟨d, hd1, hd2, hd3⟩ := hti.und
              rw [hfs] at hd3
              subst hd3
              obtain ⟨cs', e1, e2, e3⟩ := build_fill hT hσ (place := fun i => some (i * te.size, te.size)) (fun i off ft ti hi hf => by
                have hq := arrFs_some e te.size n 0 i _ hi
                simp only [Prod.mk.injEq, Nat.zero_add] at hq
                obtain ⟨rfl, rfl⟩ := hq
                rw [hte] at hf; cases hf; rfl) parts.toList ti.zero cells z.cells hcells (hzr m ls)
              have hld := loaded_rel hti e2 hd
              have hagg : ti.d.agg = true := by rw [hfs]; rfl
              refine ⟨.agg cs', ?_, ?_⟩
              · have := hld.1
                rw [hv, hagg] at this
                simpa [valOf] using this
              · simp only [Instr.build, zeroValue, typeInfo, Sem.run_bind, run_program, Result.andThen_ok, hi, hz, Sem.run_pure, run_underlying hd1, run_sizeOf (hT _ _ hte)]
                have e4 : (Array.map (fun x => match x with | (i, x) => (i, ρ x)) parts).toList = parts.toList.map fun x => (x.1, ρ x.2) := by simp
                rw [e4, e1]
                simp
          · simp [bad] at h
        · simp [bad] at h
      · simp [bad] at h
    · simp [bad] at h
  · -- load
    rename_i t a
    obtain ⟨rfl, hd⟩ := alive_some h
    have ha := hσ a
    unfold exLoad at hd ⊢
    split at hd
    · simp at hd
    · rename_i ti ht
      try rw [ht]
      try simp only
      have hti := hT _ _ ht
      have hw1 : ∀ u, ti.ty = some u → u.width = ti.size := fun u hu => (hti.ty u hu).1
      split at hd
      · -- a box
        rename_i c off hsa
        rw [hsa] at ha
        try rw [hsa]
        try simp only
        simp only [SV.rel] at ha
        obtain ⟨l, b, hl, hA, hv⟩ := ha
        split at hd
        · rename_i cells ty hc
          try rw [hc]
          try simp only
          simp only [nth_eq] at hc
          obtain ⟨l', B, hl', hB, hh⟩ := M.at hc
          rw [hl] at hl'; cases hl'
          simp only [Chunk.holds] at hh
          obtain ⟨g, cs', hA', rfl, hheap, hrel⟩ := hh
          rw [hA] at hA'; cases hA'
          rw [takeL_eq, dropL_eq] at hd ⊢
          obtain ⟨h1, h2⟩ := loaded_rel hti (SV.rels_take ti.size (SV.rels_drop off hrel)) hd
          refine ⟨_, h1, ?_⟩
          have := run_loadVar hti (b := b) (o := off) h2 (w := w) (fun j hj => by
            simp only [World.cell?, hheap, Option.isSome_none, Bool.false_eq_true, if_false, List.getElem?_take, List.getElem?_drop]
            rw [if_pos hj]; simp)
          simp [Instr.loadAt, Instr.sureAddr, hv, this]
        · simp at hd
      · -- data
        rename_i u x off hsa
        rw [hsa] at ha
        try rw [hsa]
        try simp only
        simp only [SV.rel] at ha
        obtain ⟨b, o, us, hv, hrep, hm⟩ := ha
        split at hd
        · rename_i ut hut
          (try rw [hut]); (try simp only)
          split at hd
          · rename_i y hy
            try rw [hy]
            obtain ⟨h1, h2⟩ := proj_rel hy hrep
            have hlen := Ty.rep_length h1
            have hul := Ty.rep_length hrep
            refine ⟨valOf ti.d.agg ((us.drop off).take ut.width), ?_, ?_⟩
            · simp only [SV.rel, (hti.ty ut hut).2, valOf]
              have hw : ti.d.agg = false → ut.width = 1 := fun hag => by rw [(hti.ty ut hut).1]; exact hti.one hag
              cases hag : ti.d.agg with
              | true => simp only [if_true]; exact ⟨_, rfl, by simpa using h1⟩
              | false =>
                simp only [Bool.false_eq_true, if_false]
                have hw := hw hag
                match hq : (us.drop off).take ut.width, hlen with
                | [q], _ => rw [hq] at h1; simpa using h1
                | [], hq2 => rw [hw] at hq2; simp at hq2
                | _ :: _ :: _, hq2 => rw [hw] at hq2; simp at hq2
            · have := run_loadVar hti (b := b) (o := o + off) (vs := (us.drop off).take ut.width) (by rw [hlen]; exact hw1 _ hut) (w := w) (fun j hj => by
                rw [← hw1 _ hut] at hj
                rw [List.getElem?_take, if_pos hj, List.getElem?_drop, ← hm (off + j) (by omega)]
                have hlt : off + j < us.length := by omega
                rw [hm (off + j) (by omega), List.getElem?_eq_getElem hlt]
                exact M.mle _ _ _ (by rw [Nat.add_assoc, hm (off + j) (by omega), List.getElem?_eq_getElem hlt]))
              simp [Instr.loadAt, Instr.sureAddr, hv, this]
          · simp at hd
        · simp at hd
      · -- told cells
        rename_i l off hsa
        rw [hsa] at ha
        try rw [hsa]
        try simp only
        simp only [SV.rel] at ha
        obtain ⟨b, o, us, hv, hrel, hm⟩ := ha
        rw [takeL_eq, dropL_eq] at hd ⊢
        obtain ⟨h1, h2⟩ := loaded_rel hti (SV.rels_take ti.size (SV.rels_drop off hrel)) hd
        have h3 := h2
        refine ⟨_, h1, ?_⟩
        have := run_loadVar hti (b := b) (o := o + off) (vs := (us.drop off).take ti.size) h3 (w := w) (fun j hj => by
          have hj2 : j < ((us.drop off).take ti.size).length := by rw [h3]; exact hj
          have hlt : off + j < us.length := by rw [List.length_take, List.length_drop] at hj2; omega
          rw [List.getElem?_take, if_pos hj, List.getElem?_drop, List.getElem?_eq_getElem hlt]
          exact M.mle _ _ _ (by rw [Nat.add_assoc, hm (off + j) hlt, List.getElem?_eq_getElem hlt]))
        simp [Instr.loadAt, Instr.sureAddr, hv, this]
      · -- an own element
        rename_i c i off hsa
        rw [hsa] at ha
        try rw [hsa]
        try simp only
        simp only [SV.rel] at ha
        obtain ⟨l, b, o, hl, hA, hil, hv⟩ := ha
        split at hd
        · rename_i u L hc
          try rw [hc]
          try simp only
          simp only [nth_eq] at hc
          obtain ⟨l', B, hl', hB, hh⟩ := M.at hc
          rw [hl] at hl'; cases hl'
          simp only [Chunk.holds] at hh
          obtain ⟨hw0, hlw, hll, hlc, hh⟩ := hh
          rcases hh with ⟨hn, _⟩ | ⟨g, o', cs', e, hA', rfl, hheap, hroom, helem⟩
          · omega
          · rw [hA] at hA'; cases hA'
            split at hd
            · rename_i ut hut
              (try rw [hut]); (try simp only)
              split at hd
              · rename_i y hy
                try rw [hy]
                have hi : i < List.length L := by omega
                obtain ⟨us, hrep, hm⟩ := helem i hi
                have hget : List.getD L i u.zero = List.get L ⟨i, hi⟩ := by simp [List.getD, hi]
                rw [hget] at hy
                obtain ⟨h1, h2⟩ := proj_rel hy hrep
                have hlen := Ty.rep_length h1
                have hul := Ty.rep_length hrep
                refine ⟨valOf ti.d.agg ((us.drop off).take ut.width), ?_, ?_⟩
                · simp only [SV.rel, (hti.ty ut hut).2, valOf]
                  have hw : ti.d.agg = false → ut.width = 1 := fun hag => by rw [(hti.ty ut hut).1]; exact hti.one hag
                  cases hag : ti.d.agg with
                  | true => simp only [if_true]; exact ⟨_, rfl, by simpa using h1⟩
                  | false =>
                    simp only [Bool.false_eq_true, if_false]
                    have hw := hw hag
                    match hq : (us.drop off).take ut.width, hlen with
                    | [q], _ => rw [hq] at h1; simpa using h1
                    | [], hq2 => rw [hw] at hq2; simp at hq2
                    | _ :: _ :: _, hq2 => rw [hw] at hq2; simp at hq2
                · have := run_loadVar hti (b := b) (o := o + i * l.w + off) (vs := (us.drop off).take ut.width) (by rw [hlen]; exact hw1 _ hut) (w := w) (fun j hj => by
                    rw [← hw1 _ hut] at hj
                    simp only [World.cell?, hheap, Option.isSome_none, Bool.false_eq_true, if_false]
                    rw [List.getElem?_take, if_pos hj, List.getElem?_drop, ← hm (off + j) (by omega)]
                    rw [hlw]; congr 1; omega)
                  simp [Instr.loadAt, Instr.sureAddr, hv, this]
              · simp at hd
            · simp at hd
        · simp at hd
      · -- an array's element in a box
        rename_i c off n k hsa
        rw [hsa] at ha
        try rw [hsa]
        try simp only
        simp only [SV.rel] at ha
        obtain ⟨l, b, hl, hA, hkn, hv⟩ := ha
        split at hd
        · rename_i cells ty hc
          try rw [hc]
          try simp only
          simp only [nth_eq] at hc
          obtain ⟨l', B, hl', hB, hh⟩ := M.at hc
          rw [hl] at hl'; cases hl'
          simp only [Chunk.holds] at hh
          obtain ⟨g, cs', hA', rfl, hheap, hrel⟩ := hh
          rw [hA] at hA'; cases hA'
          split at hd
          · rename_i u hu
            (try rw [hu]); (try simp only)
            cases hag : u.agg with
            | true => rw [hag] at hd; simp at hd
            | false =>
              rw [hag] at hd
              cases hle : Nat.ble (off + n) (lenL cells) with
              | false => rw [hle] at hd; simp at hd
              | true =>
                rw [hle] at hd
                simp only [cond_true, cond_false] at hd ⊢
                split at hd
                · rename_i xs hxs
                  (try rw [hxs]); (try simp only)
                  rw [takeL_eq, dropL_eq] at hxs
                  obtain ⟨h1, h2⟩ := cellsAs_rel hag hxs (SV.rels_take n (SV.rels_drop off hrel))
                  have hle' := Nat.le_of_ble_eq_true hle
                  have hlen2 := SV.rels_length hrel
                  rw [lenL_eq] at hle'
                  have hlen3 : cs'.size = cells.length := by rw [← Array.length_toList]; exact hlen2
                  have hk' : k < xs.length := by rw [h1]; simp; omega
                  obtain ⟨vk, e1, e2⟩ := h2 k hk'
                  have hw : u.width = 1 := by cases u <;> simp_all [Ty.agg, Ty.width]
                  refine ⟨vk, ?_, ?_⟩
                  · simp only [SV.rel, hag, Bool.false_eq_true, if_false]
                    have : xs.getD k u.zero = xs[k] := by simp [List.getD, hk']
                    rw [this]; exact e2
                  · have hti1 : ti.size = 1 := by rw [← hw1 u hu, hw]
                    have := run_loadVar hti (b := b) (o := off + k) (vs := [vk]) (by simp [hti1]) (w := w) (fun j hj => by
                      have hj0 : j = 0 := by omega
                      subst hj0
                      simp only [World.cell?, hheap, Option.isSome_none, Bool.false_eq_true, if_false, Nat.add_zero, List.getElem?_cons_zero]
                      rw [List.getElem?_take, if_pos hkn, List.getElem?_drop] at e1
                      rw [← Array.getElem?_toList]; exact e1)
                    have hda : ti.d.agg = false := by rw [← (hti.ty u hu).2]; exact hag
                    simp [Instr.loadAt, Instr.sureAddr, hv, this, valOf, hda]
                · simp at hd
          · simp at hd
        · simp at hd
      · simp at hd
  · -- binOp
    rename_i op t x y yt
    have hB : isBoolT T t = true → P.underlying t = some .bool := by
      intro hb
      unfold isBoolT at hb
      split at hb
      · rename_i ti ht
        split at hb
        · rename_i hd
          obtain ⟨d, h1, _, h3⟩ := (hT _ _ ht).und
          rw [hd] at h3; rw [h1, h3]
        · cases hb
      · cases hb
    split at h
    · rename_i u hu
      unfold eqTy at hu
      split at hu
      · rename_i ti ht
        split at hu
        · rename_i fs hd
          split at hu
          · rename_i u' hty
            cases hfl : u'.plain with
            | false => rw [hfl] at hu; cases hu
            | true =>
              rw [hfl] at hu
              cases hu
              obtain ⟨he, hg⟩ := (hT _ _ ht).eqs fs u hd hty hfl
              have hag : u.agg = true := by rw [((hT _ _ ht).ty u hty).2, hd]; rfl
              obtain ⟨v', h1, h2⟩ := rd_eqs (P := P) hag (plain_flat hfl) he hg h (hσ x) (hσ y) x y w
              refine ⟨v', h1, ?_⟩
              simp only [Sem.run_bind] at h2 ⊢
              rw [h2]; rfl
          · cases hu
        · cases hu
      · cases hu
    obtain ⟨v', h1, h2⟩ := rd_bin (P := P) hB h (hσ x) (hσ y) x y w
    refine ⟨v', h1, ?_⟩
    simp only [Sem.run_bind] at h2 ⊢
    rw [h2]; rfl
  · -- unOp
    rename_i op t x
    split at h
    · split at h
      · rename_i b hb
        cases h
        have := SV.bc_rel hb (hσ x)
        exact ⟨_, SV.mk_cb _, by simp [this, Op.unary, BC.val]⟩
      · simp [bad] at h
    · split at h
      · rename_i k a hk
        cases h
        have hx := hσ x
        rw [hk] at hx
        have := SV.int_rel hx
        exact ⟨_, SV.mk_int _ _, by simp [this, Op.unary, Op.intArith]⟩
      · simp [bad] at h
    · simp [bad] at h
  · -- convert
    rename_i s d x
    split at h
    · rename_i ti ts ht hts
      split at h
      · rename_i k hk
        split at h
        · rename_i k' a hx
          cases h
          have hx' := hσ x
          rw [hx] at hx'
          have e := SV.int_rel hx'
          obtain ⟨dd, h1, _, h3⟩ := (hT _ _ ht).und
          obtain ⟨ds, h4, _, _⟩ := (hT _ _ hts).und
          rw [hk] at h3
          subst h3
          refine ⟨.int k (k.wrap a), SV.mk_int _ _, ?_⟩
          simp [convert, run_underlying h1, run_underlying h4, e, Conv.intToInt]
        · simp [bad] at h
      · rename_i hk
        split at h
        · rename_i e hse
          split at h
          · rename_i te hte
            split at h
            · rename_i hu8
              split at h
              · rename_i L hL
                cases h
                obtain ⟨A, c, ex, hr⟩ := bytesOf_says M hL (hσ x)
                obtain ⟨dd, h1, _, h3⟩ := (hT _ _ ht).und
                obtain ⟨ds, h4, _, h5⟩ := (hT _ _ hts).und
                obtain ⟨de, h6, _, h7⟩ := (hT _ _ hte).und
                rw [hk] at h3
                rw [hse] at h5
                rw [hu8] at h7
                subst h3; subst h5; subst h7
                refine ⟨.string (strOf L), SV.mk_str _, ?_⟩
                simp only [ex, Sem.run_bind, conv_bytes w h4 h6 h1 (fun b o v h => h) hr, Result.andThen_ok, Sem.run_pure]
              · simp [bad] at h
            · simp [bad] at h
          · simp [bad] at h
        · simp [bad] at h
      · simp [bad] at h
    · simp [bad] at h
  · -- makeFunc
    rename_i f first caps
    split at h
    · rename_i f
      split at h
      · rename_i hf
        cases h
        refine ⟨.func (.func f) #[] (caps.map ρ), ?_, ?_⟩
        · simp only [SV.rel]
          refine ⟨_, rfl, ?_⟩
          simp only [Array.toList_map]
          generalize caps.toList = l
          induction l with
          | nil => simp only [List.map_nil, SV.rels]
          | cons a l ih => simp only [List.map_cons, SV.rels]; exact ⟨_, _, rfl, hσ a, ih⟩
        · have : first = #[] := by cases first; simp at hf; subst hf; rfl
          simp [Instr.makeFunc, this]
      · simp [bad] at h
    · simp [bad] at h
  · -- fieldAddr
    rename_i s x f
    split at h
    · rename_i off ft hf
      cases hz : zeroSize T ft with
      | true => rw [hz] at h; simp [bad] at h
      | false =>
        rw [hz] at h
        simp only [cond_false] at h
        obtain ⟨fields, fl, hund, hfl, hoff, hft⟩ := fieldAt_some hT hf
        have hplace : ∀ b o, (fieldPlace ⟨b, o, none⟩ fl).run P w = .ok ⟨b, o + off, none⟩ w := by
          intro b o
          unfold zeroSize at hz
          split at hz
          · rename_i ti ht
            have hne : ti.size ≠ 0 := by intro e; rw [e] at hz; simp at hz
            have := run_sizeOf (P := P) (hT _ _ ht) w
            rw [hft.symm] at this
            simp [fieldPlace, this, hne, Addr.add_none, hoff]
          · cases hz
        have hx := hσ x
        split at h
        · rename_i c o' hs
          cases h
          rw [hs] at hx
          simp only [SV.rel] at hx ⊢
          obtain ⟨l, b, h1, h2, h3⟩ := hx
          exact ⟨_, ⟨l, b, h1, h2, rfl⟩, by simp [Instr.fieldAt, run_underlying hund, hfl, h3, Instr.sureAddr, hplace]⟩
        · rename_i u y o' hs
          cases h
          rw [hs] at hx
          simp only [SV.rel] at hx ⊢
          obtain ⟨b, o, us, h1, h2, h3⟩ := hx
          exact ⟨_, ⟨b, o, us, rfl, h2, h3⟩, by simp [Instr.fieldAt, run_underlying hund, hfl, h1, Instr.sureAddr, hplace, Nat.add_assoc]⟩
        · rename_i l o' hs
          cases h
          rw [hs] at hx
          simp only [SV.rel] at hx ⊢
          obtain ⟨b, o, us, h1, h2, h3⟩ := hx
          exact ⟨_, ⟨b, o, us, rfl, h2, h3⟩, by simp [Instr.fieldAt, run_underlying hund, hfl, h1, Instr.sureAddr, hplace, Nat.add_assoc]⟩
        · rename_i c i o' hs
          cases h
          rw [hs] at hx
          simp only [SV.rel] at hx ⊢
          obtain ⟨l, b, o, h1, h2, h3, h4⟩ := hx
          exact ⟨_, ⟨l, b, o, h1, h2, h3, rfl⟩, by simp [Instr.fieldAt, run_underlying hund, hfl, h4, Instr.sureAddr, hplace, Nat.add_assoc]⟩
        · simp [bad] at h
    · simp [bad] at h
  · -- field
    rename_i s x f
    split at h
    · rename_i off ft hf
      split at h
      · rename_i ti ht
        cases hs : (σ x).isAgg with
        | false => rw [hs] at h; simp [bad] at h
        | true =>
          rw [hs] at h
          simp only [cond_true] at h
          obtain ⟨rfl, hd⟩ := alive_some h
          obtain ⟨fields, fl, hund, hfl, hoff, hft⟩ := fieldAt_some hT hf
          have hx := hσ x
          obtain ⟨cs', e1, e2⟩ : ∃ cs', ρ x = .agg cs' ∧ SV.rels m ls (σ x).cells cs'.toList := by
            cases hq : σ x with
            | p t y =>
              rw [hq] at hx hs
              simp only [SV.isAgg] at hs
              simp only [SV.rel, hs, if_true] at hx
              obtain ⟨cs', e1, e2⟩ := hx
              exact ⟨cs', e1, Ty.cells_rel e2⟩
            | agg l =>
              rw [hq] at hx
              simp only [SV.rel] at hx
              obtain ⟨cs', e1, e2⟩ := hx
              exact ⟨cs', e1, e2⟩
            | _ => rw [hq] at hs; simp [SV.isAgg] at hs
          rw [takeL_eq, dropL_eq] at hd ⊢
          obtain ⟨h1, h2⟩ := loaded_rel (hT _ _ ht) (SV.rels_take ti.size (SV.rels_drop off e2)) hd
          refine ⟨_, h1, ?_⟩
          simp only [Instr.field, Sem.run_bind, run_underlying hund, Result.andThen_ok, hfl, e1, asAgg, Sem.run_pure, part, hft, run_isAgg (hT _ _ ht), hoff]
          cases hag : ti.d.agg with
          | true =>
            simp only [if_true, Sem.run_bind, run_sizeOf (hT _ _ ht), Result.andThen_ok, Sem.run_pure, valOf]
            congr 3
            apply Array.ext'
            simp [List.drop_take]
          | false =>
            have h1s := (hT _ _ ht).one hag
            rw [h1s] at h2 ⊢
            have hlt : off < cs'.size := by
              rcases Nat.lt_or_ge off cs'.size with h' | h'
              · exact h'
              · rw [List.drop_of_length_le (by simpa using h')] at h2; simp at h2
            have hg : cs'[off]? = some cs'[off] := Array.getElem?_eq_getElem hlt
            simp only [Bool.false_eq_true, if_false, hg, Sem.run_pure, Result.andThen_ok, valOf]
            congr 2
            have : (cs'.toList.drop off).take 1 = [cs'[off]] := by
              rw [List.drop_eq_getElem_cons (by simpa using hlt)]; simp
            rw [this]; rfl
      · simp [bad] at h
    · simp [bad] at h
  · -- indexAddr
    rename_i t x i
    split at h
    · rename_i sz hsz
      unfold exIndexAddr at h
      split at h
      · rename_i k iv hi
        obtain ⟨z, hz⟩ : ∃ z : Int, z = iv := ⟨iv, rfl⟩
        subst hz
        have hi' := hσ i
        rw [hi] at hi'
        have ei := SV.int_rel hi'
        obtain ⟨e, hund, he⟩ : ∃ e, P.underlying t = some (.slice e) ∧ ∀ w, (Go.sizeOf e).run P w = .ok sz w := by
          unfold elemSize at hsz
          split at hsz
          · rename_i ti ht
            split at hsz
            · rename_i e hd
              split at hsz
              · rename_i te hte
                cases hsz
                obtain ⟨d, h1, _, h3⟩ := (hT _ _ ht).und
                rw [hd] at h3
                subst h3
                exact ⟨e, h1, fun w => run_sizeOf (hT _ _ hte) w⟩
              · cases hsz
            · cases hsz
          · cases hsz
        have hx := hσ x
        -- reading data
        have data : ∀ (u : Ty) (L : List u.den) (q : Nat), (bif Nat.beq sz u.width then if 0 ≤ z then if z < (L.length : Int) then some (SV.rp u (rd u.zero L z) 0) else none else none else bad q) = some v →
            ∀ A c, (Ty.slice u).rep m L [.slice A L.length c] → ρ x = .slice A L.length c → ∃ v', v.rel m ls v' ∧ (do let r ← Instr.indexAt t (ρ x) (ρ i); pure (Next.value r) : Sem Next).run P w = .ok (.value v') w := by
          intro u L q hq A c hrep hρ
          cases hb : Nat.beq sz u.width with
          | false => rw [hb] at hq; simp [bad] at hq
          | true =>
            rw [hb] at hq
            have hbw := beq_nat hb
            simp only [cond_true] at hq
            split at hq
            · rename_i h0
              split at hq
              · rename_i hlt
                cases hq
                simp only [Ty.rep] at hrep
                obtain ⟨A', c', e1, e2, e3⟩ := hrep
                simp only [List.cons.injEq, Value.slice.injEq, and_true] at e1
                obtain ⟨rfl, _, rfl⟩ := e1
                have h0' : (0 : Int) ≤ z := h0
                have hlt' : z < (L.length : Int) := hlt
                have hn : Int.toNat z < L.length := by omega
                obtain ⟨b, o, rfl, hall⟩ := e3 (by omega)
                obtain ⟨us, r1, r2⟩ := hall z.toNat hn
                have hget : rd u.zero L z = List.get L ⟨z.toNat, hn⟩ := by simp [rd, List.getD, hn]
                refine ⟨.pointer (some ⟨b, o + z.toNat * u.width + 0, none⟩), ?_, ?_⟩
                · simp only [SV.rel]
                  exact ⟨b, o + z.toNat * u.width, us, rfl, by rw [hget]; exact r1, r2⟩
                · simp [Instr.indexAt, ei, asIntOf, run_underlying hund, hρ, h0, hlt, he, Addr.add_none, hbw]
              · cases hq
            · cases hq
        split at h
        · rename_i u L hs
          rw [hs] at hx
          have hx' := hx
          simp only [SV.rel, Ty.agg, Bool.false_eq_true, if_false] at hx
          have hx2 := hx
          simp only [Ty.rep] at hx
          obtain ⟨A, c, e1, e2, e3⟩ := hx
          simp only [List.cons.injEq, and_true] at e1
          rw [e1] at hx2
          obtain ⟨v', q1, q2⟩ := data u L 70 h A c hx2 e1
          exact ⟨v', q1, q2⟩
        · rename_i c hs
          rw [hs] at hx
          simp only [SV.rel] at hx
          obtain ⟨l, hl, hv⟩ := hx
          split at h
          · -- own
            rename_i u L hc
            simp only [nth_eq] at hc
            obtain ⟨l', B, hl', hB, hh⟩ := M.at hc
            rw [hl] at hl'; cases hl'
            simp only [Chunk.holds] at hh
            obtain ⟨hw0, hlw, hll, hlc, hh⟩ := hh
            cases hb : Nat.beq sz u.width with
            | false => rw [hb] at h; simp [bad] at h
            | true =>
              rw [hb] at h
              have hbw := beq_nat hb
              simp only [cond_true] at h
              split at h
              · rename_i h0
                split at h
                · rename_i hlt
                  cases h
                  have h0' : (0 : Int) ≤ z := h0
                  have hlt' : z < (List.length L : Int) := hlt
                  rcases hh with ⟨hc0, _⟩ | ⟨g, o, cs', e', hA', rfl, hheap, hroom, helem⟩
                  · omega
                  · refine ⟨.pointer (some ⟨g, o + z.toNat * l.w + 0, none⟩), ?_, ?_⟩
                    · simp only [SV.rel]
                      exact ⟨l, g, o, hl, hA', by show Int.toNat z < l.len; omega, rfl⟩
                    · have : z < (l.len : Int) := by omega
                      simp [Instr.indexAt, ei, asIntOf, run_underlying hund, hv, hA', h0, this, he, Addr.add_none, hbw, hlw]
                · cases h
              · cases h
          · -- frozen
            rename_i u L hc
            simp only [nth_eq] at hc
            obtain ⟨l', B, hl', hB, hh⟩ := M.at hc
            rw [hl] at hl'; cases hl'
            simp only [Chunk.holds] at hh
            have hlen : l.len = List.length L := by
              have := hh.2.2
              simp only [Ty.rep] at this
              obtain ⟨A, c, e1, _⟩ := this
              simp at e1; exact e1.2.1
            obtain ⟨v', q1, q2⟩ := data u L 72 h l.A l.cap (by rw [← hlen]; exact hh.2.2) (by rw [← hlen]; exact hv)
            exact ⟨v', q1, q2⟩
          · simp [bad] at h
        · -- a part of an own one
          rename_i c lo n hs
          rw [hs] at hx
          simp only [SV.rel] at hx
          obtain ⟨l, A0, hl, hlo, hv, hA0⟩ := hx
          split at h
          · rename_i u L hc
            simp only [nth_eq] at hc
            obtain ⟨l', B, hl', hB, hh⟩ := M.at hc
            rw [hl] at hl'; cases hl'
            simp only [Chunk.holds] at hh
            obtain ⟨hw0, hlw, hll, hlc, hh⟩ := hh
            cases hb : Nat.beq sz u.width with
            | false => rw [hb] at h; simp [bad] at h
            | true =>
              rw [hb] at h
              have hbw := beq_nat hb
              simp only [cond_true] at h
              split at h
              · rename_i h0
                split at h
                · rename_i hlt
                  cases h
                  have h0' : (0 : Int) ≤ z := h0
                  have hlt' : z < (n : Int) := hlt
                  rcases hh with ⟨hc0, _⟩ | ⟨g, o, cs', e', hA', rfl, hheap, hroom, helem⟩
                  · omega
                  · have hA1 := hA0 (by omega)
                    rw [hA'] at hA1
                    simp only [Option.map_some, Addr.add_none] at hA1
                    refine ⟨.pointer (some ⟨g, o + (lo + z.toNat) * l.w + 0, none⟩), ?_, ?_⟩
                    · simp only [SV.rel]
                      exact ⟨l, g, o, hl, hA', by show lo + Int.toNat z < l.len; omega, rfl⟩
                    · simp [Instr.indexAt, ei, asIntOf, run_underlying hund, hv, hA1, h0, hlt, he, Addr.add_none, hbw, hlw, Nat.add_mul, Nat.add_assoc]
                · cases h
              · cases h
          · simp [bad] at h
        · simp [bad] at h
      · simp [bad] at h
    · obtain ⟨v', h1, h2⟩ := arrAddr_ok (w := w) hT h (hσ x) (hσ i) (fun k hk => by
        obtain ⟨kk, rfl⟩ := constNat_some hk
        exact ⟨kk, hcst _⟩)
      exact ⟨v', h1, by simp only [Sem.run_bind, h2, Result.andThen_ok, Sem.run_pure]⟩
  · -- extract
    rename_i x i
    split at h
    · rename_i l hs
      have hx := hσ x
      rw [hs] at hx
      simp only [SV.rel] at hx
      obtain ⟨vs, h1, h2⟩ := hx
      split at h
      · rename_i u hu
        cases h
        rw [nth_eq] at hu
        obtain ⟨q, h3, h4⟩ := SV.rels_nth h2 hu
        have h3' : vs[i]? = some q := by simpa using h3
        exact ⟨q, h4, by simp [Instr.extract, h1, h3']⟩
      · simp [bad] at h
    · simp [bad] at h
  · -- nilCheck
    rename_i x
    have hx := hσ x
    split at h
    · rename_i c o' hs
      cases h
      rw [hs] at hx
      have hx' := hx
      simp only [SV.rel] at hx
      obtain ⟨l, b, h1, h2, h3⟩ := hx
      exact ⟨_, hx', by simp [h3]⟩
    · rename_i u y o' hs
      cases h
      rw [hs] at hx
      have hx' := hx
      simp only [SV.rel] at hx
      obtain ⟨b, o, us, h1, h2, h3⟩ := hx
      exact ⟨_, hx', by simp [h1]⟩
    · rename_i l o' hs
      cases h
      rw [hs] at hx
      have hx' := hx
      simp only [SV.rel] at hx
      obtain ⟨b, o, us, h1, h2, h3⟩ := hx
      exact ⟨_, hx', by simp [h1]⟩
    · simp [bad] at h
  · -- builtins
    rename_i c
    split at h
    · rename_i b hcal
      split at h
      · -- len
        split at h
        · rename_i x hargs
          split at h
          · rename_i t hts
            have hA : c.args.map ρ = #[ρ x] := by
              apply Array.ext'; simp [hargs]
            have hTs : c.argTypes = #[t] := by
              apply Array.ext'; simpa using hts
            have key : ∀ {v'}, (Builtin.len_ #[t] o.type #[ρ x]).run P w = .ok v' w → (do let d ← resolve ρ c o.type; invoke d.target d.args : Sem Next).run P w = .ok (.value v') w := by
              intro v' hv
              simp [resolve, hcal, hA, hTs, invoke, builtin, hv]
            have hx := hσ x
            split at h
            · rename_i ti ht
              obtain ⟨d, hd1, _, hd3⟩ := (hT _ _ ht).und
              split at h
              · rename_i e he
                rw [he] at hd3
                obtain ⟨rfl, hd⟩ := alive_some h
                have slen : ∀ A n cp, ρ x = .slice A n cp → (Builtin.len_ #[t] o.type #[ρ x]).run P w = .ok (.int .i64 (n : Int)) w := by
                  intro A n cp e
                  simp [Builtin.len_, run_underlying hd1, hd3, e, goInt]
                cases hs : σ x with
                | p u y =>
                  rw [hs] at hx hd
                  cases u with
                  | slice u =>
                    simp only [exLen, cond_false] at hd ⊢
                    simp only [SV.rel, Ty.agg, Bool.false_eq_true, if_false, Ty.rep] at hx
                    obtain ⟨A, cp, e1, _⟩ := hx
                    simp only [List.cons.injEq, and_true] at e1
                    exact ⟨_, SV.mk_int _ _, key (slen A _ cp e1)⟩
                  | _ => simp [exLen] at hd
                | nils =>
                  rw [hs] at hx
                  simp only [SV.rel] at hx
                  simp only [exLen, cond_false]
                  exact ⟨_, SV.mk_int _ _, key (slen _ _ _ hx)⟩
                | own cc =>
                  rw [hs] at hx hd
                  simp only [SV.rel] at hx
                  obtain ⟨l, hl, hv⟩ := hx
                  simp only [exLen, cond_false, nth_eq] at hd ⊢
                  split at hd
                  · rename_i u L hc
                    try rw [hc]
                    obtain ⟨l', B, hl', hB, hh⟩ := M.at hc
                    rw [hl] at hl'; cases hl'
                    simp only [Chunk.holds] at hh
                    refine ⟨_, SV.mk_int _ _, key ?_⟩
                    rw [slen _ _ _ hv, hh.2.2.1]
                  · rename_i u L hc
                    try rw [hc]
                    obtain ⟨l', B, hl', hB, hh⟩ := M.at hc
                    rw [hl] at hl'; cases hl'
                    simp only [Chunk.holds, Ty.rep] at hh
                    obtain ⟨_, _, A, cp, e1, _⟩ := hh
                    simp only [List.cons.injEq, and_true, Value.slice.injEq] at e1
                    refine ⟨_, SV.mk_int _ _, key ?_⟩
                    rw [slen _ _ _ hv, e1.2.1]
                  · simp at hd
                | sub cc lo n =>
                  rw [hs] at hx
                  simp only [SV.rel] at hx
                  obtain ⟨l, A, hl, _, hv, _⟩ := hx
                  simp only [exLen, cond_false]
                  exact ⟨_, SV.mk_int _ _, key (slen _ _ _ hv)⟩
                | pf u L =>
                  rw [hs] at hx
                  simp only [SV.rel] at hx
                  obtain ⟨A, hv, _⟩ := hx
                  simp only [exLen, cond_false]
                  exact ⟨_, SV.mk_int _ _, key (slen _ _ _ hv)⟩
                | _ => rw [hs] at hd; simp [exLen] at hd
              · rename_i he
                rw [he] at hd3
                obtain ⟨rfl, hd⟩ := alive_some h
                cases hs : σ x with
                | p u y =>
                  rw [hs] at hx hd
                  cases u with
                  | str =>
                    simp only [exLen, cond_true] at hd ⊢
                    have e := SV.str_rel hx
                    refine ⟨_, SV.mk_int _ _, key ?_⟩
                    simp [Builtin.len_, run_underlying hd1, hd3, e, goInt]
                  | _ => simp [exLen] at hd
                | own cc => rw [hs] at hd; simp [exLen] at hd
                | nils => rw [hs] at hd; simp [exLen] at hd
                | sub cc lo n => rw [hs] at hd; simp [exLen] at hd
                | pf u L => rw [hs] at hd; simp [exLen] at hd
                | _ => rw [hs] at hd; simp [exLen] at hd
              · rename_i k e u he
                rw [he] at hd3
                obtain ⟨rfl, hd⟩ := alive_some h
                cases hs : σ x with
                | map cc =>
                  rw [hs] at hx hd
                  simp only [SV.rel] at hx
                  obtain ⟨l, b, hl, hA, hv⟩ := hx
                  simp only [mapLen, nth_eq] at hd ⊢
                  split at hd
                  · rename_i ku vu L hc
                    try rw [hc]
                    obtain ⟨l', B, hl', hB, hh⟩ := M.at hc
                    rw [hl] at hl'; cases hl'
                    simp only [Chunk.holds] at hh
                    obtain ⟨g, es, clock, hA', rfl, hheap, hes, _⟩ := hh
                    rw [hA] at hA'; cases hA'
                    refine ⟨_, SV.mk_int _ _, key ?_⟩
                    have : (getObj b).run P w = .ok (.map es clock) w := run_getObj_some hheap
                    simp [Builtin.len_, run_underlying hd1, hd3.1, hv, goInt, this, hes]
                  · simp at hd
                | _ => rw [hs] at hd; simp [mapLen] at hd
              · simp [bad] at h
            · simp [bad] at h
          · simp [bad] at h
        · simp [bad] at h
      · -- min
        split at h
        · rename_i k a k' b hargs
          cases h
          obtain ⟨x, y, hxy, hx, hy⟩ : ∃ x y, c.args.toList = [x, y] ∧ σ x = .p (.int k) a ∧ σ y = .p (.int k') b := by
            exact map_two hargs
          have hA : c.args.map ρ = #[ρ x, ρ y] := by
            apply Array.ext'; simp [hxy]
          have ex := hσ x
          have ey := hσ y
          rw [hx] at ex
          rw [hy] at ey
          have ex := SV.int_rel ex
          have ey := SV.int_rel ey
          refine ⟨_, SV.mk_int _ _, ?_⟩
          simp [resolve, hcal, hA, invoke, builtin, Builtin.min_, Builtin.min2, ex, ey]
        · simp [bad] at h
      · -- max
        split at h
        · rename_i k a k' b hargs
          cases h
          obtain ⟨x, y, hxy, hx, hy⟩ : ∃ x y, c.args.toList = [x, y] ∧ σ x = .p (.int k) a ∧ σ y = .p (.int k') b := by
            exact map_two hargs
          have hA : c.args.map ρ = #[ρ x, ρ y] := by
            apply Array.ext'; simp [hxy]
          have ex := hσ x
          have ey := hσ y
          rw [hx] at ex
          rw [hy] at ey
          have ex := SV.int_rel ex
          have ey := SV.int_rel ey
          refine ⟨_, SV.mk_int _ _, ?_⟩
          simp [resolve, hcal, hA, invoke, builtin, Builtin.max_, Builtin.max2, ex, ey]
        · simp [bad] at h
      · -- cap
        split at h
        · rename_i x hargs
          split at h
          · rename_i t hts
            cases hno : noInt T t with
            | false => rw [hno] at h; simp [bad] at h
            | true =>
              rw [hno] at h
              simp only [cond_true] at h
              obtain ⟨x', hx', rfl⟩ := map_one hargs
              have hA : c.args.map ρ = #[ρ x'] := by
                apply Array.ext'; simp [hx']
              have hTs : c.argTypes = #[t] := by
                apply Array.ext'; simpa using hts
              obtain ⟨e, hund⟩ := noInt_some hT hno
              have key : ∀ {A n cp}, ρ x' = .slice A n cp → (do let d ← resolve ρ c o.type; invoke d.target d.args : Sem Next).run P w = .ok (.value (.int .i64 (cp : Int))) w := by
                intro A n cp e
                simp [resolve, hcal, hA, hTs, invoke, builtin, Builtin.cap_, e, run_underlying hund, goInt]
              have hx := hσ x'
              unfold exCap at h
              split at h
              · rename_i hs
                rw [hs] at hx
                simp only [SV.rel] at hx
                cases h
                exact ⟨_, SV.mk_int _ _, key hx⟩
              · rename_i u L hs
                rw [hs] at hx
                simp only [SV.rel] at hx
                obtain ⟨A, hv, _⟩ := hx
                cases h
                exact ⟨_, SV.mk_int _ _, key hv⟩
              · simp [bad] at h
          · simp [bad] at h
        · simp [bad] at h
      · simp [bad] at h
    · simp [bad] at h
  · -- slice
    rename_i t x lo hi mx
    split at h
    · rename_i sz hsz
      split at h
      · exact slice_ok hT hsz M h (hσ x) (fun y => hσ y)
      · rename_i mx
        split at h
        · rename_i hi
          exact slice3_ok hT hsz (fun hz => by
            obtain ⟨_, k, k', rfl, rfl⟩ := zeroPart_some hz
            exact ⟨⟨k, hcst _⟩, ⟨k', hcst _⟩⟩) h hσ
        · simp [bad] at h
    · exact strSlice_ok hT h hσ
  · -- index
    rename_i t x i
    obtain ⟨v', h1, h2⟩ := index_ok (w := w) hT h (hσ x) (hσ i) (fun k hk => by
      obtain ⟨kk, rfl⟩ := constNat_some hk
      exact ⟨kk, hcst _⟩)
    exact ⟨v', h1, by simp only [Sem.run_bind, h2, Result.andThen_ok, Sem.run_pure]⟩
  · -- lookup
    rename_i t x i ok
    obtain ⟨v', h1, h2⟩ := lookup_ok hT M h (hσ x) (hσ i)
    exact ⟨v', h1, by simp only [Sem.run_bind, h2, Result.andThen_ok, Sem.run_pure]⟩
  · simp [bad] at h
end
end Go.Proofs.YtfkilmmldjajmaaSx
