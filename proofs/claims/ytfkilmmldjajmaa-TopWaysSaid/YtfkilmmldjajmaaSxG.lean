/- A region's trace, and each of its orders. -/
import Derived.Test.YtfkilmmldjajmaaSxF
namespace Go.Proofs.YtfkilmmldjajmaaSx
open Go
set_option linter.unusedVariables false
set_option linter.unusedSimpArgs false

/-- What is done at each place. -/
structure Trd where
  v : Nat → SV
  C : Nat → List Chunk
  σ : Nat → Operand → SV
  ran : Nat → Bool
  wr : Nat → Bool
  z : Nat → List Nat
  E : Nat → Nat → SV

def updE (n : Nat) (E : Nat → SV) (d : Option Nat) (v : SV) : Nat → SV := fun t => if d = some t ∧ t < n then v else E t

def Imp (E : Nat → SV) (st : St) : Prop := ∀ t m ls v, (E t).rel m ls v → (st.get t).rel m ls v

/-- A maker's step: a new block and a new chunk, whatever memory holds. -/
structure MakerIs (P : Program) (op : Op) (σ : Operand → SV) (C : List Chunk) (v : SV) (C' : List Chunk) (z : List Nat) (c : Chunk) (mk : Nat → Value) (lo : Nat → Loc) : Prop where
  noz : z = []
  more : C' = C ++ [c]
  rel : ∀ m (ls : List Loc) g, ls[C.length]? = some (lo g) → v.rel m ls (mk g)
  run : ∀ (ρ : Operand → Value) (o : Oper) w (m : Mm) (ls : List Loc), o.op = op → (∀ x, (σ x).rel m ls (ρ x)) → (∀ b o v, m b o = some v → w.cell? ⟨b, o, none⟩ = some v) →
    ∃ obj, (execOp ρ o).run P w = .ok (.value (mk w.heap.size)) (w.alloc obj) ∧ ∀ ls' g (w' : World), w'.heap[g]? = some obj → c.holds m ls' w' (lo g) [g]

structure StepAt (P : Program) (T : TT) (n : Nat) (all : List Oper) (D : Trd) (log : List Log) (j : Nat) (o : Oper) : Prop where
  op : all[j]? = some o
  e : D.E (j + 1) = updE n (D.E j) o.dst (D.v j)
  guard : (o.guard = none ∧ D.ran j = true) ∨ (∃ g want d og, o.guard = some (g, want) ∧ all[g]? = some og ∧ og.dst = some d ∧ D.ran j = false ∧ ∀ m ls v, (D.E j d).rel m ls v → v = undef) ∨ ∃ g want d og, o.guard = some (g, want) ∧ all[g]? = some og ∧ og.dst = some d ∧
    ∀ m ls v, (D.E j d).rel m ls v → v = .bool (if D.ran j = true then want else !want)
  looks : D.ran j = true → ∀ x, ∀ m ls (a : Act), (∀ t, x = .tmp t → x ∈ uses o.op → (D.E j t).rel m ls (a.eval (.tmp t))) → (D.σ j x).rel m ls (a.eval x)
  skip : D.ran j = false → D.v j = .tup [] ∧ D.C (j + 1) = D.C j ∧ D.wr j = false
  read : D.ran j = true → D.wr j = false → exRd T o.op (D.σ j) (D.C j) some = some (D.v j) ∧ D.C (j + 1) = D.C j ∧
    (⟨j, false, foot o.op (D.σ j), (D.C j).length⟩ : Log) ∈ log
  write : D.wr j = true → WrSem P o.op (D.σ j) (D.C j) (D.v j) (D.C (j + 1)) (D.z j) ∧ (⟨j, true, D.z j, mkFlag T (D.σ j) o.op⟩ : Log) ∈ log ∧ (mkFlag T (D.σ j) o.op = 1 → ∃ c mk lo, MakerIs P o.op (D.σ j) (D.C j) (D.v j) (D.C (j + 1)) (D.z j) c mk lo)

section
variable {P : Program} {T : TT} {R : Type} {env : Nat → List SV → List Chunk → KT R → Option R}

theorem assoc_cons {t : Nat} {v : SV} {l : List (Nat × SV)} (u : Nat) : assoc u ((t, v) :: l) = if t = u then some v else assoc u l := by
  simp only [assoc]
  by_cases h : t = u
  · subst h; simp [Nat.beq_refl]
  · rw [if_neg h]
    have : Nat.beq t u = false := by
      cases hb : Nat.beq t u with
      | true => exact absurd (beq_nat hb) h
      | false => rfl
    rw [this]; rfl

theorem get_put (st : St) (t u : Nat) (v : SV) : (st.put t v).get u = if t = u then v else st.get u := by
  unfold St.put St.get
  simp only [assoc_cons]
  by_cases h : t = u <;> simp [h]

theorem get_cs (sl : List (Nat × SV)) (cs cs' : List Chunk) (u : Nat) : St.get ⟨sl, cs⟩ u = St.get ⟨sl, cs'⟩ u := rfl

theorem get_putO (n : Nat) (st : St) (d : Option Nat) (v : SV) (u : Nat) : (St.putO n st d v).get u = if d = some u ∧ u < n then v else st.get u := by
  cases d with
  | none => simp [St.putO]
  | some t =>
    simp only [St.putO]
    cases hb : Nat.blt t n with
    | true =>
      have hlt : t < n := by simp [Nat.blt] at hb; omega
      simp only [cond_true, get_put, Option.some.injEq]
      by_cases h : t = u
      · subst h; simp [hlt]
      · simp [h]
    | false =>
      have hge : ¬ t < n := fun h => by
        have : Nat.blt t n = true := by simp [Nat.blt]; omega
        rw [this] at hb; cases hb
      simp only [cond_false, Option.some.injEq]
      split
      · rename_i h; exact absurd (h.1 ▸ h.2) hge
      · rfl

theorem chunks_putO (n : Nat) (st : St) (d : Option Nat) (v : SV) : (St.putO n st d v).chunks = st.chunks := by
  cases d with
  | none => rfl
  | some t => simp only [St.putO]; cases Nat.blt t n <;> rfl

theorem Imp.putO {n : Nat} {E : Nat → SV} {st : St} (h : Imp E st) (d : Option Nat) (v : SV) (cs : List Chunk) : Imp (updE n E d v) (St.putO n ⟨st.slots, cs⟩ d v) := by
  intro t m ls u hu
  rw [get_putO]
  unfold updE at hu
  split at hu <;> rename_i hc
  · rw [if_pos hc]; exact hu
  · rw [if_neg hc]; exact h t m ls u hu

theorem SV.ofConst_rel (m : Mm) (ls : List Loc) (v : Value) : (SV.ofConst v).rel m ls v := by
  unfold SV.ofConst
  split
  · simp [SV.rel, BC.val]
  · simp [SV.rel, BC.val]
  · exact SV.mk_int _ _
  · exact SV.mk_str _
  · rename_i n c
    cases hb : Nat.beq (n + c) 0 with
    | true =>
      have := beq_nat hb
      have h1 : n = 0 := by omega
      have h2 : c = 0 := by omega
      subst h1; subst h2
      simp [SV.rel]
    | false => simp [SV.rel]
  · simp [SV.rel, Value.oneC]
  · simp [SV.rel, Value.oneC]
  · simp [SV.rel, Value.oneC]
  · simp [SV.rel]

theorem opnd_rel {m : Mm} {ls : List Loc} {st : St} {a : Act} (x : Operand) (h : ∀ t, x = .tmp t → (st.get t).rel m ls (a.eval (.tmp t))) : (opnd st x).rel m ls (a.eval x) := by
  cases x with
  | tmp t => exact h t rfl
  | const v => exact SV.ofConst_rel m ls v
  | func f => simp only [opnd, SV.rel, Act.eval]; exact ⟨#[], rfl, by simp only [SV.rels]⟩
  | global g => simp only [opnd, SV.rel]

open Classical in
noncomputable def sig (st : St) (op : Op) : Operand → SV := fun x => if x ∈ uses op then opnd st x else .dead

theorem sig_uses (st : St) (op : Op) : ∀ x ∈ uses op, opnd st x = sig st op x := fun x hx => by unfold sig; rw [if_pos hx]

theorem sig_map (st : St) (op : Op) : (uses op).map (opnd st) = (uses op).map (sig st op) := List.map_congr_left (sig_uses st op)

theorem foot_sig (st : St) (op : Op) : foot op (opnd st) = foot op (sig st op) := by unfold foot; rw [sig_map]

theorem sig_rel {E : Nat → SV} {st : St} (h : Imp E st) (op : Op) (x : Operand) (m : Mm) (ls : List Loc) (a : Act) (hx : ∀ t, x = .tmp t → x ∈ uses op → (E t).rel m ls (a.eval (.tmp t))) :
    (sig st op x).rel m ls (a.eval x) := by
  unfold sig
  split
  · rename_i hu
    exact opnd_rel x (fun t ht => h t m ls _ (hx t ht hu))
  · simp only [SV.rel]

theorem mkFlag_congr {op : Op} {σ σ' : Operand → SV} (h : ∀ x ∈ uses op, σ x = σ' x) : mkFlag T σ op = mkFlag T σ' op := by
  cases op <;> simp only [mkFlag]
  case box e x => rw [h x (by simp [uses])]
  case buildSlice t len parts =>
    have : (parts.toList.map fun x => σ x.2) = parts.toList.map fun x => σ' x.2 := List.map_congr_left fun x hx => h x.2 (List.mem_map.2 ⟨x, hx, rfl⟩)
    rw [this]

/-- One operation, and its line. -/
theorem exLog_ok (hT : TOk P T) (hE : EnvOk P env) {n i : Nat} {o : Oper} {st : St} {log : List Log} {K : St → List Log → Option R} {r : R} (h : exLog T env n i o st log K = some r) :
    (reader o.op = true ∧ ∃ v, exRd T o.op (sig st o.op) st.chunks some = some v ∧ K (St.putO n st o.dst v) (⟨i, false, foot o.op (sig st o.op), st.chunks.length⟩ :: log) = some r) ∨
    (reader o.op = false ∧ ∃ v cs z, WrSem P o.op (sig st o.op) st.chunks v cs z ∧ (mkFlag T (sig st o.op) o.op = 1 → ∃ c mk lo, MakerIs P o.op (sig st o.op) st.chunks v cs z c mk lo) ∧ K (St.putO n ⟨st.slots, cs⟩ o.dst v) (⟨i, true, z, mkFlag T (sig st o.op) o.op⟩ :: log) = some r) := by
  unfold exLog at h
  cases hr : reader o.op with
  | true =>
    rw [hr] at h
    simp only [cond_true] at h
    rw [exRd_congr (sig_uses st o.op), exRd_bind] at h
    cases hv : exRd T o.op (sig st o.op) st.chunks some with
    | none => rw [hv] at h; simp at h
    | some v =>
      rw [hv] at h
      simp only [Option.bind_some, lenL_eq, foot_sig] at h
      exact .inl ⟨rfl, v, rfl, h⟩
  | false =>
    rw [hr] at h
    simp only [cond_false] at h
    rw [exWr_congr (sig_uses st o.op), mkFlag_congr (sig_uses st o.op)] at h
    generalize hσ : sig st o.op = σ at h ⊢
    by_cases hmk : mkFlag T σ o.op = 1
    · obtain ⟨op, hop⟩ : ∃ op, op = o.op := ⟨_, rfl⟩
      rw [← hop] at h hmk ⊢
      cases op with
      | alloc e =>
        simp only [exWr] at h
        split at h
        · rename_i ti hti
          simp only [app_eq, lenL_eq] at h
          refine .inr ⟨rfl, _, _, _, wr_alloc hT hti, fun _ => ?_, h⟩
          obtain ⟨i, z, hi, hs, hby, hz, hzr, hzd, ha1, ha2⟩ := (hT _ _ hti).info
          refine ⟨.box ti.zero e, fun g => .pointer (some ⟨g, 0, none⟩), fun g => ⟨some ⟨g, 0, none⟩, 0, 0, 0⟩, rfl, rfl, fun m ls g hg => ?_, fun ρ o w m ls ho _ _ => ⟨.cells z.cells e, ?_, fun ls' g w' hg => ?_⟩⟩
          · simp only [SV.rel]; exact ⟨_, g, hg, rfl, rfl⟩
          · unfold execOp; rw [ho]
            simp [Instr.alloc, newVar, newRow, zeroValue, typeInfo, hi, hz]
          · simp only [Chunk.holds]; exact ⟨g, z.cells, rfl, rfl, hg, hzr _ _⟩
        · simp [bad] at h
      | box e x =>
        simp only [exWr] at h
        simp only [mkFlag] at hmk
        split at hmk
        · rename_i t y hx
          cases hf : t.flat with
          | false => rw [hf] at hmk; simp at hmk
          | true =>
            split at h
            · cases ho : allL SV.one (σ x).cells with
              | false => rw [ho] at h; simp [bad] at h
              | true =>
                rw [ho] at h
                simp only [cond_true, app_eq, lenL_eq] at h
                refine .inr ⟨rfl, _, _, _, wr_box hT ho, fun _ => ?_, h⟩
                refine ⟨.box (σ x).cells e, fun g => .pointer (some ⟨g, 0, none⟩), fun g => ⟨some ⟨g, 0, none⟩, 0, 0, 0⟩, rfl, rfl, fun m ls g hg => ?_, fun ρ o w m ls ho hρ _ => ⟨.cells (t.val y).cells e, ?_, fun ls' g w' hg => ?_⟩⟩
                · simp only [SV.rel]; exact ⟨_, g, hg, rfl, rfl⟩
                · have hv : ρ x = t.val y := rel_val hf (hx ▸ hρ x)
                  unfold execOp; rw [ho]
                  simp [Instr.box, newVar, newRow, hv]
                · simp only [Chunk.holds]
                  exact ⟨g, _, rfl, rfl, hg, by rw [hx]; exact SV.cells_rel (val_rel m ls' hf) (.inr (.inl ⟨t, y, rfl⟩))⟩
            · simp [bad] at h
        · cases hmk
      | makeMap t r0 =>
        simp only [exWr] at h
        split at h
        · rename_i u v ht
          split at h
          · simp only [app_eq, lenL_eq] at h
            refine .inr ⟨rfl, _, _, _, wr_makeMap hT ht, fun _ => ?_, h⟩
            refine ⟨.map u v [], fun g => .map (some g), fun g => ⟨some ⟨g, 0, none⟩, 0, 0, 0⟩, rfl, rfl, fun m ls g hg => ?_, fun ρ o w m ls ho _ _ => ⟨.map #[] 0, ?_, fun ls' g w' hg => ?_⟩⟩
            · simp only [SV.rel]; exact ⟨_, g, hg, rfl, rfl⟩
            · unfold execOp; rw [ho]
              simp [Instr.makeMap]
            · simp only [Chunk.holds]; exact ⟨g, #[], 0, rfl, rfl, hg, rfl, fun i e h => by simp at h⟩
          · simp [bad] at h
        · simp [bad] at h
      | makeSlice t l c =>
        have h' := h
        simp only [exWr] at h
        split at h
        · rename_i u te ht
          cases hz : Nat.beq te.size 0 with
          | true => rw [hz] at h; simp [bad] at h
          | false =>
            rw [hz] at h
            simp only [cond_false] at h
            split at h
            · rename_i n hn
              split at h
              · rename_i k hk
                obtain ⟨n', hn'⟩ : ∃ q : Int, q = n := ⟨n, rfl⟩
                subst hn'
                obtain ⟨k', hk'⟩ : ∃ q : Int, q = k := ⟨k, rfl⟩
                subst hk'
                split at h
                · rename_i h0
                  split at h
                  · rename_i h1
                    split at h
                    · rename_i h2
                      simp only [app_eq, lenL_eq] at h
                      have hsz : te.size ≠ 0 := fun e => by rw [e] at hz; simp at hz
                      refine .inr ⟨rfl, _, _, _, wr_make hT ht hsz hn hk h0 h1 h2, fun _ => ?_, h⟩
                      obtain ⟨e, cells, q1, q2⟩ := make_core (P := P) hT ht hsz (n := n') (k := k') h0 h1 h2
                      refine ⟨.own u (List.replicate n'.toNat u.zero), fun g => .slice (some ⟨g, 0, none⟩) n'.toNat k'.toNat, fun g => ⟨some ⟨g, 0, none⟩, n'.toNat, k'.toNat, u.width⟩, rfl, rfl, fun m ls g hg => ?_, fun ρ o w m ls ho hρ _ => ⟨.cells cells e, ?_, fun ls' g w' hg => q1 m ls' g w' hg⟩⟩
                      · simp only [SV.rel]; exact ⟨_, hg, rfl⟩
                      · have el := SV.int_rel (hn ▸ hρ l)
                        have ec := SV.int_rel (hk ▸ hρ c)
                        unfold execOp; rw [ho]
                        simp only [Sem.run_bind, q2 _ _ w el ec, Result.andThen_ok, Sem.run_pure]
                    · cases h
                  · cases h
                · cases h
              · simp [bad] at h
            · simp [bad] at h
        · simp [bad] at h
      | buildSlice t len parts =>
        simp only [mkFlag] at hmk
        simp only [exWr] at h
        split at h
        · rename_i u te ht
          rw [ht] at hmk
          simp only at hmk
          split at hmk
          · rename_i L0 hL0
            have hL1 := litElems_told st.chunks hL0
            rw [hL1] at h
            simp only at h
            cases ho : inOrder 0 parts.toList with
            | false => rw [ho] at h; simp [bad] at h
            | true =>
              rw [ho] at h
              cases hl : Nat.beq (lenL parts.toList) len with
              | false => rw [hl] at h; simp [bad] at h
              | true =>
                rw [hl] at h
                cases h24 : Nat.ble (len * te.size) 16777216 with
                | false => rw [h24] at h; simp [bad] at h
                | true =>
                  rw [h24] at h
                  cases h0 : Nat.blt 0 te.size with
                  | false => rw [h0] at h; simp [bad] at h
                  | true =>
                    rw [h0] at h
                    simp only [cond_true, app_eq, lenL_eq, freeze] at h
                    have hll : parts.toList.length = len := by rw [← lenL_eq]; exact beq_nat hl
                    have W := wr_lit (P := P) hT ht hL1 ho hll (Nat.le_of_ble_eq_true h24) (blt_pos h0)
                    simp only [freeze] at W
                    refine .inr ⟨rfl, _, _, _, W, fun _ => ?_, h⟩
                    refine ⟨.own u L0, fun g => .slice (some ⟨g, 0, none⟩) len len, fun g => ⟨some ⟨g, 0, none⟩, len, len, u.width⟩, rfl, rfl, fun m ls g hg => ?_, fun ρ o w m ls ho' hρ _ => ?_⟩
                    · simp only [SV.rel]; exact ⟨_, hg, rfl⟩
                    · exact lit_made hT ht hL0 ho hll (Nat.le_of_ble_eq_true h24) (blt_pos h0) ho' hρ
          · cases hmk
        · simp [bad] at h
      | _ => simp [mkFlag] at hmk
    · obtain ⟨v, cs, z, h1, h2⟩ := wr_ok hT hE h
      exact .inr ⟨rfl, v, cs, z, h2, fun he => absurd he hmk, h1⟩

/-- A trace with one more at its head. -/
def Trd.cons (i : Nat) (v : SV) (C : List Chunk) (σ : Operand → SV) (ran wr : Bool) (z : List Nat) (E : Nat → SV) (D : Trd) : Trd where
  v := fun j => if j = i then v else D.v j
  C := fun j => if j = i then C else D.C j
  σ := fun j => if j = i then σ else D.σ j
  ran := fun j => if j = i then ran else D.ran j
  wr := fun j => if j = i then wr else D.wr j
  z := fun j => if j = i then z else D.z j
  E := fun j => if j = i then E else D.E j

theorem StepAt.cons {n : Nat} {all : List Oper} {D : Trd} {log : List Log} {j i : Nat} {o : Oper} (h : StepAt P T n all D log j o) (hij : i < j) (v C σ ran wr z E) :
    StepAt P T n all (Trd.cons i v C σ ran wr z E D) log j o := by
  have h1 : j ≠ i := by omega
  have h2 : j + 1 ≠ i := by omega
  refine ⟨h.op, ?_, ?_, ?_, ?_, ?_, ?_⟩ <;> simp only [Trd.cons, h1, h2, if_false]
  · exact h.e
  · exact h.guard
  · exact h.looks
  · exact h.skip
  · exact h.read
  · exact h.write

/-- What is known of a way through a region. -/
def Traced (P : Program) (T : TT) (n : Nat) (all : List Oper) (K : St → List Log → Option R) (r : R) (i len : Nat) (st : St) (log : List Log) (E : Nat → SV) : Prop :=
  ∃ D st' log', D.E i = E ∧ D.C i = st.chunks ∧ (∀ x ∈ log, x ∈ log') ∧ (∀ j, i ≤ j → j < i + len → ∃ o, StepAt P T n all D log' j o) ∧
    st'.chunks = D.C (i + len) ∧ Imp (D.E (i + len)) st' ∧ K st' log' = some r

/-- The machine's way through a region, step by step. -/
theorem exOps_trace (hT : TOk P T) (hE : EnvOk P env) {n : Nat} {all : List Oper} {K : St → List Log → Option R} {r : R} : ∀ (l : List Oper) (i : Nat) (st : St) (log : List Log) (E : Nat → SV), (∀ j, l[j]? = all[i + j]?) → Imp E st →
    exOps T env n all i l st log K = some r → Traced P T n all K r i l.length st log E
  | [], i, st, log, E, hl, hI, h => by
    simp only [exOps] at h
    exact ⟨⟨fun _ => .dead, fun _ => st.chunks, fun _ _ => .dead, fun _ => false, fun _ => false, fun _ => [], fun _ => E⟩, st, log, rfl, rfl, fun _ h => h, fun j h1 h2 => absurd h2 (by simp; omega), rfl, hI, h⟩
  | o :: l, i, st, log, E, hl, hI, h => by
    have hop : all[i]? = some o := by have := hl 0; simpa using this.symm
    have hl' : ∀ j, l[j]? = all[i + 1 + j]? := fun j => by have := hl (j + 1); rw [Nat.add_assoc, Nat.add_comm 1 j]; simpa using this
    -- what is alike for each way
    have fin : ∀ (v : SV) (C1 : List Chunk) (σ : Operand → SV) (ran wr : Bool) (z : List Nat) (st1 : St) (e : Log), st1.chunks = C1 → Imp (updE n E o.dst v) st1 →
        exOps T env n all (i + 1) l st1 (e :: log) K = some r →
        (∀ D log', D.C (i + 1) = C1 → (∀ x ∈ e :: log, x ∈ log') → D.E (i + 1) = updE n E o.dst v → StepAt P T n all (Trd.cons i v st.chunks σ ran wr z E D) log' i o) →
        Traced P T n all K r i (o :: l).length st log E := by
      intro v C1 σ ran wr z st1 e hc hI1 h1 hstep
      obtain ⟨D, st', log', d1, d2, d3, d4, d5, d6, d7⟩ := exOps_trace hT hE l (i + 1) st1 (e :: log) _ hl' hI1 h1
      refine ⟨Trd.cons i v st.chunks σ ran wr z E D, st', log', by simp [Trd.cons], by simp [Trd.cons], fun x hx => d3 x (List.mem_cons_of_mem _ hx), fun j hj1 hj2 => ?_, ?_, ?_, d7⟩
      · by_cases hji : j = i
        · subst hji
          exact ⟨o, hstep D log' (d2.trans hc) d3 d1⟩
        · obtain ⟨o', ho'⟩ := d4 j (by omega) (by simp at hj2; omega)
          exact ⟨o', ho'.cons (by omega) _ _ _ _ _ _ _⟩
      · have : i + (o :: l).length = i + 1 + l.length := by simp; omega
        rw [this, d5]; simp only [Trd.cons]; rw [if_neg (by omega)]
      · have : i + (o :: l).length = i + 1 + l.length := by simp; omega
        rw [this]; simp only [Trd.cons]; rw [if_neg (by omega)]; exact d6
    have ne1 : i + 1 ≠ i := by omega
    -- an operation that runs
    have runs : ∀ (st1 : St), st1.chunks = st.chunks → Imp E st1 → (o.guard = none ∨
        ∃ g want d og, o.guard = some (g, want) ∧ all[g]? = some og ∧ og.dst = some d ∧ ∀ m ls v, (E d).rel m ls v → v = .bool want) →
        exLog T env n i o st1 log (fun st log => exOps T env n all (i + 1) l st log K) = some r → Traced P T n all K r i (o :: l).length st log E := by
      intro st1 hc hI1 hg h1
      rcases exLog_ok hT hE h1 with ⟨hrd, v, hv, hk⟩ | ⟨hrd, v, cs, z, hw, hal, hk⟩
      · rw [hc] at hv hk
        refine fin v st.chunks (sig st1 o.op) true false [] (St.putO n st1 o.dst v) _ (by rw [chunks_putO]; exact hc) (by
          have := hI1.putO (n := n) o.dst v st1.chunks
          exact this) hk ?_
        intro D log' hC hlog hE'
        refine ⟨hop, ?_, ?_, ?_, ?_, ?_, ?_⟩ <;> simp only [Trd.cons, if_true, ne1, if_false]
        · exact hE'
        · rcases hg with h1 | ⟨g, want, d, og, h1, h2, h3, h4⟩
          · exact .inl ⟨h1, trivial⟩
          · exact .inr (.inr ⟨g, want, d, og, h1, h2, h3, h4⟩)
        · intro _ x m ls a hx; exact sig_rel hI1 o.op x m ls a hx
        · intro hf; cases hf
        · intro _ _; exact ⟨hv, hC, hlog _ (by simp)⟩
        · intro hf; cases hf
      · rw [hc] at hw hal
        refine fin v cs (sig st1 o.op) true true z (St.putO n ⟨st1.slots, cs⟩ o.dst v) _ (by rw [chunks_putO]) (hI1.putO (n := n) o.dst v cs) hk ?_
        intro D log' hC hlog hE'
        refine ⟨hop, ?_, ?_, ?_, ?_, ?_, ?_⟩ <;> simp only [Trd.cons, if_true, ne1, if_false]
        · exact hE'
        · rcases hg with h1 | ⟨g, want, d, og, h1, h2, h3, h4⟩
          · exact .inl ⟨h1, trivial⟩
          · exact .inr (.inr ⟨g, want, d, og, h1, h2, h3, h4⟩)
        · intro _ x m ls a hx; exact sig_rel hI1 o.op x m ls a hx
        · intro hf; cases hf
        · intro _ hf; cases hf
        · intro _; rw [hC]; exact ⟨hw, hlog _ (by simp), hal⟩
    -- one that is left out
    have skips : ∀ (st1 : St), st1.chunks = st.chunks → Imp E st1 → (∃ g want d og, o.guard = some (g, want) ∧ all[g]? = some og ∧ og.dst = some d ∧ ((∀ m ls v, (E d).rel m ls v → v = .bool (!want)) ∨ ∀ m ls v, (E d).rel m ls v → v = undef)) →
        exOps T env n all (i + 1) l (St.putO n st1 o.dst (.tup [])) (⟨i, false, [], 0⟩ :: log) K = some r → Traced P T n all K r i (o :: l).length st log E := by
      intro st1 hc hI1 hg h1
      refine fin (.tup []) st.chunks (fun _ => .dead) false false [] (St.putO n st1 o.dst (.tup [])) _ (by rw [chunks_putO]; exact hc) (hI1.putO (n := n) o.dst (.tup []) st1.chunks) h1 ?_
      intro D log' hC hlog hE'
      refine ⟨hop, ?_, ?_, ?_, ?_, ?_, ?_⟩ <;> simp only [Trd.cons, if_true, ne1, if_false]
      · exact hE'
      · obtain ⟨g, want, d, og, h1, h2, h3, h4⟩ := hg
        rcases h4 with h4 | h4
        · exact .inr (.inr ⟨g, want, d, og, h1, h2, h3, by simpa using h4⟩)
        · exact .inr (.inl ⟨g, want, d, og, h1, h2, h3, trivial, h4⟩)
      · intro hf; cases hf
      · intro _; exact ⟨trivial, hC, trivial⟩
      · intro hf; cases hf
      · intro hf; cases hf
    simp only [exOps] at h
    split at h
    · rename_i hg
      exact runs st rfl hI (.inl hg) h
    · rename_i g want hg
      split at h
      · rename_i d b hgs
        obtain ⟨og, ho1, ho2, ho3⟩ : ∃ og, all[g]? = some og ∧ og.dst = some d ∧ (st.get d).bc = some b := by
          unfold guardSlot at hgs
          split at hgs
          · rename_i og hog
            split at hgs
            · rename_i d' hd'
              split at hgs
              · rename_i b' hb'
                simp only [Option.some.injEq, Prod.mk.injEq] at hgs
                obtain ⟨rfl, rfl⟩ := hgs
                exact ⟨og, by rw [← nth_eq]; exact hog, hd', hb'⟩
              · cases hgs
            · cases hgs
          · cases hgs
        have hval : ∀ m ls v, (E d).rel m ls v → v = .bool b.val := fun m ls v hv => SV.bc_rel ho3 (hI d m ls v hv)
        have refine_ : ∀ (c : BC), c.val = b.val → Imp E (st.put d (.cb c)) := by
          intro c hc t m ls v hv
          rw [get_put]
          split
          · rename_i e; subst e
            rw [hval m ls v hv, ← hc]; exact SV.mk_cb c
          · exact hI t m ls v hv
        split at h
        · rw [BC.br_eq] at h
          split at h <;> rename_i hb
          · exact runs (st.put d (.cb .tt)) rfl (refine_ .tt (by rw [hb]; rfl)) (.inr ⟨g, true, d, og, hg, ho1, ho2, fun m ls v hv => by rw [hval m ls v hv, hb]⟩) h
          · have hb' : b.val = false := by simpa using hb
            exact skips (st.put d (.cb .ff)) rfl (refine_ .ff (by rw [hb']; rfl)) ⟨g, true, d, og, hg, ho1, ho2, .inl fun m ls v hv => by rw [hval m ls v hv, hb']; rfl⟩ h
        · rw [BC.br_eq] at h
          split at h <;> rename_i hb
          · exact skips (st.put d (.cb .tt)) rfl (refine_ .tt (by rw [hb]; rfl)) ⟨g, false, d, og, hg, ho1, ho2, .inl fun m ls v hv => by rw [hval m ls v hv, hb]; rfl⟩ h
          · have hb' : b.val = false := by simpa using hb
            exact runs (st.put d (.cb .ff)) rfl (refine_ .ff (by rw [hb']; rfl)) (.inr ⟨g, false, d, og, hg, ho1, ho2, fun m ls v hv => by rw [hval m ls v hv, hb']⟩) h
      · cases hu : undefSlot all st g with
        | false => rw [hu] at h; simp [bad] at h
        | true =>
          rw [hu] at h
          simp only [cond_true] at h
          unfold undefSlot at hu
          simp only [nth_eq] at hu
          split at hu
          · rename_i og hog
            split at hu
            · rename_i d hd
              split at hu
              · rename_i hsl
                refine skips st rfl hI ⟨g, want, d, og, hg, hog, hd, .inr fun m ls v hv => ?_⟩ h
                have := hI d m ls v hv
                rw [hsl] at this
                simp only [SV.rel, SV.rels] at this
                obtain ⟨vs, rfl, hvs⟩ := this
                have : vs = #[] := by apply Array.ext'; simpa using hvs
                rw [this]; rfl
              · cases hu
            · cases hu
          · cases hu
end
end Go.Proofs.YtfkilmmldjajmaaSx
