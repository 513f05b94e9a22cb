/- Operations that turn memory. -/
import Derived.Test.YtfkilmmldjajmaaSxD
namespace Go.Proofs.YtfkilmmldjajmaaSx
open Go
set_option linter.unusedVariables false
set_option linter.unusedSimpArgs false

section
variable {P : Program} {T : TT} {bs : Base} {m : Mm} {ls : List Loc} {Bs : List (List Nat)} {cs : List Chunk} {w w' : World}

theorem oneC' {v : Value} (h : v.oneC = true) : v.oneCell' = true := by cases v <;> simp_all [Value.oneC, Value.oneCell']

/-- Cells stored into a block. -/
theorem run_storeCells {g e : Nat} : ∀ (vs : List Value) (i o : Nat) (w : World) (c : Array Value), (∀ v ∈ vs, v.oneC = true) → w.heap[g]? = some (.cells c e (0, 0)) → o + i + vs.length ≤ c.size →
    ∃ w' c', (storeCells ⟨g, o, none⟩ vs i).run P w = .ok () w' ∧ Touch w w' [g] ∧ w'.heap[g]? = some (.cells c' e (0, 0)) ∧ c'.toList = c.toList.take (o + i) ++ vs ++ c.toList.drop (o + i + vs.length)
  | [], i, o, w, c, _, hw, hl => ⟨w, c, by simp [storeCells], Touch.refl _ _, hw, by simp⟩
  | v :: vs, i, o, w, c, hv, hw, hl => by
    have hlt : o + i < c.size := by simp at hl; omega
    have hcell : w.cell? ⟨g, o + i, none⟩ = some c[o + i] := by simp [World.cell?, hw, hlt]
    have hfr : w.frozen? ⟨g, o + i, none⟩ = false := by simp [World.frozen?, hw]
    let w1 := w.setCell ⟨g, o + i, none⟩ v
    have hw1 : w1.heap[g]? = some (.cells (c.setIfInBounds (o + i) v) e (0, 0)) := by
      simp only [w1, World.setCell, Array.getElem?_modify, if_true, hw]; rfl
    have hT : Touch w w1 [g] := by
      refine ⟨rfl, rfl, rfl, by simp [w1, World.setCell], fun b hb => ?_⟩
      simp only [w1, World.setCell, Array.getElem?_modify]
      rw [if_neg (by simp at hb; omega)]
    obtain ⟨w2, c2, h1, h2, h3, h4⟩ := run_storeCells vs (i + 1) o w1 _ (fun v hv' => hv v (List.mem_cons_of_mem _ hv')) hw1 (by simp at hl ⊢; omega)
    refine ⟨w2, c2, ?_, hT.trans h2, h3, ?_⟩
    · simp only [storeCells, Sem.run_bind]
      rw [Addr.add_none, run_store P w _ v _ (oneC' (hv v (by simp))), hcell]
      simp only [hfr, Bool.false_eq_true, if_false, Result.andThen_ok]
      exact h1
    · rw [h4]
      apply List.ext_getElem?
      intro k
      simp only [Array.toList_setIfInBounds, List.length_cons]
      have hk' : o + i < c.toList.length := by simpa using hlt
      rcases Nat.lt_trichotomy k (o + i) with hk | hk | hk
      · simp only [List.getElem?_append, List.length_take, List.length_set, List.length_append]
        rw [if_pos (by omega), if_pos (by omega), if_pos (by omega), if_pos (by simp; omega)]
        rw [List.getElem?_take, List.getElem?_take, if_pos (by omega), if_pos hk, List.getElem?_set_ne (by omega)]
      · subst hk
        simp only [List.getElem?_append, List.length_take, List.length_set, List.length_append]
        rw [if_pos (by omega), if_pos (by omega), if_pos (by simp; omega), if_neg (by omega)]
        rw [List.getElem?_take, if_pos (by omega), List.getElem?_set_self hk']
        have : o + i - min (o + i) c.toList.length = 0 := by omega
        rw [this]; rfl
      · by_cases hj : k < o + i + 1 + vs.length
        · simp only [List.getElem?_append, List.length_take, List.length_set, List.length_append]
          rw [if_pos (by omega), if_neg (by omega), if_pos (by simp; omega), if_neg (by omega)]
          have e1 : k - min (o + (i + 1)) c.toList.length = k - (o + i) - 1 := by omega
          have e2 : k - min (o + i) c.toList.length = k - (o + i) := by omega
          rw [e1, e2]
          obtain ⟨d, rfl⟩ : ∃ d, k = o + i + d + 1 := ⟨k - (o + i) - 1, by omega⟩
          have e3 : o + i + d + 1 - (o + i) - 1 = d := by omega
          have e4 : o + i + d + 1 - (o + i) = d + 1 := by omega
          rw [e3, e4]; rfl
        · simp only [List.getElem?_append, List.length_take, List.length_set, List.length_append]
          simp at hl
          rw [if_neg (by omega), if_neg (by simp; omega)]
          simp only [List.getElem?_drop]
          rw [List.getElem?_set_ne (by omega)]
          congr 1
          simp
          omega

/-- What an operation that turns memory does. -/
def WrSem (P : Program) (op : Op) (σ : Operand → SV) (cs : List Chunk) (v : SV) (cs' : List Chunk) (z : List Nat) : Prop :=
  cs.length ≤ cs'.length ∧ (∀ c, c < cs.length → c ∉ z → cs'[c]? = cs[c]?) ∧
  ∀ (bs : Base) (m : Mm) (ls : List Loc) (Bs : List (List Nat)) (w : World) (a : Act) (o : Oper), o.op = op → Mem bs m ls Bs cs w → (∀ x, (σ x).rel m ls (a.eval x)) →
    ∀ (Kp : Act → World → Prop) (Q : Exit → Act → World → Prop),
      (∀ m' ls' Bs' v' w', Ext m ls m' ls' → Mem bs m' ls' Bs' cs' w' → v.rel m' ls' v' → Kp (a.put o.dst v') w') → o.wp P a w Kp Q

/-- What a call does. -/
def CallSem (P : Program) (f : Nat) (args : List SV) (cs : List Chunk) (v : SV) (cs' : List Chunk) (z : List Nat) : Prop :=
  cs.length ≤ cs'.length ∧ (∀ c, c < cs.length → c ∉ z → cs'[c]? = cs[c]?) ∧
  (∀ (vs : Array Value) (w : World), (callFunc f vs).run P w = .ok (.enter f vs) w) ∧
  ∀ (bs : Base) (m : Mm) (ls : List Loc) (Bs : List (List Nat)) (w : World) (vs : Array Value), Mem bs m ls Bs cs w → SV.rels m ls args vs.toList →
    Calls P f vs w fun e w' => ∃ v' m' ls' Bs', e = .returned v' ∧ Ext m ls m' ls' ∧ Mem bs m' ls' Bs' cs' w' ∧ v.rel m' ls' v'

def EnvOk {R : Type} (P : Program) (env : Nat → List SV → List Chunk → KT R → Option R) : Prop :=
  ∀ f args cs (K : KT R) r, env f args cs K = some r → ∃ v cs' z, K v cs' z = some r ∧ CallSem P f args cs v cs' z

/-- A new block with a new chunk. -/
theorem Mem.new (M : Mem bs m ls Bs cs w) (o : Obj) {c : Chunk} {l : Loc} (hc : c.holds m (ls ++ [l]) (w.alloc o) l [w.heap.size]) :
    Mem bs m (ls ++ [l]) (Bs ++ [[w.heap.size]]) (cs ++ [c]) (w.alloc o) := by
  refine (M.alloc o).add ?_ hc
  intro b hb
  simp at hb
  subst hb
  refine ⟨by show w.heap.size < (w.heap.push o).size; simp, .inl M.size, M.new_none, fun j B' hj hb' => ?_⟩
  exact absurd (M.fresh j B' hj _ hb').1 (Nat.lt_irrefl _)

theorem heap_alloc (w : World) (o : Obj) : (w.alloc o).heap[w.heap.size]? = some o := by
  show (w.heap.push o)[w.heap.size]? = _
  simp

theorem cells_ok {s : SV} (h : allL SV.one s.cells = true) : s.one = true ∨ (∃ t x, s = .p t x) ∨ ∃ l, s = .agg l := by
  cases s with
  | p t x => exact .inr (.inl ⟨t, x, rfl⟩)
  | agg l => exact .inr (.inr ⟨l, rfl⟩)
  | _ => simp_all [SV.cells, SV.one, allL]

theorem rels_one : ∀ {l : List SV} {vs : List Value}, SV.rels m ls l vs → allL SV.one l = true → ∀ v ∈ vs, v.oneC = true
  | [], vs, h, _, v, hv => by simp only [SV.rels] at h; subst h; simp at hv
  | s :: l, vs, h, ho, v, hv => by
    simp only [SV.rels] at h
    obtain ⟨u, us, rfl, h1, h2⟩ := h
    rw [allL_iff] at ho
    simp at hv
    rcases hv with rfl | hv
    · exact SV.oneC_of h1 (ho s (by simp))
    · exact rels_one h2 ((allL_iff _ _).2 fun x hx => ho x (by simp [hx])) v hv

theorem nth_append_self {α : Type} (l : List α) (a : α) : (l ++ [a])[l.length]? = some a := by simp

theorem wr_box (hT : TOk P T) {σ : Operand → SV} {e : Nat} {x : Operand} (ho : allL SV.one (σ x).cells = true) :
    WrSem P (.box e x) σ cs (.ptr cs.length 0) (cs ++ [.box (σ x).cells e]) [] := by
  refine ⟨by simp, fun c hc _ => List.getElem?_append_left hc, ?_⟩
  intro bs m ls Bs w a o hop M hσ Kp Q hK
  have hr := SV.cells_rel (hσ x) (cells_ok ho)
  have hrun : (execOp a.eval o).run P w = .ok (.value (.pointer (some ⟨w.heap.size, 0, none⟩))) (w.alloc (.cells (a.eval x).cells e)) := by
    unfold execOp; rw [hop]
    simp [Instr.box, newVar, newRow]
  unfold Oper.wp
  rw [hrun]
  let l : Loc := ⟨some ⟨w.heap.size, 0, none⟩, 0, 0, 0⟩
  have M' := M.new (.cells (a.eval x).cells e) (c := .box (σ x).cells e) (l := l) (by
    simp only [Chunk.holds]
    exact ⟨w.heap.size, _, rfl, rfl, heap_alloc _ _, SV.rels_ext (ext_push m ls l) hr⟩)
  refine hK m _ _ _ _ (ext_push m ls l) M' ?_
  simp only [SV.rel]
  exact ⟨l, w.heap.size, by rw [← M.nl]; simp, rfl, rfl⟩

theorem wr_alloc (hT : TOk P T) {σ : Operand → SV} {e : Nat} {ti : TI} (ht : T.find e = some ti) :
    WrSem P (.alloc e) σ cs (.ptr cs.length 0) (cs ++ [.box ti.zero e]) [] := by
  refine ⟨by simp, fun c hc _ => List.getElem?_append_left hc, ?_⟩
  intro bs m ls Bs w a o hop M hσ Kp Q hK
  obtain ⟨i, z, hi, hs, hby, hz, hzr, hzd, ha1, ha2⟩ := (hT _ _ ht).info
  have hrun : (execOp a.eval o).run P w = .ok (.value (.pointer (some ⟨w.heap.size, 0, none⟩))) (w.alloc (.cells z.cells e)) := by
    unfold execOp; rw [hop]
    simp [Instr.alloc, newVar, newRow, zeroValue, typeInfo, hi, hz]
  unfold Oper.wp
  rw [hrun]
  let l : Loc := ⟨some ⟨w.heap.size, 0, none⟩, 0, 0, 0⟩
  have M' := M.new (.cells z.cells e) (c := .box ti.zero e) (l := l) (by
    simp only [Chunk.holds]
    exact ⟨w.heap.size, _, rfl, rfl, heap_alloc _ _, hzr _ _⟩)
  refine hK m _ _ _ _ (ext_push m ls l) M' ?_
  simp only [SV.rel]
  exact ⟨l, w.heap.size, by rw [← M.nl]; simp, rfl, rfl⟩

/-- A store into a box, of a value that is told. -/
theorem store_box_core (hT : TOk P T) {t : Nat} {ti : TI} {c off ty : Nat} {cells : List SV} {sx : SV} (ht : T.find t = some ti) (hc : cs[c]? = some (.box cells ty)) (M : Mem bs m ls Bs cs w) {av xv : Value} (ha : (SV.ptr c off).rel m ls av) (hx : sx.rel m ls xv)
    (ho : allL SV.one sx.cells = true) (hs : sx.cells.length = ti.size) (hle : off + sx.cells.length ≤ cells.length) :
    ∃ w' Bs', (Instr.storeAt t av xv).run P w = .ok () w' ∧ Mem bs m ls Bs' (cs.set c (.box (putCells cells sx.cells off) ty)) w' := by
  have hr := SV.cells_rel hx (cells_ok ho)
  simp only [SV.rel] at ha
  obtain ⟨l, b, hl, hA, hv⟩ := ha
  obtain ⟨l', B, hl', hB, hh⟩ := M.at hc
  rw [hl] at hl'; cases hl'
  simp only [Chunk.holds] at hh
  obtain ⟨g, cs', hA', rfl, hheap, hrel⟩ := hh
  rw [hA] at hA'; cases hA'
  have hlen := SV.rels_length hr
  have hlen2 := SV.rels_length hrel
  obtain ⟨w', c', h1, h2, h3, h4⟩ := run_storeCells (P := P) (g := b) (e := ty) xv.cells.toList 0 off w cs' (rels_one hr ho) hheap (by rw [hlen, ← Array.length_toList, hlen2]; omega)
  have hsz : xv.cells.size = ti.size := by rw [← Array.length_toList, hlen, hs]
  refine ⟨w', _, by simp only [Instr.storeAt, Instr.sureAddr, hv, storeVar, Sem.run_bind, Sem.run_pure, Result.andThen_ok, run_sizeOf (hT _ _ ht), hsz, ne_eq, not_true_eq_false, if_false, h1], M.upd (c' := .box (putCells cells sx.cells off) ty) hB hl h2 (fun _ h => h) (by
    simp only [Chunk.holds]
    refine ⟨b, c', hA, rfl, h3, ?_⟩
    rw [h4]
    simp only [Nat.add_zero]
    exact putCells_rel hrel hr (by rw [hlen, hlen2]; exact hle))⟩

/-- A store into a box. -/
theorem wr_store_box (hT : TOk P T) {σ : Operand → SV} {t : Nat} {a x : Operand} {c off ty : Nat} {cells : List SV} {ti : TI} (ht : T.find t = some ti) (ha : σ a = .ptr c off) (hc : cs[c]? = some (.box cells ty))
    (ho : allL SV.one (σ x).cells = true) (hs : (σ x).cells.length = ti.size) (hle : off + (σ x).cells.length ≤ cells.length) :
    WrSem P (.store t a x) σ cs .dead (cs.set c (.box (putCells cells (σ x).cells off) ty)) [c] := by
  refine ⟨by simp, fun d hd hn => by rw [List.getElem?_set_ne (by simp at hn; exact fun e => hn e.symm)], ?_⟩
  intro bs m ls Bs w act o hop M hσ Kp Q hK
  obtain ⟨w', Bs', h1, M'⟩ := store_box_core hT ht hc M (ha ▸ hσ a) (hσ x) ho hs hle
  have hrun : (execOp act.eval o).run P w = .ok .skip w' := by
    unfold execOp; rw [hop]
    simp only [Sem.run_bind, h1, Result.andThen_ok, Sem.run_pure]
  unfold Oper.wp
  rw [hrun]
  exact hK m ls _ undef _ (Ext.refl _ _) M' (by simp only [SV.rel])

/-- A part of an own slice stored into a box. -/
theorem wr_store_sub (hT : TOk P T) {σ : Operand → SV} {t : Nat} {a x : Operand} {c off ty d lo n : Nat} {cells : List SV} {ti : TI} {u : Ty} {L : List u.den} (ht : T.find t = some ti) (ha : σ a = .ptr c off) (hc : cs[c]? = some (.box cells ty)) (hx : σ x = .sub d lo n) (hd : cs[d]? = some (.own u L))
    (hs : 1 = ti.size) (hle : off + 1 ≤ cells.length) :
    WrSem P (.store t a x) σ cs .dead ((cs.set d .gone ++ [Chunk.own u (List.take n (List.drop lo L))]).set c (.box (putCells cells [SV.own cs.length] off) ty)) (c :: [d]) := by
  refine ⟨by simp, fun k hk hn => ?_, ?_⟩
  · simp at hn
    rw [List.getElem?_set_ne (fun e => hn.1 e.symm), List.getElem?_append_left (by simpa using hk), List.getElem?_set_ne (fun e => hn.2 e.symm)]
  intro bs m ls Bs w act o hop M hσ Kp Q hK
  have hxr := hσ x
  rw [hx] at hxr
  simp only [SV.rel] at hxr
  obtain ⟨l, A, hl, hlo, hv, hA⟩ := hxr
  obtain ⟨Bs', M', hBl⟩ := M.settle hd hl hlo hA
  have hcd : d ≠ c := fun e => by subst e; rw [hd] at hc; cases hc
  have hclt := get_lt hc
  have hc' : (cs.set d Chunk.gone ++ [Chunk.own u (List.take n (List.drop lo L))])[c]? = some (.box cells ty) := by
    rw [List.getElem?_append_left (by simpa using hclt), List.getElem?_set_ne hcd]; exact hc
  have hE := ext_push m ls ⟨A, n, l.cap - lo, l.w⟩
  have hxo : (SV.own cs.length).rel m (ls ++ [⟨A, n, l.cap - lo, l.w⟩]) (act.eval x) := by
    simp only [SV.rel]
    exact ⟨⟨A, n, l.cap - lo, l.w⟩, by rw [← M.nl]; simp, hv⟩
  obtain ⟨w', Bs2, h1, M2⟩ := store_box_core (sx := .own cs.length) hT ht hc' M' (SV.rel_ext hE (ha ▸ hσ a)) hxo (by simp [SV.cells, allL, SV.one]) (by simpa [SV.cells] using hs) (by simpa [SV.cells] using hle)
  have hrun : (execOp act.eval o).run P w = .ok .skip w' := by
    unfold execOp; rw [hop]
    simp only [Sem.run_bind, h1, Result.andThen_ok, Sem.run_pure]
  unfold Oper.wp
  rw [hrun]
  exact hK m _ _ undef _ hE M2 (by simp only [SV.rel])

theorem elemTy_some (hT : TOk P T) {t : Nat} {u : Ty} {te : TI} (h : elemTy T t = some (u, te)) :
    ∃ e, P.underlying t = some (.slice e) ∧ te.ok P e ∧ te.ty = some u := by
  unfold elemTy at h
  split at h
  · rename_i ti ht
    split at h
    · rename_i e hd
      split at h
      · rename_i te' hte
        split at h
        · rename_i u' hu
          simp only [Option.some.injEq, Prod.mk.injEq] at h
          obtain ⟨rfl, rfl⟩ := h
          obtain ⟨d, h1, _, h3⟩ := (hT _ _ ht).und
          rw [hd] at h3
          subst h3
          exact ⟨e, h1, hT _ _ hte, hu⟩
        · cases h
      · cases h
    · cases h
  · cases h

theorem data_rel {cs : List Chunk} {u : Ty} {s : SV} {x : u.den} {z : List Nat} {v : Value} (h : s.data cs u = some (x, z)) (R : Reads m ls cs z) (r : s.rel m ls v) :
    u.rep m x v.cells.toList := by
  unfold SV.data at h
  cases hu : u.agg with
  | true =>
    rw [hu] at h
    simp only [cond_true] at h
    split at h
    · rename_i t y
      split at h
      · rename_i y' hy
        cases h
        obtain ⟨e, rfl⟩ := cast?_some hy
        subst e
        simp only [SV.rel, hu, if_true] at r
        obtain ⟨cs', rfl, h2⟩ := r
        exact h2
      · cases h
    · rename_i l
      split at h
      · rename_i y z' hy
        cases h
        simp only [SV.rel] at r
        obtain ⟨cs', rfl, h2⟩ := r
        obtain ⟨us, ws, e, h3, h4⟩ := take_rel hy R h2
        simp only [SV.rels] at h4
        subst h4
        simp only [Value.cells, e, List.append_nil]
        exact h3
      · cases h
    · cases h
  | false =>
    rw [hu] at h
    simp only [cond_false] at h
    have := atom_rel hu h R r
    have hv : v.cells.toList = [v] := by
      cases u <;> simp [Ty.agg] at hu <;> simp only [Ty.rep] at this
      · simp at this; subst this; rfl
      · simp at this; subst this; rfl
      · simp at this; subst this; rfl
      · obtain ⟨A, c, h1, _⟩ := this; simp at h1; subst h1; rfl
    rw [hv]; exact this

theorem SV.data_rel {m : Mm} {ls : List Loc} {cs : List Chunk} {u : Ty} {s : SV} {x : u.den} {z : List Nat} {v : Value} (h : s.data cs u = some (x, z)) (R : Reads m ls cs z) (r : s.rel m ls v) (m2 : List Loc) :
    (SV.p u x).rel m m2 v := by
  have hr := YtfkilmmldjajmaaSx.data_rel h R r
  simp only [SV.rel]
  unfold SV.data at h
  cases hu : u.agg with
  | true =>
    rw [hu] at h
    simp only [if_true]
    simp only [cond_true] at h
    split at h
    · simp only [SV.rel] at r
      split at h
      · rename_i y' hy
        obtain ⟨e, _⟩ := cast?_some hy
        subst e
        rw [hu] at r
        simp only [if_true] at r
        obtain ⟨cs', rfl, _⟩ := r
        exact ⟨cs', rfl, hr⟩
      · cases h
    · simp only [SV.rel] at r
      obtain ⟨cs', rfl, _⟩ := r
      exact ⟨cs', rfl, hr⟩
    · cases h
  | false =>
    rw [hu] at h
    simp only [Bool.false_eq_true, if_false]
    simp only [cond_false] at h
    exact atom_rel hu h R r

theorem rep_one : ∀ {t : Ty} {x : t.den} {vs : List Value}, t.rep m x vs → ∀ v ∈ vs, v.oneC = true
  | .int _, _, _, h, v, hv => by simp only [Ty.rep] at h; subst h; simp at hv; subst hv; rfl
  | .bool, _, _, h, v, hv => by simp only [Ty.rep] at h; subst h; simp at hv; subst hv; rfl
  | .str, _, _, h, v, hv => by simp only [Ty.rep] at h; subst h; simp at hv; subst hv; rfl
  | .slice _, _, _, h, v, hv => by simp only [Ty.rep] at h; obtain ⟨A, c, rfl, _⟩ := h; simp at hv; subst hv; rfl
  | .pair a b, _, _, h, v, hv => by
    simp only [Ty.rep] at h
    obtain ⟨us, ws, rfl, h1, h2⟩ := h
    simp at hv
    rcases hv with hv | hv
    · exact rep_one h1 v hv
    · exact rep_one h2 v hv
  | .unit, _, _, h, v, hv => by simp only [Ty.rep] at h; subst h; simp at hv

/-- A part put into a value's cells. -/
theorem upd_rel : ∀ {u : Ty} {x : u.den} {off : Nat} {t : Ty} {y : t.den} {z : u.den} {us vs : List Value}, u.upd x off t y = some z → u.rep m x us → t.rep m y vs →
    u.rep m z (us.take off ++ vs ++ us.drop (off + vs.length)) ∧ off + vs.length ≤ us.length
  | .pair a b, x, off, t, y, z, us, vs, h, r, k => by
    simp only [Ty.upd] at h
    have hl := Ty.rep_length r
    have hk := Ty.rep_length k
    split at h
    · rename_i z' hz
      cases h
      cases hb : Nat.beq off 0 with
      | false => rw [hb] at hz; simp at hz
      | true =>
        rw [hb] at hz
        obtain ⟨e, rfl⟩ := cast?_some hz
        subst e
        have := beq_nat hb; subst this
        simp only [List.take_zero, List.nil_append, Nat.zero_add]
        rw [List.drop_of_length_le (by omega), List.append_nil]
        exact ⟨k, by omega⟩
    · have r' := r
      simp only [Ty.rep] at r'
      obtain ⟨us1, us2, rfl, r1, r2⟩ := r'
      have l1 := Ty.rep_length r1
      have l2 := Ty.rep_length r2
      cases hb : Nat.blt off a.width with
      | true =>
        rw [hb] at h
        simp only [cond_true] at h
        split at h
        · rename_i q hq
          cases h
          obtain ⟨h1, h2⟩ := upd_rel hq r1 k
          refine ⟨?_, by simp; omega⟩
          simp only [Ty.rep]
          refine ⟨_, us2, ?_, h1, r2⟩
          rw [List.take_append_of_le_length (by omega), List.drop_append_of_le_length (by omega)]
          simp
        · cases h
      | false =>
        rw [hb] at h
        simp only [cond_false] at h
        have hge : a.width ≤ off := by
          rcases Nat.lt_or_ge off a.width with h' | h'
          · have : Nat.blt off a.width = true := by simp [Nat.blt]; omega
            rw [this] at hb; cases hb
          · exact h'
        split at h
        · rename_i q hq
          cases h
          obtain ⟨h1, h2⟩ := upd_rel hq r2 k
          refine ⟨?_, by simp; omega⟩
          simp only [Ty.rep]
          refine ⟨us1, _, ?_, r1, h1⟩
          rw [List.take_append, List.take_of_length_le (by omega), List.drop_append, List.drop_of_length_le (by omega)]
          simp only [l1, List.nil_append, List.append_assoc]
          congr 3
          congr 1
          omega
        · cases h
  | .int k, x, off, t, y, z, us, vs, h, r, k' => upd1 (by simp [Ty.upd]) h r k'
  | .bool, x, off, t, y, z, us, vs, h, r, k' => upd1 (by simp [Ty.upd]) h r k'
  | .str, x, off, t, y, z, us, vs, h, r, k' => upd1 (by simp [Ty.upd]) h r k'
  | .slice _, x, off, t, y, z, us, vs, h, r, k' => upd1 (by simp [Ty.upd]) h r k'
  | .unit, x, off, t, y, z, us, vs, h, r, k' => upd1 (by simp [Ty.upd]) h r k'
where
  upd1 {u : Ty} {x : u.den} {off : Nat} {t : Ty} {y : t.den} {z : u.den} {us vs : List Value} (he : u.upd x off t y = bif Nat.beq off 0 then cast? t u y else none)
      (h : u.upd x off t y = some z) (r : u.rep m x us) (k : t.rep m y vs) : u.rep m z (us.take off ++ vs ++ us.drop (off + vs.length)) ∧ off + vs.length ≤ us.length := by
    rw [he] at h
    have hl := Ty.rep_length r
    have hk := Ty.rep_length k
    cases hb : Nat.beq off 0 with
    | false => rw [hb] at h; simp at h
    | true =>
      rw [hb] at h
      obtain ⟨e, rfl⟩ := cast?_some h
      subst e
      have := beq_nat hb; subst this
      simp only [List.take_zero, List.nil_append, Nat.zero_add]
      rw [List.drop_of_length_le (by omega), List.append_nil]
      exact ⟨k, by omega⟩

theorem splice_get {α : Type} (D V : List α) (p k : Nat) (h : p + V.length ≤ D.length) :
    (D.take p ++ V ++ D.drop (p + V.length))[k]? = if k < p then D[k]? else if k < p + V.length then V[k - p]? else D[k]? := by
  by_cases h1 : k < p
  · rw [if_pos h1, List.append_assoc, List.getElem?_append_left (by simp; omega), List.getElem?_take, if_pos h1]
  · rw [if_neg h1]
    by_cases h2 : k < p + V.length
    · rw [if_pos h2, List.append_assoc, List.getElem?_append_right (by simp; omega), List.getElem?_append_left (by simp; omega)]
      congr 1
      simp
      omega
    · rw [if_neg h2, List.getElem?_append_right (by simp; omega), List.getElem?_drop]
      congr 1
      simp
      omega

theorem memL_false {n : Nat} {l : List Nat} (h : memL n l = false) : n ∉ l := fun hm => by rw [(memL_iff n l).2 hm] at h; cases h

theorem freeze_spec : ∀ (z : List Nat) (cs : List Chunk), (freeze cs z).length = cs.length ∧ ∀ c, c ∉ z → (freeze cs z)[c]? = cs[c]?
  | [], cs => ⟨rfl, fun _ _ => rfl⟩
  | d :: z, cs => by
    simp only [freeze, nth_eq]
    split
    · obtain ⟨h1, h2⟩ := freeze_spec z (setNth (.froz _ _) cs d)
      rw [setNth_eq] at h1 h2 ⊢
      refine ⟨by rw [h1]; simp, fun c hc => ?_⟩
      simp at hc
      rw [h2 c hc.2, List.getElem?_set_ne (fun e => hc.1 e.symm)]
    · obtain ⟨h1, h2⟩ := freeze_spec z (setNth .gone cs d)
      rw [setNth_eq] at h1 h2 ⊢
      refine ⟨by rw [h1]; simp, fun c hc => ?_⟩
      simp at hc
      rw [h2 c hc.2, List.getElem?_set_ne (fun e => hc.1 e.symm)]
    · obtain ⟨h1, h2⟩ := freeze_spec z cs
      exact ⟨h1, fun c hc => h2 c (by simp at hc; exact hc.2)⟩

/-- A store into an element of an own slice. -/
theorem wr_store_own (hT : TOk P T) {σ : Operand → SV} {t : Nat} {a x : Operand} {c i off : Nat} {u w0 : Ty} {L : List u.den} {ti : TI} {y : w0.den} {z : List Nat} {e : u.den}
    (ht : T.find t = some ti) (hw0 : ti.ty = some w0) (ha : σ a = .elo c i off) (hc : cs[c]? = some (.own u L)) (hd : (σ x).data cs w0 = some (y, z))
    (hu : u.upd (L.getD i u.zero) off w0 y = some e) (hz : c ∉ z) :
    WrSem P (.store t a x) σ cs .dead ((freeze cs z).set c (.own u (L.set i e))) (c :: z) := by
  refine ⟨by simp [(freeze_spec z cs).1], fun d hd' hn => ?_, ?_⟩
  · simp at hn
    rw [List.getElem?_set_ne (fun e => hn.1 e.symm)]
    exact (freeze_spec z cs).2 d hn.2
  intro bs m ls Bs w act o hop M hσ Kp Q hK
  obtain ⟨m1, Bs1, E1, M1, R1⟩ := M.freeze z
  have hrep := data_rel hd R1 (SV.rel_ext E1 (hσ x))
  have hav := hσ a
  rw [ha] at hav
  simp only [SV.rel] at hav
  obtain ⟨l, b, o', hl, hA, hil, hv⟩ := hav
  have hc1 : (freeze cs z)[c]? = some (.own u L) := by rw [(freeze_spec z cs).2 c hz]; exact hc
  obtain ⟨l', B, hl', hB, hh⟩ := M1.at hc1
  rw [hl] at hl'; cases hl'
  have hh' := hh
  simp only [Chunk.holds] at hh
  obtain ⟨h0, h1, h2, h3, hh⟩ := hh
  rcases hh with ⟨hn, _⟩ | ⟨g, o2, cs', ety, hA', rfl, hheap, hroom, hall⟩
  · omega
  · rw [hA] at hA'; cases hA'
    have hi : i < List.length L := by omega
    obtain ⟨us, r1, r2⟩ := hall i hi
    have hget : List.getD L i u.zero = List.get L ⟨i, hi⟩ := by simp [List.getD, hi]
    rw [hget] at hu
    obtain ⟨q1, q2⟩ := upd_rel hu r1 hrep
    have hlu := Ty.rep_length r1
    have hlv := Ty.rep_length hrep
    have hbound : o' + i * u.width + u.width ≤ cs'.size := by
      have : (i + 1) * u.width ≤ l.cap * u.width := Nat.mul_le_mul_right _ (by omega)
      rw [Nat.add_mul] at this
      omega
    obtain ⟨w', c', e1, e2, e3, e4⟩ := run_storeCells (P := P) (g := b) (e := ety) (act.eval x).cells.toList 0 (o' + i * l.w + off) w cs' (rep_one hrep) hheap (by rw [h1]; omega)
    have hsz : (act.eval x).cells.size = ti.size := by rw [← Array.length_toList, hlv, ((hT _ _ ht).ty w0 hw0).1]
    have hrun : (execOp act.eval o).run P w = .ok .skip w' := by
      unfold execOp; rw [hop]
      simp only [Instr.storeAt, Instr.sureAddr, hv, storeVar, Sem.run_bind, Sem.run_pure, Result.andThen_ok, run_sizeOf (hT _ _ ht), hsz, ne_eq, not_true_eq_false, if_false, e1]
    unfold Oper.wp
    rw [hrun]
    simp only [Nat.add_zero] at e4
    have hcl : cs'.toList.length = cs'.size := by simp
    have M2 := M1.upd (c' := .own u (L.set i e)) hB hl e2 (fun _ h => h) (by
      simp only [Chunk.holds]
      refine ⟨h0, h1, by simp [h2], by simpa using h3, .inr ⟨b, o', c', ety, hA, rfl, e3, ?_, ?_⟩⟩
      · have : c'.size = cs'.size := by
          rw [← Array.length_toList, e4]
          simp only [List.length_append, List.length_take, List.length_drop, hcl]
          rw [h1]; omega
        rw [this]; exact hroom
      · intro k hk
        have hk' : k < List.length L := by simpa using hk
        by_cases hik : i = k
        · subst hik
          refine ⟨us.take off ++ (act.eval x).cells.toList ++ us.drop (off + (act.eval x).cells.toList.length), by rw [List.get_eq_getElem, List.getElem_set_self]; exact q1, fun j hj => ?_⟩
          rw [← Array.getElem?_toList, e4, h1, splice_get _ _ _ _ (by omega), splice_get _ _ _ _ (by omega)]
          have hj0 := r2 j hj
          rw [← Array.getElem?_toList] at hj0
          by_cases hj1 : j < off
          · rw [if_pos (by omega), if_pos hj1]; exact hj0
          · by_cases hj2 : j < off + (act.eval x).cells.toList.length
            · rw [if_neg (by omega), if_pos (by omega), if_neg hj1, if_pos hj2]
              congr 1; omega
            · rw [if_neg (by omega), if_neg (by omega), if_neg hj1, if_neg hj2]; exact hj0
        · obtain ⟨us', r1', r2'⟩ := hall k hk'
          refine ⟨us', by rw [List.get_eq_getElem, List.getElem_set_ne hik]; exact r1', fun j hj => ?_⟩
          rw [← r2' j hj, ← Array.getElem?_toList, e4, h1, ← Array.getElem?_toList, splice_get _ _ _ _ (by omega)]
          have hk2 : k < l.cap := by omega
          have hi2 : i < l.cap := by omega
          rcases Nat.lt_or_gt_of_ne hik with hlt | hgt
          · have hm : (i + 1) * u.width ≤ k * u.width := Nat.mul_le_mul_right _ hlt
            rw [Nat.add_mul] at hm
            rw [if_neg (by omega), if_neg (by omega)]
          · have hm : (k + 1) * u.width ≤ i * u.width := Nat.mul_le_mul_right _ hgt
            rw [Nat.add_mul] at hm
            rw [if_pos (by omega)])
    exact hK m1 ls _ undef _ E1 M2 (by simp only [SV.rel])

theorem setAs_rel {u : Ty} (hu : u.agg = false) {k : Nat} {y : u.den} {vy : Value} (hy : u.rep m y [vy]) : ∀ {l : List SV} {xs : List u.den} {vs : List Value} {j : Nat}, cellsAs u l = some xs → SV.rels m ls l vs → j ≤ k → 
    SV.rels m ls (setAs u k y j xs) (vs.set (k - j) vy)
  | [], xs, vs, j, h, r, hj => by
    simp only [cellsAs, Option.some.injEq] at h
    simp only [SV.rels] at r
    subst h; subst r
    simp [setAs, SV.rels]
  | s :: l, xs, vs, j, h, r, hj => by
    simp only [cellsAs] at h
    simp only [SV.rels] at r
    obtain ⟨v, us, rfl, r1, r2⟩ := r
    split at h
    · rename_i x z hx
      split at h
      · rename_i ys hys
        cases h
        have hx' := atom_rel hu hx (reads_no _ _ _) r1
        simp only [setAs]
        by_cases hkj : k = j
        · subst hkj
          simp only [if_true, Nat.sub_self, List.set_cons_zero, SV.rels]
          refine ⟨vy, us, rfl, by simp only [SV.rel, hu, Bool.false_eq_true, if_false]; exact hy, ?_⟩
          have : ∀ {l : List SV} {xs : List u.den} {vs : List Value} {j : Nat}, k < j → cellsAs u l = some xs → SV.rels m ls l vs → SV.rels m ls (setAs u k y j xs) vs := by
            intro l
            induction l with
            | nil =>
              intro xs vs j hj h r
              simp only [cellsAs, Option.some.injEq] at h
              subst h
              simpa [setAs] using r
            | cons s l ih =>
              intro xs vs j hj h r
              simp only [cellsAs] at h
              simp only [SV.rels] at r
              obtain ⟨v, us, rfl, r1, r2⟩ := r
              split at h
              · rename_i x z hx
                split at h
                · rename_i ys hys
                  cases h
                  simp only [setAs, SV.rels]
                  refine ⟨v, us, rfl, ?_, ih (by omega) hys r2⟩
                  rw [if_neg (by omega)]
                  simp only [SV.rel, hu, Bool.false_eq_true, if_false]
                  exact atom_rel hu hx (reads_no _ _ _) r1
                · cases h
              · cases h
          exact this (Nat.lt_succ_self k) hys r2
        · simp only [hkj, if_false]
          rw [show k - j = (k - (j + 1)) + 1 by omega, List.set_cons_succ]
          simp only [SV.rels]
          exact ⟨v, _, rfl, by simp only [SV.rel, hu, Bool.false_eq_true, if_false]; exact hx', setAs_rel hu hy hys r2 (by omega)⟩
      · cases h
    · cases h

/-- A store into an array's element in a box. -/
theorem wr_store_ixp (hT : TOk P T) {σ : Operand → SV} {t : Nat} {a x : Operand} {c off n k ty : Nat} {cells : List SV} {ti : TI} {u : Ty} {y : u.den} {z : List Nat} {xs : List u.den} (ht : T.find t = some ti) (hu : ti.ty = some u) (hag : u.agg = false) (ha : σ a = .ixp c off n k) (hc : cs[c]? = some (.box cells ty))
    (hy : (σ x).atom [] true u = some (y, z)) (hle : off + n ≤ cells.length) (hxs : cellsAs u (takeL n (dropL off cells)) = some xs) :
    WrSem P (.store t a x) σ cs .dead (cs.set c (.box (putCells cells (setAs u k y 0 xs) off) ty)) [c] := by
  refine ⟨by simp, fun d hd hn => by rw [List.getElem?_set_ne (by simp at hn; exact fun e => hn e.symm)], ?_⟩
  intro bs m ls Bs w act o hop M hσ Kp Q hK
  have hav := hσ a
  rw [ha] at hav
  simp only [SV.rel] at hav
  obtain ⟨l, b, hl, hA, hkn, hv⟩ := hav
  obtain ⟨l', B, hl', hB, hh⟩ := M.at hc
  rw [hl] at hl'; cases hl'
  simp only [Chunk.holds] at hh
  obtain ⟨g, cs', hA', rfl, hheap, hrel⟩ := hh
  rw [hA] at hA'; cases hA'
  have hyr := atom_rel hag hy (reads_no _ _ _) (hσ x)
  have hti := hT _ _ ht
  have hw : u.width = 1 := by cases u <;> simp_all [Ty.agg, Ty.width]
  have hsz1 : ti.size = 1 := by rw [← (hti.ty u hu).1, hw]
  have hlen2 := SV.rels_length hrel
  have hxv : (act.eval x).cells.toList = [act.eval x] := by
    have : (act.eval x).oneC = true := rep_one hyr _ (by simp)
    cases hq : act.eval x <;> rw [hq] at this <;> simp [Value.oneC] at this <;> rfl
  obtain ⟨w', c', h1, h2, h3, h4⟩ := run_storeCells (P := P) (g := b) (e := ty) [act.eval x] 0 (off + k) w cs' (by intro v hv; simp at hv; subst hv; exact rep_one hyr _ (by simp)) hheap (by simp; rw [← Array.length_toList, hlen2]; omega)
  have hrun : (execOp act.eval o).run P w = .ok .skip w' := by
    unfold execOp; rw [hop]
    have hsz : (act.eval x).cells.size = ti.size := by rw [← Array.length_toList, hxv, hsz1]; rfl
    simp only [Instr.storeAt, Instr.sureAddr, hv, storeVar, Sem.run_bind, Sem.run_pure, Result.andThen_ok, run_sizeOf hti, hsz, ne_eq, not_true_eq_false, if_false, hxv, h1]
  unfold Oper.wp
  rw [hrun]
  rw [takeL_eq, dropL_eq] at hxs
  have hset := setAs_rel hag (k := k) hyr hxs (SV.rels_take n (SV.rels_drop off hrel)) (Nat.zero_le _)
  rw [Nat.sub_zero] at hset
  have hsl := SV.rels_length hset
  have M' := M.upd (c' := .box (putCells cells (setAs u k y 0 xs) off) ty) hB hl h2 (fun _ h => h) (by
    simp only [Chunk.holds]
    refine ⟨b, c', hA, rfl, h3, ?_⟩
    have hcs3 : cs'.size = cells.length := by rw [← Array.length_toList]; exact hlen2
    have hp := putCells_rel (off := off) hrel hset (by simp; omega)
    have e : c'.toList = cs'.toList.take off ++ ((cs'.toList.drop off).take n).set k (act.eval x) ++ cs'.toList.drop (off + (((cs'.toList.drop off).take n).set k (act.eval x)).length) := by
      rw [h4]
      simp only [Nat.add_zero, List.length_singleton, List.length_set, List.length_take, List.length_drop]
      apply List.ext_getElem?
      intro i
      have hcl : cs'.toList.length = cells.length := hlen2
      have e1 := splice_get cs'.toList [act.eval x] (off + k) i (by simp; omega)
      simp only [List.length_singleton] at e1
      rw [e1]
      have e2 : (List.take off cs'.toList ++ ((List.drop off cs'.toList).take n).set k (act.eval x) ++ List.drop (off + min n (cs'.toList.length - off)) cs'.toList)[i]? = if i < off then cs'.toList[i]? else if i < off + n then (((List.drop off cs'.toList).take n).set k (act.eval x))[i - off]? else cs'.toList[i]? := by
        have := splice_get cs'.toList (((List.drop off cs'.toList).take n).set k (act.eval x)) off i (by simp; omega)
        simp only [List.length_set, List.length_take, List.length_drop] at this
        rw [this]
        have : min n (cs'.toList.length - off) = n := by omega
        rw [this]
      rw [e2]
      by_cases h1 : i < off
      · rw [if_pos (by omega), if_pos h1]
      · rw [if_neg h1]
        by_cases h2 : i < off + n
        · rw [if_pos h2]
          by_cases h3 : i = off + k
          · subst h3
            rw [if_neg (by omega), if_pos (by omega)]
            rw [show off + k - off = k by omega, List.getElem?_set_self (by simp; omega)]
            simp
          · rw [List.getElem?_set_ne (by omega), List.getElem?_take, if_pos (show i - off < n by omega), List.getElem?_drop, show off + (i - off) = i by omega]
            by_cases h4 : i < off + k
            · rw [if_pos h4]
            · rw [if_neg h4, if_neg (by omega)]
        · rw [if_neg h2, if_neg (by omega), if_neg (by omega)]
    rw [e]
    exact hp)
  exact hK m ls _ undef _ (Ext.refl _ _) M' (by simp only [SV.rel])

theorem flat_get {β : Type} (size : Nat) : ∀ (l : List (List β)), (∀ x ∈ l, x.length = size) → ∀ (i : Nat) (x : List β), l[i]? = some x → ∀ j, j < size → l.flatten[i * size + j]? = x[j]?
  | [], _, i, x, h, _, _ => by simp at h
  | a :: l, ha, i, x, h, j, hj => by
    have hl := ha a (by simp)
    cases i with
    | zero =>
      simp at h; subst h
      simp only [Nat.zero_mul, Nat.zero_add, List.flatten_cons]
      rw [List.getElem?_append_left (by omega)]
    | succ i =>
      simp at h
      simp only [List.flatten_cons]
      rw [List.getElem?_append_right (by rw [hl, Nat.add_mul]; omega)]
      have := flat_get size l (fun x hx => ha x (List.mem_cons_of_mem _ hx)) i x h j hj
      rw [← this]
      congr 1
      rw [hl, Nat.add_mul]; omega

theorem flat_len {β : Type} (size : Nat) : ∀ (l : List (List β)), (∀ x ∈ l, x.length = size) → l.flatten.length = l.length * size
  | [], _ => by simp
  | a :: l, ha => by
    simp only [List.flatten_cons, List.length_append, List.length_cons, flat_len size l (fun x hx => ha x (List.mem_cons_of_mem _ hx)), ha a (by simp), Nat.add_mul]
    omega

theorem fill_all {size : Nat} {ρ : Operand → Value} : ∀ (ps : List (Nat × Operand)) (k : Nat) (c : Array Value), inOrder k ps = true → (∀ x ∈ ps, (ρ x.2).cells.size = size) → (k + ps.length) * size ≤ c.size →
    ∃ c', Instr.fill (fun i => some (i * size, size)) c (ps.map fun x => (x.1, ρ x.2)) = some c' ∧
      c'.toList = c.toList.take (k * size) ++ (ps.map fun x => (ρ x.2).cells.toList).flatten ++ c.toList.drop ((k + ps.length) * size)
  | [], k, c, _, _, _ => ⟨c, by simp [Instr.fill], by simp⟩
  | (i, o) :: ps, k, c, ho, hs, hl => by
    simp only [inOrder] at ho
    cases hb : Nat.beq k i with
    | false => rw [hb] at ho; simp at ho
    | true =>
      rw [hb] at ho
      obtain rfl := beq_nat hb
      have hz := hs (k, o) (by simp)
      simp only at hz
      simp only [List.length_cons] at hl
      have hroom : k * size + size ≤ c.size := by
        have e : (k + (ps.length + 1)) * size = k * size + size + ps.length * size := by
          rw [Nat.add_mul, Nat.add_mul]; omega
        omega
      have hput := foldl_put c (k * size) (ρ o).cells.toList 0 c (by simp; omega)
      simp only [Nat.add_zero] at hput
      let c1 := (List.foldl (fun cs (x : Value × Nat) => cs.setIfInBounds (k * size + x.2) x.1) c ((ρ o).cells.toList.zipIdx 0))
      have hc1 : c1.size = c.size := by
        rw [← Array.length_toList, hput]
        simp
        omega
      have hroom2 : (k + 1 + ps.length) * size ≤ c1.size := by
        rw [hc1]
        have e : k + 1 + ps.length = k + (ps.length + 1) := by omega
        rw [e]; exact hl
      obtain ⟨c', e1, e2⟩ := fill_all ps (k + 1) c1 ho (fun x hx => hs x (List.mem_cons_of_mem _ hx)) hroom2
      refine ⟨c', ?_, ?_⟩
      · simp only [List.map_cons, Instr.fill]
        rw [if_neg (by simp [hz]; omega)]
        rw [← e1]
        congr 1
        rw [← Array.foldl_toList]
        simp only [c1]
        congr 1
        simp
      · rw [e2]
        have e3 : (k + 1) * size = k * size + (ρ o).cells.toList.length := by rw [Nat.add_mul]; simp; omega
        have e4 : k + 1 + ps.length = k + (ps.length + 1) := by omega
        simp only [List.map_cons, List.flatten_cons, List.length_cons]
        rw [e4, e3]
        show List.take _ c1.toList ++ _ ++ List.drop _ c1.toList = _
        rw [hput]
        have l1 : (c.toList.take (k * size)).length = k * size := by simp; omega
        rw [List.take_append_of_le_length (by simp; omega), List.take_of_length_le (by simp; omega)]
        have e5 : (k + (ps.length + 1)) * size = k * size + size + ps.length * size := by rw [Nat.add_mul, Nat.add_mul]; omega
        rw [List.drop_append, List.drop_of_length_le (by simp; omega), List.nil_append, List.drop_drop]
        simp only [List.append_assoc]
        congr 4
        simp
        omega

theorem litElems_rel {cs : List Chunk} {u : Ty} : ∀ {l : List SV} {L : List u.den} {z : List Nat} {vs : List Value}, litElems cs u l = some (L, z) → Reads m ls cs z → SV.rels m ls l vs →
    L.length = vs.length ∧ ∀ i (h : i < L.length), ∃ v, vs[i]? = some v ∧ u.rep m (L.get ⟨i, h⟩) v.cells.toList
  | [], L, z, vs, h, R, r => by
    simp only [litElems, Option.some.injEq, Prod.mk.injEq] at h
    obtain ⟨rfl, rfl⟩ := h
    simp only [SV.rels] at r
    subst r
    exact ⟨rfl, fun i h => by simp at h⟩
  | s :: l, L, z, vs, h, R, r => by
    simp only [litElems] at h
    split at h
    · rename_i x z1 hx
      split at h
      · rename_i xs z2 hxs
        cases h
        simp only [app_eq] at R
        simp only [SV.rels] at r
        obtain ⟨v, us, rfl, r1, r2⟩ := r
        obtain ⟨e1, e2⟩ := litElems_rel hxs (R.mono (by simp; exact fun c hc => .inr hc)) r2
        have e0 := data_rel hx (R.mono (by simp; exact fun c hc => .inl hc)) r1
        refine ⟨by simp [e1], fun i hi => ?_⟩
        cases i with
        | zero => exact ⟨v, by simp, e0⟩
        | succ i =>
          obtain ⟨v', q1, q2⟩ := e2 i (by simpa using hi)
          exact ⟨v', by simpa using q1, q2⟩
      · cases h
    · cases h

theorem rels_map {σ : Operand → SV} {ρ : Operand → Value} (hσ : ∀ x, (σ x).rel m ls (ρ x)) : ∀ (l : List Operand), SV.rels m ls (l.map σ) (l.map ρ)
  | [] => by simp only [List.map_nil, SV.rels]
  | a :: l => by simp only [List.map_cons, SV.rels]; exact ⟨_, _, rfl, hσ a, rels_map hσ l⟩

theorem wr_lit (hT : TOk P T) {σ : Operand → SV} {t len : Nat} {parts : Array (Nat × Operand)} {u : Ty} {te : TI} {L : List u.den} {z : List Nat} (ht : elemTy T t = some (u, te))
    (hL : litElems cs u (parts.toList.map fun x => σ x.2) = some (L, z)) (ho : inOrder 0 parts.toList = true) (hlen : parts.toList.length = len) (h24 : len * te.size ≤ 16777216) (h0 : 0 < te.size) :
    WrSem P (.buildSlice t len parts) σ cs (.own cs.length) (freeze cs z ++ [.own u L]) z := by
  refine ⟨by simp [(freeze_spec z cs).1], fun c hc hn => by rw [List.getElem?_append_left (by rw [(freeze_spec z cs).1]; exact hc)]; exact (freeze_spec z cs).2 c hn, ?_⟩
  intro bs m ls Bs w a o hop M hσ Kp Q hK
  obtain ⟨e, hund, hte, htu⟩ := elemTy_some hT ht
  obtain ⟨m1, Bs1, E1, M1, R1⟩ := M.freeze z
  have hr := rels_map (fun x => SV.rel_ext E1 (hσ x)) (parts.toList.map (·.2))
  have hmm : parts.toList.map (fun x => σ x.2) = (parts.toList.map (·.2)).map σ := by simp
  rw [hmm] at hL
  obtain ⟨q1, q2⟩ := litElems_rel hL R1 hr
  have hLlen : L.length = len := by rw [q1]; simp [hlen]
  have hw := (hte.ty u htu).1
  have hcell : ∀ x ∈ parts.toList, (a.eval x.2).cells.size = te.size := by
    intro x hx
    obtain ⟨i, hi, hxi⟩ := List.mem_iff_getElem.1 hx
    obtain ⟨v, e1, e2⟩ := q2 i (by rw [hLlen, ← hlen]; exact hi)
    have : v = a.eval x.2 := by
      rw [List.getElem?_map, List.getElem?_map, List.getElem?_eq_getElem hi, hxi] at e1
      simpa using e1.symm
    rw [← this, ← Array.length_toList, Ty.rep_length e2, hw]
  obtain ⟨i, zv, hi, hs, hby, hz, hzr, hzd, ha1, ha2⟩ := hte.info
  let base := (Array.range (len * te.size)).map (fun k => zv.cells[k % zv.cells.size]!)
  obtain ⟨c', f1, f2⟩ := fill_all (size := te.size) (ρ := a.eval) parts.toList 0 base ho hcell (by simp [base, hlen])
  simp only [Nat.zero_mul, List.take_zero, List.nil_append, Nat.zero_add, hlen] at f2
  rw [List.drop_of_length_le (by simp [base]), List.append_nil] at f2
  have hflen : ∀ x ∈ (parts.toList.map fun x => (a.eval x.2).cells.toList), x.length = te.size := by
    intro x hx
    obtain ⟨y, hy, rfl⟩ := List.mem_map.1 hx
    simpa using hcell y hy
  have hc's : c'.size = len * te.size := by
    rw [← Array.length_toList, f2, flat_len te.size _ hflen]; simp [hlen]
  have hrun : (execOp a.eval o).run P w = .ok (.value (.slice (some ⟨w.heap.size, 0, none⟩) len len)) (w.alloc (.cells c' e)) := by
    unfold execOp; rw [hop]
    have e4 : (Array.map (fun x => match x with | (i, x) => (i, a.eval x)) parts).toList = parts.toList.map fun x => (x.1, a.eval x.2) := by simp
    by_cases hl0 : len * te.size = 0
    · have hlen0 : len = 0 := by
        rcases Nat.mul_eq_zero.1 hl0 with h | h
        · exact h
        · omega
      have hp0 : parts.toList = [] := List.eq_nil_of_length_eq_zero (by omega)
      have : c' = #[] := by
        apply Array.ext'; rw [f2, hp0]; simp
      subst this
      simp only [Instr.buildSlice, Sem.run_bind, run_underlying hund, Result.andThen_ok, run_sizeOf hte, hl0]
      simp [e4, hp0, Instr.fill, newRow, hlen0]
      congr 2
      apply Array.ext'; simp
    · simp only [Instr.buildSlice, Sem.run_bind, run_underlying hund, Result.andThen_ok, run_sizeOf hte]
      rw [if_neg (by omega), if_neg hl0]
      simp only [zeroValue, typeInfo, Sem.run_bind, run_program, Result.andThen_ok, hi, hz, Sem.run_pure]
      rw [e4]
      have : (Array.map (fun x => zv.cells[x % zv.cells.size]!) (Array.range (len * te.size))) = base := rfl
      rw [this, f1]
      simp [newRow]
  unfold Oper.wp
  rw [hrun]
  let l : Loc := ⟨some ⟨w.heap.size, 0, none⟩, len, len, u.width⟩
  have M' := M1.new (.cells c' e) (c := .own u L) (l := l) (by
    simp only [Chunk.holds]
    refine ⟨by omega, rfl, hLlen.symm, by show List.length L ≤ len; omega, .inr ⟨w.heap.size, 0, c', e, rfl, rfl, heap_alloc _ _, by simp [l, hc's, hw], fun k hk => ?_⟩⟩
    obtain ⟨v, e1, e2⟩ := q2 k hk
    refine ⟨v.cells.toList, e2, fun j hj => ?_⟩
    rw [← Array.getElem?_toList, f2]
    have := flat_get te.size _ hflen k v.cells.toList (by
      rw [List.getElem?_map, List.getElem?_map] at e1
      rw [List.getElem?_map]
      cases hp : parts.toList[k]? with
      | none => rw [hp] at e1; simp at e1
      | some y => rw [hp] at e1; simp at e1; simp [e1]) j (by omega)
    rw [hw, Nat.zero_add]
    exact this)
  refine hK m1 _ _ _ _ (E1.trans (ext_push m1 ls l)) M' ?_
  simp only [SV.rel]
  exact ⟨l, by rw [← M.nl]; simp, rfl⟩

/-- A literal of told elements: what its run makes. -/
theorem lit_made (hT : TOk P T) {σ : Operand → SV} {ρ : Operand → Value} {t len : Nat} {parts : Array (Nat × Operand)} {u : Ty} {te : TI} {L : List u.den} (ht : elemTy T t = some (u, te))
    (hL : litElems [] u (parts.toList.map fun x => σ x.2) = some (L, [])) (ho : inOrder 0 parts.toList = true) (hlen : parts.toList.length = len) (h24 : len * te.size ≤ 16777216) (h0 : 0 < te.size)
    {o : Oper} (hop : o.op = .buildSlice t len parts) (hσ : ∀ x, (σ x).rel m ls (ρ x)) :
    ∃ obj, (execOp ρ o).run P w = .ok (.value (.slice (some ⟨w.heap.size, 0, none⟩) len len)) (w.alloc obj) ∧
      ∀ ls' g (w' : World), w'.heap[g]? = some obj → (Chunk.own u L).holds m ls' w' ⟨some ⟨g, 0, none⟩, len, len, u.width⟩ [g] := by
  obtain ⟨e, hund, hte, htu⟩ := elemTy_some hT ht
  have hr := rels_map hσ (parts.toList.map (·.2))
  have hmm : parts.toList.map (fun x => σ x.2) = (parts.toList.map (·.2)).map σ := by simp
  rw [hmm] at hL
  obtain ⟨q1, q2⟩ := litElems_rel hL (reads_no m ls []) hr
  have hLlen : L.length = len := by rw [q1]; simp [hlen]
  have hw := (hte.ty u htu).1
  have hcell : ∀ x ∈ parts.toList, (ρ x.2).cells.size = te.size := by
    intro x hx
    obtain ⟨i, hi, hxi⟩ := List.mem_iff_getElem.1 hx
    obtain ⟨v, e1, e2⟩ := q2 i (by rw [hLlen, ← hlen]; exact hi)
    have : v = ρ x.2 := by
      rw [List.getElem?_map, List.getElem?_map, List.getElem?_eq_getElem hi, hxi] at e1
      simpa using e1.symm
    rw [← this, ← Array.length_toList, Ty.rep_length e2, hw]
  obtain ⟨i, zv, hi, hs, hby, hz, hzr, hzd, ha1, ha2⟩ := hte.info
  let base := (Array.range (len * te.size)).map (fun k => zv.cells[k % zv.cells.size]!)
  obtain ⟨c', f1, f2⟩ := fill_all (size := te.size) (ρ := ρ) parts.toList 0 base ho hcell (by simp [base, hlen])
  simp only [Nat.zero_mul, List.take_zero, List.nil_append, Nat.zero_add, hlen] at f2
  rw [List.drop_of_length_le (by simp [base]), List.append_nil] at f2
  have hflen : ∀ x ∈ (parts.toList.map fun x => (ρ x.2).cells.toList), x.length = te.size := by
    intro x hx
    obtain ⟨y, hy, rfl⟩ := List.mem_map.1 hx
    simpa using hcell y hy
  have hc's : c'.size = len * te.size := by
    rw [← Array.length_toList, f2, flat_len te.size _ hflen]; simp [hlen]
  have hrun : (execOp ρ o).run P w = .ok (.value (.slice (some ⟨w.heap.size, 0, none⟩) len len)) (w.alloc (.cells c' e)) := by
    unfold execOp; rw [hop]
    have e4 : (Array.map (fun x => match x with | (i, x) => (i, ρ x)) parts).toList = parts.toList.map fun x => (x.1, ρ x.2) := by simp
    by_cases hl0 : len * te.size = 0
    · have hlen0 : len = 0 := by
        rcases Nat.mul_eq_zero.1 hl0 with h | h
        · exact h
        · omega
      have hp0 : parts.toList = [] := List.eq_nil_of_length_eq_zero (by omega)
      have : c' = #[] := by
        apply Array.ext'; rw [f2, hp0]; simp
      subst this
      simp only [Instr.buildSlice, Sem.run_bind, run_underlying hund, Result.andThen_ok, run_sizeOf hte, hl0]
      simp [e4, hp0, Instr.fill, newRow, hlen0]
      congr 2
      apply Array.ext'; simp
    · simp only [Instr.buildSlice, Sem.run_bind, run_underlying hund, Result.andThen_ok, run_sizeOf hte]
      rw [if_neg (by omega), if_neg hl0]
      simp only [zeroValue, typeInfo, Sem.run_bind, run_program, Result.andThen_ok, hi, hz, Sem.run_pure]
      rw [e4]
      have : (Array.map (fun x => zv.cells[x % zv.cells.size]!) (Array.range (len * te.size))) = base := rfl
      rw [this, f1]
      simp [newRow]
  refine ⟨_, hrun, fun ls' g w' hg => ?_⟩
  simp only [Chunk.holds]
  refine ⟨by omega, trivial, hLlen.symm, by show List.length L ≤ len; omega, .inr ⟨g, 0, c', e, rfl, rfl, hg, by simp [hc's, hw], fun k hk => ?_⟩⟩
  obtain ⟨v, e1, e2⟩ := q2 k hk
  refine ⟨v.cells.toList, e2, fun j hj => ?_⟩
  rw [← Array.getElem?_toList, f2]
  have := flat_get te.size _ hflen k v.cells.toList (by
    rw [List.getElem?_map, List.getElem?_map] at e1
    rw [List.getElem?_map]
    cases hp : parts.toList[k]? with
    | none => rw [hp] at e1; simp at e1
    | some y => rw [hp] at e1; simp at e1; simp [e1]) j (by omega)
  rw [hw, Nat.zero_add]
  exact this

theorem atom_told {st : Bool} {u : Ty} {s : SV} {r : u.den × List Nat} (cs : List Chunk) (h : s.atom [] st u = some r) : s.atom cs st u = some r := by
  cases s with
  | own c => simp only [SV.atom, nth] at h; cases st <;> simp at h
  | sub c lo n => simp only [SV.atom, nth] at h; cases st <;> simp at h
  | _ => exact h
theorem take_told {st : Bool} (cs : List Chunk) : ∀ {t : Ty} {l : List SV} {r : t.den × List SV × List Nat}, t.take [] st l = some r → t.take cs st l = some r
  | .pair a b, l, r, h => by
    simp only [Ty.take] at h ⊢
    split at h
    · rename_i x l1 z h1
      rw [take_told cs h1]
      simp only
      split at h
      · rename_i y l2 z2 h2
        rw [take_told cs h2]; exact h
      · cases h
    · cases h
  | .unit, l, r, h => by simp only [Ty.take] at h ⊢; exact h
  | .int k, [], r, h => by simp [Ty.take] at h
  | .bool, [], r, h => by simp [Ty.take] at h
  | .str, [], r, h => by simp [Ty.take] at h
  | .slice t, [], r, h => by simp [Ty.take] at h
  | .int k, v :: l, r, h => by
    simp only [Ty.take] at h ⊢
    split at h
    · rename_i x z hx; rw [atom_told cs hx]; exact h
    · cases h
  | .bool, v :: l, r, h => by
    simp only [Ty.take] at h ⊢
    split at h
    · rename_i x z hx; rw [atom_told cs hx]; exact h
    · cases h
  | .str, v :: l, r, h => by
    simp only [Ty.take] at h ⊢
    split at h
    · rename_i x z hx; rw [atom_told cs hx]; exact h
    · cases h
  | .slice t, v :: l, r, h => by
    simp only [Ty.take] at h ⊢
    split at h
    · rename_i x z hx; rw [atom_told cs hx]; exact h
    · cases h
theorem data_told {u : Ty} {s : SV} {r : u.den × List Nat} (cs : List Chunk) (h : s.data [] u = some r) : s.data cs u = some r := by
  unfold SV.data at h ⊢
  cases hu : u.agg with
  | false => rw [hu] at h; exact atom_told cs h
  | true =>
    rw [hu] at h
    simp only [cond_true] at h ⊢
    split at h
    · exact h
    · split at h
      · rename_i x z hx; rw [take_told cs hx]; exact h
      · cases h
    · cases h
theorem litElems_told {u : Ty} (cs : List Chunk) : ∀ {l : List SV} {r : List u.den × List Nat}, litElems [] u l = some r → litElems cs u l = some r
  | [], r, h => by simp only [litElems] at h ⊢; exact h
  | v :: l, r, h => by
    simp only [litElems] at h ⊢
    split at h
    · rename_i x z hx
      rw [data_told cs hx]
      simp only
      split at h
      · rename_i xs z2 h2
        rw [litElems_told cs h2]; exact h
      · cases h
    · cases h

theorem atom_flat {cs : List Chunk} {st : Bool} {u : Ty} {s : SV} {x : u.den} {z : List Nat} (hf : u.flat = true) (h : s.atom cs st u = some (x, z)) : z = [] := by
  have no : ∀ {t : Ty}, t.slice = u → False := fun e => by subst e; simp [Ty.flat] at hf
  cases s with
  | p t y =>
    simp only [SV.atom] at h
    split at h
    · cases h; rfl
    · cases h
  | cb b =>
    simp only [SV.atom] at h
    cases u <;> simp at h
    exact h.2
  | nils =>
    simp only [SV.atom] at h
    cases st <;> simp at h
    cases u <;> simp [Ty.flat] at h hf
  | own c =>
    simp only [SV.atom] at h
    cases st <;> simp at h
    split at h
    · split at h
      · rename_i y hy; obtain ⟨e, _⟩ := cast?_some hy; exact (no e).elim
      · cases h
    · split at h
      · rename_i y hy; obtain ⟨e, _⟩ := cast?_some hy; exact (no e).elim
      · cases h
    · cases h
  | sub c lo n =>
    simp only [SV.atom] at h
    cases st <;> simp at h
    split at h
    · split at h
      · rename_i y hy; obtain ⟨e, _⟩ := cast?_some hy; exact (no e).elim
      · cases h
    · split at h
      · rename_i y hy; obtain ⟨e, _⟩ := cast?_some hy; exact (no e).elim
      · cases h
    · cases h
  | pf t L =>
    simp only [SV.atom] at h
    split at h
    · cases h; rfl
    · cases h
  | _ => simp [SV.atom] at h

theorem take_flat {cs : List Chunk} {st : Bool} : ∀ {t : Ty} {l l' : List SV} {x : t.den} {z : List Nat}, t.flat = true → t.take cs st l = some (x, l', z) → z = []
  | .pair a b, l, l', x, z, hf, h => by
    have hab : a.flat = true ∧ b.flat = true := by simp only [Ty.flat] at hf; cases ha : a.flat <;> simp_all
    simp only [Ty.take] at h
    split at h
    · rename_i x1 l1 z1 h1
      split at h
      · rename_i y l2 z2 h2
        cases h
        rw [take_flat hab.1 h1, take_flat hab.2 h2]; rfl
      · cases h
    · cases h
  | .unit, l, l', x, z, _, h => by
    simp only [Ty.take, Option.some.injEq, Prod.mk.injEq] at h
    exact h.2.2.symm
  | .int k, [], _, _, _, _, h => by simp [Ty.take] at h
  | .bool, [], _, _, _, _, h => by simp [Ty.take] at h
  | .str, [], _, _, _, _, h => by simp [Ty.take] at h
  | .slice t, _, _, _, _, hf, _ => by simp [Ty.flat] at hf
  | .int k, v :: l, l', x, z, hf, h => by
    simp only [Ty.take] at h
    split at h
    · rename_i y z' hy; cases h; exact atom_flat hf hy
    · cases h
  | .bool, v :: l, l', x, z, hf, h => by
    simp only [Ty.take] at h
    split at h
    · rename_i y z' hy; cases h; exact atom_flat hf hy
    · cases h
  | .str, v :: l, l', x, z, hf, h => by
    simp only [Ty.take] at h
    split at h
    · rename_i y z' hy; cases h; exact atom_flat hf hy
    · cases h

theorem data_flat {cs : List Chunk} {u : Ty} {s : SV} {x : u.den} {z : List Nat} (hf : u.flat = true) (h : s.data cs u = some (x, z)) : z = [] := by
  unfold SV.data at h
  cases hu : u.agg with
  | true =>
    rw [hu] at h
    simp only [cond_true] at h
    split at h
    · split at h
      · cases h; rfl
      · cases h
    · split at h
      · rename_i y z' hy; cases h; exact take_flat hf hy
      · cases h
    · cases h
  | false =>
    rw [hu] at h
    simp only [cond_false] at h
    exact atom_flat hf h

theorem atomF_rel {cs : List Chunk} {st : Bool} {u : Ty} {s : SV} {x : u.den} {z : List Nat} {v : Value} (hf : u.flat = true) (hu : u.agg = false) (h : s.atom cs st u = some (x, z)) (r : s.rel m ls v) : u.rep m x [v] := by
  have no : ∀ {t : Ty}, t.slice = u → False := fun e => by subst e; simp [Ty.flat] at hf
  cases s with
  | own c =>
    simp only [SV.atom] at h
    cases st <;> simp at h
    split at h
    · split at h
      · rename_i y hy; obtain ⟨e, _⟩ := cast?_some hy; exact (no e).elim
      · cases h
    · split at h
      · rename_i y hy; obtain ⟨e, _⟩ := cast?_some hy; exact (no e).elim
      · cases h
    · cases h
  | sub c lo n =>
    simp only [SV.atom] at h
    cases st <;> simp at h
    split at h
    · split at h
      · rename_i y hy; obtain ⟨e, _⟩ := cast?_some hy; exact (no e).elim
      · cases h
    · split at h
      · rename_i y hy; obtain ⟨e, _⟩ := cast?_some hy; exact (no e).elim
      · cases h
    · cases h
  | p t y => exact atom_rel (cs := []) (strict := st) hu (by simpa only [SV.atom] using h) (reads_no _ _ _) r
  | cb b => exact atom_rel (cs := []) (strict := st) hu (by simpa only [SV.atom] using h) (reads_no _ _ _) r
  | nils => exact atom_rel (cs := []) (strict := st) hu (by simpa only [SV.atom] using h) (reads_no _ _ _) r
  | pf t L => exact atom_rel (cs := []) (strict := st) hu (by simpa only [SV.atom] using h) (reads_no _ _ _) r
  | _ => simp [SV.atom] at h

theorem takeF_rel {cs : List Chunk} {st : Bool} : ∀ {t : Ty} {l l' : List SV} {x : t.den} {z : List Nat} {vs : List Value}, t.flat = true → t.take cs st l = some (x, l', z) →
    SV.rels m ls l vs → ∃ us ws, vs = us ++ ws ∧ t.rep m x us ∧ SV.rels m ls l' ws
  | .pair a b, l, l', x, z, vs, hf, h, r => by
    have hab : a.flat = true ∧ b.flat = true := by simp only [Ty.flat] at hf; cases ha : a.flat <;> simp_all
    simp only [Ty.take] at h
    split at h
    · rename_i x1 l1 z1 h1
      split at h
      · rename_i y l2 z2 h2
        cases h
        obtain ⟨us, ws, rfl, h3, h4⟩ := takeF_rel hab.1 h1 r
        obtain ⟨us', ws', rfl, h5, h6⟩ := takeF_rel hab.2 h2 h4
        exact ⟨us ++ us', ws', by simp, by simp only [Ty.rep]; exact ⟨us, us', rfl, h3, h5⟩, h6⟩
      · cases h
    · cases h
  | .unit, l, l', x, z, vs, _, h, r => by
    simp only [Ty.take, Option.some.injEq, Prod.mk.injEq] at h
    obtain ⟨_, rfl, rfl⟩ := h
    exact ⟨[], vs, rfl, by simp only [Ty.rep], r⟩
  | .int k, [], _, _, _, _, _, h, _ => by simp [Ty.take] at h
  | .bool, [], _, _, _, _, _, h, _ => by simp [Ty.take] at h
  | .str, [], _, _, _, _, _, h, _ => by simp [Ty.take] at h
  | .slice t, _, _, _, _, _, hf, _, _ => by simp [Ty.flat] at hf
  | .int k, v :: l, l', x, z, vs, hf, h, r => by
    simp only [Ty.take] at h
    simp only [SV.rels] at r
    obtain ⟨v', us, rfl, r1, r2⟩ := r
    split at h
    · rename_i y z' hy; cases h; exact ⟨[v'], us, rfl, atomF_rel hf rfl hy r1, r2⟩
    · cases h
  | .bool, v :: l, l', x, z, vs, hf, h, r => by
    simp only [Ty.take] at h
    simp only [SV.rels] at r
    obtain ⟨v', us, rfl, r1, r2⟩ := r
    split at h
    · rename_i y z' hy; cases h; exact ⟨[v'], us, rfl, atomF_rel hf rfl hy r1, r2⟩
    · cases h
  | .str, v :: l, l', x, z, vs, hf, h, r => by
    simp only [Ty.take] at h
    simp only [SV.rels] at r
    obtain ⟨v', us, rfl, r1, r2⟩ := r
    split at h
    · rename_i y z' hy; cases h; exact ⟨[v'], us, rfl, atomF_rel hf rfl hy r1, r2⟩
    · cases h

theorem dataF_rel {cs : List Chunk} {u : Ty} {s : SV} {x : u.den} {z : List Nat} {v : Value} (hf : u.flat = true) (h : s.data cs u = some (x, z)) (r : s.rel m ls v) : u.rep m x v.cells.toList := by
  unfold SV.data at h
  cases hu : u.agg with
  | true =>
    rw [hu] at h
    simp only [cond_true] at h
    split at h
    · rename_i t y
      split at h
      · rename_i y' hy
        cases h
        obtain ⟨e, rfl⟩ := cast?_some hy
        subst e
        simp only [SV.rel, hu, if_true] at r
        obtain ⟨cs', rfl, h2⟩ := r
        exact h2
      · cases h
    · rename_i l
      split at h
      · rename_i y z' hy
        cases h
        simp only [SV.rel] at r
        obtain ⟨cs', rfl, h2⟩ := r
        obtain ⟨us, ws, e, h3, h4⟩ := takeF_rel hf hy h2
        simp only [SV.rels] at h4
        subst h4
        simp only [Value.cells, e, List.append_nil]
        exact h3
      · cases h
    · cases h
  | false =>
    rw [hu] at h
    simp only [cond_false] at h
    have := atomF_rel hf hu h r
    have hv : v.cells.toList = [v] := by
      cases u <;> simp [Ty.agg, Ty.flat] at hu hf <;> simp only [Ty.rep] at this
      · simp at this; subst this; rfl
      · simp at this; subst this; rfl
      · simp at this; subst this; rfl
    rw [hv]; exact this

theorem litElems_flat {cs : List Chunk} {u : Ty} (hf : u.flat = true) : ∀ {l : List SV} {L : List u.den} {z : List Nat}, litElems cs u l = some (L, z) → z = []
  | [], L, z, h => by simp only [litElems, Option.some.injEq, Prod.mk.injEq] at h; exact h.2.symm
  | v :: l, L, z, h => by
    simp only [litElems] at h
    split at h
    · rename_i x z1 h1
      split at h
      · rename_i xs z2 h2
        cases h
        rw [data_flat hf h1, litElems_flat hf h2]; rfl
      · cases h
    · cases h

theorem litElems_relF {cs : List Chunk} {u : Ty} (hf : u.flat = true) : ∀ {l : List SV} {L : List u.den} {vs : List Value}, litElems cs u l = some (L, []) → SV.rels m ls l vs →
    L.length = l.length ∧ ∀ (i : Nat) (h : i < L.length), ∃ v, vs[i]? = some v ∧ u.rep m L[i] v.cells.toList
  | [], L, vs, h, r => by
    simp only [litElems, Option.some.injEq, Prod.mk.injEq] at h
    obtain ⟨rfl, _⟩ := h
    exact ⟨rfl, fun i h => by simp at h⟩
  | s :: l, L, vs, h, r => by
    simp only [litElems] at h
    simp only [SV.rels] at r
    obtain ⟨v, us, rfl, r1, r2⟩ := r
    split at h
    · rename_i x z1 h1
      split at h
      · rename_i xs z2 h2
        simp only [Option.some.injEq, Prod.mk.injEq] at h
        obtain ⟨rfl, _⟩ := h
        have hz2 := litElems_flat hf h2
        subst hz2
        have hz1 := data_flat hf h1
        subst hz1
        obtain ⟨q1, q2⟩ := litElems_relF hf h2 r2
        refine ⟨by simp [q1], fun i hi => ?_⟩
        cases i with
        | zero => exact ⟨v, rfl, dataF_rel hf h1 r1⟩
        | succ i =>
          obtain ⟨v', e1, e2⟩ := q2 i (by simpa using hi)
          exact ⟨v', by simpa using e1, by simpa using e2⟩
      · cases h
    · cases h

/-- A literal of flat elements: what its run makes. -/
theorem lit_run (hT : TOk P T) {σ : Operand → SV} {ρ : Operand → Value} {t len : Nat} {parts : Array (Nat × Operand)} {u : Ty} {te : TI} {L : List u.den} {z : List Nat} (hf : u.flat = true) (ht : elemTy T t = some (u, te))
    (hL : litElems cs u (parts.toList.map fun x => σ x.2) = some (L, z)) (ho : inOrder 0 parts.toList = true) (hlen : parts.toList.length = len) (h24 : len * te.size ≤ 16777216) (h0 : 0 < te.size) (hσ : ∀ x, (σ x).rel m ls (ρ x)) (e : Nat) (hund : P.underlying t = some (.slice e)) (hte : te.ok P e) (w : World) :
    (Instr.buildSlice t len (parts.map fun (i, x) => (i, ρ x))).run P w = .ok (.slice (some ⟨w.heap.size, 0, none⟩) len len) (w.alloc (.cells (L.map u.vals).flatten.toArray e)) := by
  have hz := litElems_flat hf hL
  subst hz
  obtain ⟨e', hund', hte', htu⟩ := elemTy_some hT ht
  have hr := rels_map hσ (parts.toList.map (·.2))
  have hmm : parts.toList.map (fun x => σ x.2) = (parts.toList.map (·.2)).map σ := by simp
  rw [hmm] at hL
  have hw := (hte'.ty u htu).1
  have R0 : ∀ (c : Nat) (l : Loc) (t : Ty) (L : List t.den), True := fun _ _ _ _ => trivial
  obtain ⟨q1, q2⟩ := litElems_relF hf hL hr
  have hLlen : L.length = len := by rw [q1]; simp [hlen]
  have hcells : ∀ (i : Nat) x, parts.toList[i]? = some x → ∃ h : i < L.length, (ρ x.2).cells.toList = u.vals L[i] := by
    intro i x hx
    have hi : i < L.length := by rw [hLlen, ← hlen]; exact get_lt hx
    obtain ⟨v, e1, e2⟩ := q2 i hi
    rw [List.getElem?_map, List.getElem?_map, hx] at e1
    simp at e1
    exact ⟨hi, by rw [e1]; exact rep_vals hf e2⟩
  have hcell : ∀ x ∈ parts.toList, (ρ x.2).cells.size = te.size := by
    intro x hx
    obtain ⟨i, hi⟩ := List.getElem?_of_mem hx
    obtain ⟨h1, h2⟩ := hcells i x hi
    rw [← Array.length_toList, h2, vals_len hf, hw]
  have hfl : (parts.toList.map fun x => (ρ x.2).cells.toList) = L.map u.vals := by
    apply List.ext_getElem?
    intro i
    simp only [List.getElem?_map]
    cases hx : parts.toList[i]? with
    | none =>
      have : L.length ≤ i := by rw [hLlen, ← hlen]; exact List.getElem?_eq_none_iff.1 hx
      rw [List.getElem?_eq_none this]; rfl
    | some x =>
      obtain ⟨h1, h2⟩ := hcells i x hx
      rw [List.getElem?_eq_getElem h1]
      simp [h2]
  obtain ⟨i, zv, hi, hs, hby, hz, hzr, hzd, ha1, ha2⟩ := hte.info
  let base := (Array.range (len * te.size)).map (fun k => zv.cells[k % zv.cells.size]!)
  obtain ⟨c', f1, f2⟩ := fill_all (size := te.size) (ρ := ρ) parts.toList 0 base ho hcell (by simp [base, hlen])
  simp only [Nat.zero_mul, List.take_zero, List.nil_append, Nat.zero_add, hlen] at f2
  rw [List.drop_of_length_le (by simp [base]), List.append_nil, hfl] at f2
  have hc' : c' = (L.map u.vals).flatten.toArray := by apply Array.ext'; rw [f2]
  have e4 : (Array.map (fun x => match x with | (i, x) => (i, ρ x)) parts).toList = parts.toList.map fun x => (x.1, ρ x.2) := by simp
  rw [← hc']
  by_cases hl0 : len * te.size = 0
  · have hlen0 : len = 0 := by
      rcases Nat.mul_eq_zero.1 hl0 with h | h
      · exact h
      · omega
    have hp0 : parts.toList = [] := List.eq_nil_of_length_eq_zero (by omega)
    have : c' = #[] := by
      rw [hc']
      have : L = [] := List.eq_nil_of_length_eq_zero (by omega)
      subst this; rfl
    subst this
    simp only [Instr.buildSlice, Sem.run_bind, run_underlying hund, Result.andThen_ok, run_sizeOf hte, hl0]
    simp [e4, hp0, Instr.fill, newRow, hlen0]
    congr 2
    apply Array.ext'; simp
  · simp only [Instr.buildSlice, Sem.run_bind, run_underlying hund, Result.andThen_ok, run_sizeOf hte]
    rw [if_neg (by omega), if_neg hl0]
    simp only [zeroValue, typeInfo, Sem.run_bind, run_program, Result.andThen_ok, hi, hz, Sem.run_pure]
    rw [e4]
    have : (Array.map (fun x => zv.cells[x % zv.cells.size]!) (Array.range (len * te.size))) = base := rfl
    rw [this, f1]
    simp [newRow]

theorem wrap_i64 {n : Int} (h0 : 0 ≤ n) (h : n ≤ 4611686018427387904) : IntKind.i64.wrap n = n := by
  simp only [IntKind.wrap, IntKind.signed, IntKind.bits]
  have e : n % (2 ^ 64 : Int) = n := Int.emod_eq_of_lt h0 (by omega)
  have e' : (2 : Int) ^ 64 = 18446744073709551616 := by decide
  have e'' : (2 : Int) ^ (64 - 1) = 9223372036854775808 := by decide
  simp only [e', e'', Bool.true_and] at *
  rw [e]
  rw [if_neg]
  simp
  omega

theorem wr_make (hT : TOk P T) {σ : Operand → SV} {t : Nat} {l c : Operand} {u : Ty} {te : TI} (ht : elemTy T t = some (u, te)) (hsz : te.size ≠ 0) {n k : Int}
    (hl : σ l = .p (.int .i64) n) (hc : σ c = .p (.int .i64) k) (h0 : 0 ≤ n) (h1 : n ≤ k) (h2 : k * ((te.bytes : Int) + 1) ≤ 281474976710656) :
    WrSem P (.makeSlice t l c) σ cs (.own cs.length) (cs ++ [.own u (List.replicate n.toNat u.zero)]) [] := by
  refine ⟨by simp, fun d hd hn => by rw [List.getElem?_append_left hd], ?_⟩
  intro bs m ls Bs w a o hop M hσ Kp Q hK
  obtain ⟨e, hund, hte, htu⟩ := elemTy_some hT ht
  have hw := (hte.ty u htu).1
  obtain ⟨i, zv, hi, hs, hby, hz, hzr, hzd, ha1, ha2⟩ := hte.info
  have el := hσ l
  rw [hl] at el
  have el := SV.int_rel el
  have ec := hσ c
  rw [hc] at ec
  have ec := SV.int_rel ec
  have hzlen : zv.cells.size = te.size := by
    have := Ty.rep_length (hzd u htu m)
    rw [← Array.length_toList, this, hw]
  have hk0 : 0 ≤ k := by omega
  have hkb : k * (te.bytes : Int) + k ≤ 281474976710656 := by rw [Int.mul_add, Int.mul_one] at h2; exact h2
  have hb0 : 0 ≤ k * (te.bytes : Int) := Int.mul_nonneg hk0 (by omega)
  let cells := (Array.range (k.toNat * te.size)).map (fun q => zv.cells[q % zv.cells.size]!)
  have hrun : (execOp a.eval o).run P w = .ok (.value (.slice (some ⟨w.heap.size, 0, none⟩) n.toNat k.toNat)) (w.alloc (.cells cells e)) := by
    unfold execOp; rw [hop]
    simp only [Instr.makeSlice, Sem.run_bind, run_underlying hund, Result.andThen_ok, el, ec, asInt, asIntOf, Sem.run_pure, typeInfo, run_program, hi, run_sizeOf hte]
    have hwn : IntKind.i64.wrap n = n := wrap_i64 h0 (by omega)
    have hwk : IntKind.i64.wrap k = k := wrap_i64 hk0 (by omega)
    have hne : i.bytes = te.bytes := hby
    simp only [hwn, hwk, hne]
    have hno : ((decide (k < 0) || decide ((te.bytes : Int) * k > 2 ^ 48)) || decide (n < 0) || decide (n > k)) = false := by
      have e48 : (2 : Int) ^ 48 = 281474976710656 := by decide
      have : (te.bytes : Int) * k = k * te.bytes := Int.mul_comm _ _
      simp only [e48, this, Bool.or_eq_false_iff, decide_eq_false_iff_not]
      omega
    simp only [hno, Bool.false_eq_true, if_false, Sem.run_bind, run_askRoom, Result.andThen_ok, run_sizeOf hte]
    by_cases hz0 : k.toNat * te.size = 0
    · have hk00 : k.toNat = 0 := by
        rcases Nat.mul_eq_zero.1 hz0 with h | h
        · exact h
        · exact absurd h hsz
      have : cells = #[] := by apply Array.ext'; simp [cells, hz0]
      rw [this]
      have e0 : (Array.map (fun x => (#[] : Array Value)[x % (#[] : Array Value).size]!) (Array.range 0)) = #[] := by apply Array.ext'; simp
      simp only [hz0, if_true, Sem.run_pure, Result.andThen_ok, newRow, Sem.run_bind, run_newObj, e0]
      rfl
    · rw [if_neg hz0]
      simp only [zeroValue, typeInfo, Sem.run_bind, run_program, Result.andThen_ok, hi, hz, Sem.run_pure, newRow, run_newObj]
      rfl
  unfold Oper.wp
  rw [hrun]
  let lo : Loc := ⟨some ⟨w.heap.size, 0, none⟩, n.toNat, k.toNat, u.width⟩
  have M' := M.new (.cells cells e) (c := .own u (List.replicate n.toNat u.zero)) (l := lo) (by
    simp only [Chunk.holds]
    refine ⟨by omega, rfl, by simp [lo], by simp [lo]; omega, .inr ⟨w.heap.size, 0, cells, e, rfl, rfl, heap_alloc _ _, by simp [lo, cells, hw], fun q hq => ?_⟩⟩
    have hq' : q < n.toNat := by simpa using hq
    refine ⟨zv.cells.toList, by simpa using hzd u htu m, fun j hj => ?_⟩
    have hlt : 0 + q * u.width + j < k.toNat * te.size := by
      have : (q + 1) * u.width ≤ k.toNat * u.width := Nat.mul_le_mul_right _ (by omega)
      rw [Nat.add_mul] at this
      rw [← hw]; omega
    have hmod : (0 + q * u.width + j) % zv.cells.size = j := by
      rw [hzlen, ← hw, Nat.zero_add, Nat.add_comm, Nat.add_mul_mod_self_right, Nat.mod_eq_of_lt hj]
    have hj' : j < zv.cells.size := by rw [hzlen, ← hw]; exact hj
    have hget : cells[0 + q * u.width + j]? = some (zv.cells[(0 + q * u.width + j) % zv.cells.size]!) := by
      simp only [cells, Array.getElem?_map]
      rw [Array.getElem?_eq_getElem (by simpa using hlt)]
      simp
    rw [hget, hmod, getElem!_pos zv.cells j hj']
    rw [List.getElem?_eq_getElem (by simpa using hj')]
    simp)
  refine hK m _ _ _ _ (ext_push m ls lo) M' ?_
  simp only [SV.rel]
  exact ⟨lo, by rw [← M.nl]; simp, rfl⟩

theorem make_core (hT : TOk P T) {t : Nat} {u : Ty} {te : TI} (ht : elemTy T t = some (u, te)) (hsz : te.size ≠ 0) {n k : Int} (h0 : 0 ≤ n) (h1 : n ≤ k) (h2 : k * ((te.bytes : Int) + 1) ≤ 281474976710656) :
    ∃ e cells, (∀ (m : Mm) (ls : List Loc) (g : Nat) (w : World), w.heap[g]? = some (.cells cells e (0, 0)) → (Chunk.own u (List.replicate n.toNat u.zero)).holds m ls w ⟨some ⟨g, 0, none⟩, n.toNat, k.toNat, u.width⟩ [g]) ∧
      ∀ (vl vc : Value) (w : World), vl = .int .i64 n → vc = .int .i64 k → (Instr.makeSlice t vl vc).run P w = .ok (.slice (some ⟨w.heap.size, 0, none⟩) n.toNat k.toNat) (w.alloc (.cells cells e)) := by
  obtain ⟨e, hund, hte, htu⟩ := elemTy_some hT ht
  have hw := (hte.ty u htu).1
  obtain ⟨i, zv, hi, hs, hby, hz, hzr, hzd, ha1, ha2⟩ := hte.info
  have hzlen : zv.cells.size = te.size := by
    have := Ty.rep_length (hzd u htu (fun _ _ => none))
    rw [← Array.length_toList, this, hw]
  have hk0 : 0 ≤ k := by omega
  have hkb : k * (te.bytes : Int) + k ≤ 281474976710656 := by rw [Int.mul_add, Int.mul_one] at h2; exact h2
  have hb0 : 0 ≤ k * (te.bytes : Int) := Int.mul_nonneg hk0 (by omega)
  let cells := (Array.range (k.toNat * te.size)).map (fun q => zv.cells[q % zv.cells.size]!)
  refine ⟨e, cells, fun m ls g w hg => ?_, fun vl vc w el ec => ?_⟩
  · simp only [Chunk.holds]
    refine ⟨by omega, by first | rfl | trivial, by simp, by simp; omega, .inr ⟨g, 0, cells, e, by first | rfl | trivial, by first | rfl | trivial, hg, by simp [cells, hw], fun q hq => ?_⟩⟩
    have hq' : q < n.toNat := by simpa using hq
    refine ⟨zv.cells.toList, by simpa using hzd u htu m, fun j hj => ?_⟩
    have hlt : 0 + q * u.width + j < k.toNat * te.size := by
      have : (q + 1) * u.width ≤ k.toNat * u.width := Nat.mul_le_mul_right _ (by omega)
      rw [Nat.add_mul] at this
      rw [← hw]; omega
    have hmod : (0 + q * u.width + j) % zv.cells.size = j := by
      rw [hzlen, ← hw, Nat.zero_add, Nat.add_comm, Nat.add_mul_mod_self_right, Nat.mod_eq_of_lt hj]
    have hj' : j < zv.cells.size := by rw [hzlen, ← hw]; exact hj
    have hget : cells[0 + q * u.width + j]? = some (zv.cells[(0 + q * u.width + j) % zv.cells.size]!) := by
      simp only [cells, Array.getElem?_map]
      rw [Array.getElem?_eq_getElem (by simpa using hlt)]
      simp
    rw [hget, hmod, getElem!_pos zv.cells j hj']
    rw [List.getElem?_eq_getElem (by simpa using hj')]
    simp
  · simp only [Instr.makeSlice, Sem.run_bind, run_underlying hund, Result.andThen_ok, el, ec, asInt, asIntOf, Sem.run_pure, typeInfo, run_program, hi, run_sizeOf hte]
    have hwn : IntKind.i64.wrap n = n := wrap_i64 h0 (by omega)
    have hwk : IntKind.i64.wrap k = k := wrap_i64 hk0 (by omega)
    have hne : i.bytes = te.bytes := hby
    simp only [hwn, hwk, hne]
    have hno : ((decide (k < 0) || decide ((te.bytes : Int) * k > 2 ^ 48)) || decide (n < 0) || decide (n > k)) = false := by
      have e48 : (2 : Int) ^ 48 = 281474976710656 := by decide
      have : (te.bytes : Int) * k = k * te.bytes := Int.mul_comm _ _
      simp only [e48, this, Bool.or_eq_false_iff, decide_eq_false_iff_not]
      omega
    simp only [hno, Bool.false_eq_true, if_false, Sem.run_bind, run_askRoom, Result.andThen_ok, run_sizeOf hte]
    by_cases hz0 : k.toNat * te.size = 0
    · have hk00 : k.toNat = 0 := by
        rcases Nat.mul_eq_zero.1 hz0 with h | h
        · exact h
        · exact absurd h hsz
      have : cells = #[] := by apply Array.ext'; simp [cells, hz0]
      rw [this]
      have e0 : (Array.map (fun x => (#[] : Array Value)[x % (#[] : Array Value).size]!) (Array.range 0)) = #[] := by apply Array.ext'; simp
      simp only [hz0, if_true, Sem.run_pure, Result.andThen_ok, newRow, Sem.run_bind, run_newObj, e0]
      rfl
    · rw [if_neg hz0]
      simp only [zeroValue, typeInfo, Sem.run_bind, run_program, Result.andThen_ok, hi, hz, Sem.run_pure, newRow, run_newObj]
      rfl

theorem wr_call (hT : TOk P T) {σ : Operand → SV} {c : Call} {fo : Operand} {f : Nat} {caps : List SV} {v : SV} {cs' : List Chunk} {z : List Nat} (hcal : c.callee = .value fo) (hf : σ fo = .fn f caps)
    (h : CallSem P f (c.args.toList.map σ ++ caps) cs v cs' z) : WrSem P (.call c) σ cs v cs' z := by
  obtain ⟨h1, h2, h3, h4⟩ := h
  refine ⟨h1, h2, ?_⟩
  intro bs m ls Bs w a o hop M hσ Kp Q hK
  have hfv := hσ fo
  rw [hf] at hfv
  simp only [SV.rel] at hfv
  obtain ⟨vs, e1, e2⟩ := hfv
  have hrun : (execOp a.eval o).run P w = .ok (.enter f (c.args.map a.eval ++ vs)) w := by
    unfold execOp; rw [hop]
    simp only [resolve, hcal, e1, Deferred.ofValue, Sem.run_bind, Sem.run_pure, Result.andThen_ok, invoke]
    have : (#[] ++ c.args.map a.eval) ++ vs = c.args.map a.eval ++ vs := by simp
    rw [this]
    exact h3 _ _
  unfold Oper.wp
  rw [hrun]
  simp only [Oper.upon]
  refine (h4 bs m ls Bs w _ M ?_).mono ?_
  · rw [Array.toList_append, Array.toList_map]
    exact SV.rels_app (rels_map hσ _) e2
  · rintro e w' ⟨v', m', ls', Bs', rfl, E, M', hv⟩
    exact hK m' ls' Bs' v' w' E M' hv

theorem growBy_le (newLen : Nat) (hn : 256 ≤ newLen) : ∀ (r c : Nat), c ≤ 2 * newLen → Builtin.growBy newLen r c ≤ 2 * newLen
  | 0, c, h => by simpa [Builtin.growBy] using h
  | r + 1, c, h => by
    simp only [Builtin.growBy]
    split
    · exact h
    · exact growBy_le newLen hn r _ (by omega)

theorem nextcap_le (newLen old : Nat) (ho : old < newLen) : Builtin.nextslicecap newLen old ≤ 2 * newLen := by
  unfold Builtin.nextslicecap
  split
  · omega
  · split
    · omega
    · exact growBy_le newLen (by omega) 4 old (by omega)

def limP (big : Option Nat) (n : Nat) : Bool := match big with
  | some b => fitsIn n b
  | none => Nat.blt n 1000000000
theorem guardL_eq {R : Type} (big : Option Nat) (n : Nat) (A : Option R) : guardL big n A = if limP big n = true then A else none := by
  cases big with
  | none => show (if Short n then A else none) = if Nat.blt n 1000000000 = true then A else none; unfold Short; rfl
  | some b => rfl

theorem lim_ok {bytes n : Nat} {y : SV} (hb : bytes ≤ 4096) (h : limP (bigOf bytes y) n = true) : n * bytes ≤ 140737488355328 ∧ n ≤ 140737488355328 := by
  have small : Nat.blt n 1000000000 = true → n * bytes ≤ 140737488355328 ∧ n ≤ 140737488355328 := fun h2 => by
    have h2 := Nat.le_of_ble_eq_true h2
    have h3 : n * bytes ≤ 1000000000 * 4096 := Nat.mul_le_mul (by omega) hb
    omega
  unfold bigOf at h
  cases h1 : Nat.blt 0 bytes with
  | false => rw [h1] at h; exact small h
  | true =>
    rw [h1] at h
    have h2 : n * bytes ≤ 140737488355328 := Nat.le_of_ble_eq_true h
    have h3 : 0 < bytes := by simp [Nat.blt] at h1; omega
    have h4 : n * 1 ≤ n * bytes := Nat.mul_le_mul_left _ h3
    exact ⟨h2, by omega⟩

/-- The cells of a slice's elements. -/
theorem elems_cells {u : Ty} {n : Nat} {L : List u.den} (hn : L.length = n) {f : Nat → Option Value} {o : Nat} (h : ∀ i (hi : i < L.length), ∃ us, u.rep m (L.get ⟨i, hi⟩) us ∧ ∀ j, j < u.width → f (o + i * u.width + j) = us[j]?) :
    ∀ p, p < n * u.width → ∃ v, f (o + p) = some v ∧ v.oneC = true := by
  intro p hp
  have hw : 0 < u.width := by
    rcases Nat.eq_zero_or_pos u.width with h0 | h0
    · rw [h0] at hp; simp at hp
    · exact h0
  have hi : p / u.width < L.length := by rw [hn]; exact (Nat.div_lt_iff_lt_mul hw).2 hp
  obtain ⟨us, r1, r2⟩ := h _ hi
  have hj : p % u.width < u.width := Nat.mod_lt _ hw
  have hl := Ty.rep_length r1
  have := r2 _ hj
  rw [List.getElem?_eq_getElem (by omega)] at this
  have e : o + p / u.width * u.width + p % u.width = o + p := by
    have := Nat.div_add_mod p u.width
    rw [Nat.mul_comm] at this; omega
  rw [e] at this
  exact ⟨_, this, rep_one r1 _ (List.getElem_mem _)⟩

theorem run_firstCells_some {w : World} {b o n size : Nat} {vs : List Value} (hl : vs.length = n * size) (hc : ∀ j, j < n * size → w.cell? ⟨b, o + j, none⟩ = vs[j]?) (len cap : Nat) :
    (Builtin.firstCells size n (.slice (some ⟨b, o, none⟩) len cap)).run P w = .ok vs.toArray w := by
  simp only [Builtin.firstCells, ← hl]
  exact run_loadCells_list w ⟨b, o, none⟩ vs (fun j v hv => by
    have hj := get_lt hv
    rw [Addr.add_none, hc j (by omega), hv])

/-- The cells that a list's elements have, in a row. -/
theorem cells_of (f : Nat → Option Value) (o n : Nat) (h : ∀ p, p < n → ∃ v, f (o + p) = some v ∧ v.oneC = true) : ∃ vs : List Value, vs.length = n ∧ (∀ j, j < n → f (o + j) = vs[j]?) ∧ ∀ v ∈ vs, v.oneC = true := by
  induction n with
  | zero => exact ⟨[], rfl, fun j hj => absurd hj (Nat.not_lt_zero _), by simp⟩
  | succ n ih =>
    obtain ⟨vs, h1, h2, h3⟩ := ih (fun p hp => h p (by omega))
    obtain ⟨v, h4, h5⟩ := h n (by omega)
    refine ⟨vs ++ [v], by simp [h1], fun j hj => ?_, ?_⟩
    · rcases Nat.lt_or_ge j n with hj' | hj'
      · rw [List.getElem?_append_left (by omega)]; exact h2 j hj'
      · have : j = n := by omega
        subst this
        rw [List.getElem?_append_right (by omega), h1]; simp [h4]
    · intro x hx
      simp at hx
      rcases hx with hx | rfl
      · exact h3 x hx
      · exact h5

/-- Elements of two rows side by side. -/
theorem rep_append {u : Ty} {L K : List u.den} {f : Nat → Option Value} {o : Nat}
    (h : ∀ i (hi : i < L.length), ∃ us, u.rep m (L.get ⟨i, hi⟩) us ∧ ∀ j, j < u.width → f (o + i * u.width + j) = us[j]?)
    (k : ∀ i (hi : i < K.length), ∃ us, u.rep m (K.get ⟨i, hi⟩) us ∧ ∀ j, j < u.width → f (o + L.length * u.width + i * u.width + j) = us[j]?) :
    ∀ i (hi : i < (L ++ K).length), ∃ us, u.rep m ((L ++ K).get ⟨i, hi⟩) us ∧ ∀ j, j < u.width → f (o + i * u.width + j) = us[j]? := by
  intro i hi
  rcases Nat.lt_or_ge i L.length with h1 | h1
  · obtain ⟨us, r1, r2⟩ := h i h1
    exact ⟨us, by rw [List.get_eq_getElem, List.getElem_append_left h1]; exact r1, r2⟩
  · have h2 : i - L.length < K.length := by simp at hi; omega
    obtain ⟨us, r1, r2⟩ := k (i - L.length) h2
    refine ⟨us, by rw [List.get_eq_getElem, List.getElem_append_right h1]; exact r1, fun j hj => ?_⟩
    rw [← r2 j hj]
    congr 1
    have : i * u.width = L.length * u.width + (i - L.length) * u.width := by
      rw [← Nat.add_mul]; congr 1; omega
    omega

/-- A slice's cells, as an append reads them. -/
theorem slice_cells {u : Ty} {M : List u.den} {A : Option Addr} {n cap : Nat} (h : (Ty.slice u).rep m M [.slice A n cap]) :
    n = M.length ∧ ∃ vs : List Value, vs.length = M.length * u.width ∧ (∀ v ∈ vs, v.oneC = true) ∧
      (∀ i (hi : i < M.length), ∃ us, u.rep m (M.get ⟨i, hi⟩) us ∧ ∀ j, j < u.width → vs[i * u.width + j]? = us[j]?) ∧
      ∀ w2 : World, (∀ b o v, m b o = some v → w2.cell? ⟨b, o, none⟩ = some v) → (Builtin.firstCells u.width n (.slice A n cap)).run P w2 = .ok vs.toArray w2 := by
  simp only [Ty.rep, List.cons.injEq, and_true] at h
  obtain ⟨A', c', e, h2, h3⟩ := h
  simp only [Value.slice.injEq] at e
  obtain ⟨rfl, rfl, rfl⟩ := e
  refine ⟨rfl, ?_⟩
  by_cases hM : M.length = 0
  · refine ⟨[], by simp [hM], by simp, fun i hi => absurd hi (by omega), fun w2 hw2 => ?_⟩
    cases A with
    | none => simp [Builtin.firstCells]
    | some a => simp [Builtin.firstCells, hM, loadCells, loadCellsFrom]
  · obtain ⟨b, o, rfl, hall⟩ := h3 hM
    obtain ⟨vs, v1, v2, v3⟩ := cells_of (fun p => m b p) o (M.length * u.width) (fun p hp => elems_cells (f := fun p => m b p) (L := M) rfl hall p hp)
    refine ⟨vs, v1, v3, fun i hi => ?_, fun w2 hw2 => ?_⟩
    · obtain ⟨us, r1, r2⟩ := hall i hi
      refine ⟨us, r1, fun j hj => ?_⟩
      have hlt : i * u.width + j < M.length * u.width := by
        have : (i + 1) * u.width ≤ M.length * u.width := Nat.mul_le_mul_right _ hi
        rw [Nat.add_mul] at this; omega
      rw [← v2 _ hlt, ← r2 j hj]
      show m b (o + (i * u.width + j)) = m b (o + i * u.width + j)
      congr 1; omega
    · refine run_firstCells_some v1 (fun j hj => ?_) _ _
      have := v2 j hj
      have hlt : j < vs.length := by omega
      rw [List.getElem?_eq_getElem hlt] at this ⊢
      exact hw2 _ _ _ this

theorem drew_heap (w : World) : ({ w with drawn := w.drawn + 1 } : World).heap = w.heap := rfl

theorem isInt_und (hT : TOk P T) {t : Nat} (h : isIntT T t = true) : P.underlying t = some (.int .i64) := by
  unfold isIntT at h
  split at h
  · rename_i ti ht
    split at h
    · rename_i hd
      obtain ⟨d, h1, _, h3⟩ := (hT _ _ ht).und
      rw [hd] at h3; rw [h1, h3]
    · cases h
  · cases h

/-- So many zeros appended to nothing: the run. -/
theorem run_appendZ {t t2 e ty : Nat} {te : TI} (hund : P.underlying t = some (.slice e)) (hte : te.ok P e) (h2 : P.underlying t2 = some (.int .i64)) {n : Int} (h0 : 0 < n)
    (hneed : n.toNat * te.bytes ≤ 140737488355328 ∧ n.toNat ≤ 140737488355328) (hsz : te.size ≠ 0) (w : World) :
    ∃ (newCap : Nat) (C : Array Value) (zv : Value), n.toNat ≤ newCap ∧ C.size = newCap * te.size ∧ zv.cells.size = te.size ∧ (∀ u, te.ty = some u → ∀ m, u.rep m u.zero zv.cells.toList) ∧
      (∀ p, p < n.toNat * te.size → C[p]? = some (zv.cells[p % zv.cells.size]!)) ∧
      (Builtin.append_ #[t, t2] ty #[.slice none 0 0, .int .i64 n]).run P w = .ok (.slice (some ⟨w.heap.size, 0, none⟩) n.toNat newCap) (({ w with drawn := w.drawn + 1 } : World).alloc (.cells C e)) := by
  obtain ⟨i, zv, hi, hs, hby, hz, hzr, hzd, ha1, ha2⟩ := hte.info
  have hsize : ∀ w2 : World, (Go.sizeOf e).run P w2 = .ok te.size w2 := fun w2 => run_sizeOf hte w2
  have q0 : (#[t, t2] : Array TypeId)[0]? = some t := rfl
  have q1 : (#[t, t2] : Array TypeId)[1]? = some t2 := rfl
  have r0 : (#[.slice none 0 0, .int .i64 n] : Array Value)[0]? = some (.slice none 0 0) := rfl
  have r1 : (#[.slice none 0 0, .int .i64 n] : Array Value)[1]? = some (.int .i64 n) := rfl
  have hq : ∀ need old e, (Question.appendCap need old e).forced = false := fun _ _ _ => rfl
  let nc := (Question.appendCap (0 + n.toNat) 0 e).cut (w.tape w.drawn (.appendCap (0 + n.toNat) 0 e))
  have hnc : n.toNat ≤ nc := by
    show n.toNat ≤ (0 + n.toNat) + _
    omega
  have hzlen : zv.cells.size = te.size := by
    have := SV.rels_length (hzr (fun _ _ => none) [])
    cases hag : te.d.agg with
    | false => rw [ha2 hag]; have := hte.one hag; simp; omega
    | true =>
      obtain ⟨zc, rfl⟩ := ha1 hag
      have hzs := hte.zsize
      rw [← hzs, ← this]; simp [Value.cells]
  let C := (#[] : Array Value) ++ Builtin.zeroCells zv.cells n.toNat ++ Builtin.zeroCells zv.cells (nc - (0 + n.toNat))
  have hz1 : (Builtin.zeroCells zv.cells n.toNat).size = n.toNat * te.size := by simp [Builtin.zeroCells, hzlen]
  have hz2 : (Builtin.zeroCells zv.cells (nc - (0 + n.toNat))).size = (nc - (0 + n.toNat)) * te.size := by simp [Builtin.zeroCells, hzlen]
  refine ⟨nc, C, zv, hnc, ?_, hzlen, fun u hu m => hzd u hu m, fun p hp => ?_, ?_⟩
  · simp only [C, Array.size_append, hz1, hz2, Array.size_empty]
    rw [Nat.zero_add (n.toNat * te.size), ← Nat.add_mul]
    congr 1; omega
  · have hp1 : p < ((#[] : Array Value) ++ Builtin.zeroCells zv.cells n.toNat).size := by simp only [Array.size_append, hz1, Array.size_empty]; omega
    show (((#[] : Array Value) ++ Builtin.zeroCells zv.cells n.toNat) ++ Builtin.zeroCells zv.cells (nc - (0 + n.toNat)))[p]? = _
    rw [Array.getElem?_append_left hp1]
    rw [Array.empty_append]
    simp only [Builtin.zeroCells, Array.getElem?_map]
    rw [Array.getElem?_eq_getElem (by simp only [Array.size_range]; rw [hzlen]; exact hp)]
    simp
  · simp only [Builtin.append_, q0, q1, r0, r1, Sem.run_bind, run_underlying hund, run_underlying h2, Result.andThen_ok, hsize, Sem.run_pure]
    have hwn : IntKind.i64.wrap n = n := wrap_i64 (by omega) (by omega)
    have hl0 : ¬ n < 0 := by omega
    have hb48 : ¬ (n * (i.bytes : Int) > 2 ^ 48) := by
      have e48 : (2 : Int) ^ 48 = 281474976710656 := by decide
      have h1 : ((n.toNat * te.bytes : Nat) : Int) = n * (i.bytes : Int) := by
        rw [hby]; push_cast; rw [Int.toNat_of_nonneg (by omega)]
      rw [e48, ← h1]; omega
    simp only [if_true, asInt, asIntOf, Sem.run_bind, Sem.run_pure, Result.andThen_ok, hwn, hl0, if_false, typeInfo, run_program, hi, hb48]
    have hroom : ¬ 0 + n.toNat ≤ 0 := by omega
    rw [if_neg hroom]
    have hmax : ¬ ((((0 + n.toNat : Nat) : Int) > IntKind.i64.max) ∧ (True ∨ i.bytes = 0)) := by
      have : IntKind.i64.max = 9223372036854775807 := by decide
      omega
    have hcap := nextcap_le (0 + n.toNat) 0 (by omega)
    have hbig : ¬ (Builtin.nextslicecap (0 + n.toNat) 0 * i.bytes > 2 ^ 48) := by
      have h1 : Builtin.nextslicecap (0 + n.toNat) 0 * i.bytes ≤ 2 * (0 + n.toNat) * te.bytes := Nat.mul_le_mul hcap (by rw [hby]; exact Nat.le_refl _)
      have e3 : 2 * (0 + n.toNat) * te.bytes = 2 * (n.toNat * te.bytes) := by rw [Nat.zero_add, Nat.mul_assoc]
      have h2 := hneed.1
      omega
    simp only [typeInfo, Sem.run_bind, run_program, Result.andThen_ok, hi, Sem.run_pure]
    rw [if_neg hmax]
    simp only [Sem.run_bind, run_program, Result.andThen_ok, hi, Sem.run_pure]
    rw [if_neg hbig]
    have hns : ¬ n.toNat * te.size = 0 := fun h => by
      rcases Nat.mul_eq_zero.1 h with h | h
      · omega
      · exact hsz h
    simp only [Sem.run_bind, run_program, hi, Sem.run_pure, run_choose, hq, Bool.false_eq_true, if_false, Result.andThen_ok, run_askRoom, Builtin.firstCells, Bool.not_true, hns, zeroValue, typeInfo, hz, newRow, run_newObj]
    simp only [C, nc, Nat.zero_add]
    rfl

theorem wr_appendZ (hT : TOk P T) {σ : Operand → SV} {c : Call} {xo yo : Operand} {t t2 : Nat} {u : Ty} {te : TI} (hcal : c.callee = .builtin .append) (hargs : c.args = #[xo, yo]) (hts : c.argTypes = #[t, t2])
    (ht : elemTy T t = some (u, te)) (hb : te.bytes ≤ 4096) (h0 : 0 < te.size) (hb0 : 0 < te.bytes) (h2 : isIntT T t2 = true) (hx : σ xo = .nils) {n : Int} (hy : σ yo = .p (.int .i64) n) (hn : 0 < n) (hf : fitsIn n.toNat te.bytes = true) :
    WrSem P (.call c) σ cs (.own cs.length) (cs ++ [.own u (List.replicate n.toNat u.zero)]) [] := by
  refine ⟨by simp, fun d hd hn => by rw [List.getElem?_append_left hd], ?_⟩
  intro bs m ls Bs w a o hop M hσ Kp Q hK
  obtain ⟨e, hund, hte, htu⟩ := elemTy_some hT ht
  have hw := (hte.ty u htu).1
  have ex := hσ xo
  rw [hx] at ex
  simp only [SV.rel] at ex
  have ey := hσ yo
  rw [hy] at ey
  have ey := SV.int_rel ey
  have hfit : n.toNat * te.bytes ≤ 140737488355328 := Nat.le_of_ble_eq_true hf
  have hfit2 : n.toNat ≤ 140737488355328 := by
    have : n.toNat * 1 ≤ n.toNat * te.bytes := Nat.mul_le_mul_left _ hb0
    omega
  obtain ⟨nc, C, zv, c1, c2, c3, c4, c5, hrun⟩ := run_appendZ (P := P) (ty := o.type) hund hte (isInt_und hT h2) hn ⟨hfit, hfit2⟩ (by omega) w
  have hexec : (execOp a.eval o).run P w = .ok (.value (.slice (some ⟨w.heap.size, 0, none⟩) n.toNat nc)) (({ w with drawn := w.drawn + 1 } : World).alloc (.cells C e)) := by
    unfold execOp; rw [hop]
    simp [resolve, hcal, hargs, hts, invoke, builtin, ex, ey, hrun]
  unfold Oper.wp
  rw [hexec]
  let lo : Loc := ⟨some ⟨w.heap.size, 0, none⟩, n.toNat, nc, u.width⟩
  have Md : Mem bs m ls Bs cs ({ w with drawn := w.drawn + 1 } : World) := M.same rfl rfl rfl rfl
  have M' := Md.new (.cells C e) (c := .own u (List.replicate n.toNat u.zero)) (l := lo) (by
    simp only [Chunk.holds]
    refine ⟨by omega, rfl, by simp [lo], by simp [lo]; omega, .inr ⟨w.heap.size, 0, C, e, rfl, rfl, heap_alloc _ _, by simp [lo, c2, hw], fun q hq => ?_⟩⟩
    have hq' : q < n.toNat := by simpa using hq
    refine ⟨zv.cells.toList, by simpa using c4 u htu m, fun j hj => ?_⟩
    have hlt : 0 + q * u.width + j < n.toNat * te.size := by
      have : (q + 1) * u.width ≤ n.toNat * u.width := Nat.mul_le_mul_right _ (by omega)
      rw [Nat.add_mul] at this
      rw [← hw]; omega
    have hmod : (0 + q * u.width + j) % zv.cells.size = j := by
      rw [c3, ← hw, Nat.zero_add, Nat.add_comm, Nat.add_mul_mod_self_right, Nat.mod_eq_of_lt hj]
    have hj' : j < zv.cells.size := by rw [c3, ← hw]; exact hj
    rw [c5 _ hlt, hmod, getElem!_pos zv.cells j hj']
    rw [List.getElem?_eq_getElem (by simpa using hj')]
    simp)
  refine hK m _ _ _ _ (ext_push m ls lo) M' ?_
  simp only [SV.rel]
  exact ⟨lo, by rw [← M.nl]; simp, rfl⟩

/-- What an append's run is, in place and behind a growth. -/
theorem run_append {t t2 e ty : Nat} {te : TI} (hund : P.underlying t = some (.slice e)) (hte : te.ok P e) (h2 : ∃ e2, P.underlying t2 = some (.slice e2)) {size : Nat} (hsz : te.size = size)
    {base : Option Addr} {sLen sCap : Nat} {x : Value} {n : Nat} {vs old : List Value} (hx : ∃ A c, x = .slice A n c) (hvl : vs.length = n * size) (hneed : (sLen + n) * te.bytes ≤ 140737488355328 ∧ sLen + n ≤ 140737488355328)
    (hle : sLen ≤ sCap) (hol : old.length = sLen * size) (w : World)
    (hfc : ∀ w2 : World, w2.heap = w.heap → (Builtin.firstCells size n x).run P w2 = .ok vs.toArray w2)
    (hfo : ∀ w2 : World, w2.heap = w.heap → (Builtin.firstCells size sLen (.slice base sLen sCap)).run P w2 = .ok old.toArray w2) :
    (sLen + n ≤ sCap → (Builtin.append_ #[t, t2] ty #[.slice base sLen sCap, x]).run P w =
      match base with
      | some a => ((storeCells (a.add (sLen * size)) vs).run P w).andThen fun _ w' => .ok (.slice base (sLen + n) sCap) w'
      | none => .ok (.slice base (sLen + n) sCap) w) ∧
    (¬ sLen + n ≤ sCap → ∃ (newCap : Nat) (C : Array Value), sLen + n ≤ newCap ∧ C.size = newCap * size ∧ (∀ p, p < (sLen + n) * size → C[p]? = (old ++ vs)[p]?) ∧
      (Builtin.append_ #[t, t2] ty #[.slice base sLen sCap, x]).run P w = .ok (.slice (some ⟨w.heap.size, 0, none⟩) (sLen + n) newCap) (({ w with drawn := w.drawn + 1 } : World).alloc (.cells C e))) := by
  obtain ⟨i, zv, hi, hs, hby, hz, hzr, hzd, ha1, ha2⟩ := hte.info
  obtain ⟨e2, hund2⟩ := h2
  obtain ⟨A, c, rfl⟩ := hx
  have hsize : ∀ w2 : World, (Go.sizeOf e).run P w2 = .ok size w2 := fun w2 => by rw [← hsz]; exact run_sizeOf hte w2
  have q0 : (#[t, t2] : Array TypeId)[0]? = some t := rfl
  have q1 : (#[t, t2] : Array TypeId)[1]? = some t2 := rfl
  have r0 : (#[.slice base sLen sCap, .slice A n c] : Array Value)[0]? = some (.slice base sLen sCap) := rfl
  have r1 : (#[.slice base sLen sCap, .slice A n c] : Array Value)[1]? = some (.slice A n c) := rfl
  constructor
  · intro hroom
    simp only [Builtin.append_, q0, q1, r0, r1, Sem.run_bind, run_underlying hund, run_underlying hund2, Result.andThen_ok, hsize, Sem.run_pure]
    simp only [Bool.false_eq_true, if_false, Builtin.lenOf, Sem.run_bind, Sem.run_pure, Result.andThen_ok]
    rw [if_pos hroom]
    simp only [Sem.run_bind, Bool.not_false, if_true, hfc w rfl, Result.andThen_ok]
    cases base with
    | none => simp
    | some a => simp
  · intro hroom
    let w1 : World := { w with drawn := w.drawn + 1 }
    have hq : ∀ need old e, (Question.appendCap need old e).forced = false := fun _ _ _ => rfl
    let nc := (Question.appendCap (sLen + n) sCap e).cut (w.tape w.drawn (.appendCap (sLen + n) sCap e))
    have hnc : sLen + n ≤ nc := by
      show sLen + n ≤ (sLen + n) + _
      omega
    have hzlen : zv.cells.size = size := by
      have := SV.rels_length (hzr (fun _ _ => none) [])
      cases hag : te.d.agg with
      | false => rw [ha2 hag]; have := hte.one hag; simp; omega
      | true =>
        obtain ⟨zc, rfl⟩ := ha1 hag
        have hzs := hte.zsize
        rw [← hsz, ← hzs, ← this]; simp [Value.cells]
    let C := old.toArray ++ vs.toArray ++ Builtin.zeroCells zv.cells (nc - (sLen + n))
    have hzc : (Builtin.zeroCells zv.cells (nc - (sLen + n))).size = (nc - (sLen + n)) * size := by simp [Builtin.zeroCells, hzlen]
    refine ⟨nc, C, hnc, ?_, ?_, ?_⟩
    · simp only [C, Array.size_append, List.size_toArray, hol, hvl, hzc]
      rw [← Nat.add_mul, ← Nat.add_mul]
      congr 1; omega
    · intro p hp
      have : p < (old ++ vs).length := by simp only [List.length_append, hol, hvl, ← Nat.add_mul]; exact hp
      rw [← Array.getElem?_toList]
      simp only [C, Array.toList_append]
      rw [List.getElem?_append_left (by simpa using this)]
    · simp only [Builtin.append_, q0, q1, r0, r1, Sem.run_bind, run_underlying hund, run_underlying hund2, Result.andThen_ok, hsize, Sem.run_pure]
      simp only [Bool.false_eq_true, if_false, Builtin.lenOf, Sem.run_bind, Sem.run_pure, Result.andThen_ok]
      rw [if_neg hroom]
      have hmax : ¬ ((((sLen + n : Nat) : Int) > IntKind.i64.max) ∧ (False ∨ i.bytes = 0)) := by
        have : IntKind.i64.max = 9223372036854775807 := by decide
        omega
      have hcap := nextcap_le (sLen + n) sCap (by omega)
      have hbig : ¬ (Builtin.nextslicecap (sLen + n) sCap * i.bytes > 2 ^ 48) := by
        have h1 : Builtin.nextslicecap (sLen + n) sCap * i.bytes ≤ 2 * (sLen + n) * te.bytes := Nat.mul_le_mul hcap (by rw [hby]; exact Nat.le_refl _)
        rw [Nat.mul_assoc] at h1
        have h2 := hneed.1
        omega
      simp only [typeInfo, Sem.run_bind, run_program, Result.andThen_ok, hi, Sem.run_pure]
      rw [if_neg hmax]
      simp only [Sem.run_bind, run_program, Result.andThen_ok, hi, Sem.run_pure]
      rw [if_neg hbig]
      simp only [Sem.run_bind, run_program, hi, Sem.run_pure, run_choose, hq, Bool.false_eq_true, if_false, Result.andThen_ok, run_askRoom]
      rw [hfo w1 rfl]
      simp only [Result.andThen_ok, Bool.not_false, if_true]
      rw [hfc w1 rfl]
      simp only [Result.andThen_ok, zeroValue, typeInfo, Sem.run_bind, run_program, hi, hz, Sem.run_pure, newRow, run_newObj]
      rfl

/-- The head of an append: a row of one's own, or one without room. -/
def Head (P : Program) (bs : Base) (m : Mm) (ls : List Loc) (cs2 : List Chunk) (w : World) (u : Ty) (L : List u.den) (nm : Bool) (base : Option Addr) (cap : Nat) (old : List Value) : Prop :=
  (cap = L.length ∧ (L = [] ∨ nm = true) ∧ (∀ i (hi : i < L.length), ∃ us, u.rep m (L.get ⟨i, hi⟩) us ∧ ∀ j, j < u.width → old[i * u.width + j]? = us[j]?) ∧ ∃ Bs2, Mem bs m ls Bs2 cs2 w) ∨
    ∃ g o cs' ety, base = some ⟨g, o, none⟩ ∧ w.heap[g]? = some (.cells cs' ety (0, 0)) ∧ o + cap * u.width ≤ cs'.size ∧
      (∀ i (hi : i < L.length), ∃ us, u.rep m (L.get ⟨i, hi⟩) us ∧ ∀ j, j < u.width → cs'[o + i * u.width + j]? = us[j]?) ∧
      (∀ j, j < L.length * u.width → cs'[o + j]? = old[j]?) ∧
      (bs.w0.heap.size ≤ g ∨ g ∈ bs.lent) ∧ (∀ o, m g o = none) ∧ g < w.heap.size ∧
      ∃ Bs2, (∀ (j : Nat) B', Bs2[j]? = some B' → g ∉ B') ∧ ∀ w', Touch w w' [g] → Mem bs m ls Bs2 cs2 w'

/-- An append: a chunk of its own, in place or in a new block. -/
theorem append_core (hT : TOk P T) {c : Call} {xo yo : Operand} {t t2 : Nat} {u : Ty} {te : TI} (hcal : c.callee = .builtin .append) (hargs : c.args = #[xo, yo]) (hts : c.argTypes = #[t, t2])
    (ht : elemTy T t = some (u, te)) (hb : te.bytes ≤ 4096) (h0 : 0 < te.size) (h2 : ∃ e2, P.underlying t2 = some (.slice e2)) {M L : List u.den} {cs2 : List Chunk}
    {bs : Base} {m1 : Mm} {ls : List Loc} {w : World} {act : Act} {o : Oper} (hop : o.op = .call c) (hlsn : ls.length = cs2.length)
    (hyv : ∃ A2 c2, act.eval yo = .slice A2 M.length c2) {vs : List Value} (v1 : vs.length = M.length * u.width) (v2 : ∀ v ∈ vs, v.oneC = true)
    (v3 : ∀ i (hi : i < M.length), ∃ us, u.rep m1 (M.get ⟨i, hi⟩) us ∧ ∀ j, j < u.width → vs[i * u.width + j]? = us[j]?)
    (hfcM : ∀ w2 : World, w2.heap = w.heap → (Builtin.firstCells u.width M.length (act.eval yo)).run P w2 = .ok vs.toArray w2)
    {base : Option Addr} {cap : Nat} {old : List Value} (hxv : act.eval xo = .slice base L.length cap) (hcap : L.length ≤ cap) (hol : old.length = L.length * u.width)
    (hfo : ∀ w2 : World, w2.heap = w.heap → (Builtin.firstCells u.width L.length (.slice base L.length cap)).run P w2 = .ok old.toArray w2)
    {nm : Bool} (hnm : nm = true → M ≠ []) (hhead : Head P bs m1 ls cs2 w u L nm base cap old)
    (hlen : (L ++ M).length * te.bytes ≤ 140737488355328 ∧ (L ++ M).length ≤ 140737488355328) {Kp : Act → World → Prop} {Q : Exit → Act → World → Prop}
    (hK : ∀ ls' Bs' v' w', Ext m1 ls m1 ls' → Mem bs m1 ls' Bs' (cs2 ++ [.own u (L ++ M)]) w' → (SV.own cs2.length).rel m1 ls' v' → Kp (act.put o.dst v') w') : o.wp P act w Kp Q := by
  obtain ⟨e, hund, hte, htu⟩ := elemTy_some hT ht
  have hw := (hte.ty u htu).1
  have hwp : 0 < u.width := by omega
  obtain ⟨A2, c2, hyv⟩ := hyv
  have hlen' : (L.length + M.length) * te.bytes ≤ 140737488355328 ∧ L.length + M.length ≤ 140737488355328 := by
    rw [List.length_append] at hlen; exact hlen
  have hexec : ∀ {v' : Value} {w' : World}, (Builtin.append_ #[t, t2] o.type #[act.eval xo, act.eval yo]).run P w = .ok v' w' → (execOp act.eval o).run P w = .ok (.value v') w' := by
    intro v' w' h
    unfold execOp; rw [hop]
    simp [resolve, hcal, hargs, hts, invoke, builtin, h]
  obtain ⟨hin, hgrow⟩ := run_append (P := P) (ty := o.type) hund hte h2 hw.symm (x := act.eval yo) (n := M.length) ⟨A2, c2, hyv⟩ v1 hlen' hcap hol w hfcM hfo
  rw [← hxv] at hin hgrow
  by_cases hroom : L.length + M.length ≤ cap
  · have hrun := hin hroom
    rcases hhead with ⟨hcl0, hLM, _, Bs2, M2⟩ | ⟨g, o', cs', ety, rfl, hheap, hcs, hall, hold, hbase, hmg, hglt, Bs2, hap, hM2⟩
    · have hM0 : M = [] := List.eq_nil_of_length_eq_zero (by omega)
      have hL0 : L = [] := by
        rcases hLM with h | h
        · exact h
        · exact absurd hM0 (hnm h)
      subst hM0
      subst hL0
      have hvs0 : vs = [] := List.eq_nil_of_length_eq_zero (by simpa using v1)
      subst hvs0
      have hrun' : (Builtin.append_ #[t, t2] o.type #[act.eval xo, act.eval yo]).run P w = .ok (.slice base 0 cap) w := by
        rw [hrun]
        cases base with
        | none => rfl
        | some a => simp [storeCells]
      unfold Oper.wp
      rw [hexec hrun']
      have hc0 : cap = 0 := by simpa using hcl0
      let lo : Loc := ⟨base, 0, 0, u.width⟩
      have M3 := M2.add (c := .own u ([] ++ [])) (l := lo) (B := []) (by simp) (by
        simp only [Chunk.holds]
        exact ⟨hwp, rfl, by simp [lo], by simp, .inl ⟨rfl, trivial⟩⟩)
      refine hK _ _ _ _ (ext_push m1 ls lo) M3 ?_
      simp only [SV.rel]
      exact ⟨lo, by rw [← hlsn]; simp, by rw [hc0]⟩
    · have hbound : (L.length + M.length) * u.width ≤ cap * u.width := Nat.mul_le_mul_right _ hroom
      rw [Nat.add_mul] at hbound
      obtain ⟨w', c', e1, e2, e3, e4⟩ := run_storeCells (P := P) (g := g) (e := ety) vs 0 (o' + L.length * u.width) w cs' v2 hheap (by rw [v1]; omega)
      simp only [Addr.add_none, e1, Result.andThen_ok] at hrun
      unfold Oper.wp
      rw [hexec hrun]
      simp only [Nat.add_zero] at e4
      have hcl : cs'.toList.length = cs'.size := by simp
      let lo : Loc := ⟨some ⟨g, o', none⟩, L.length + M.length, cap, u.width⟩
      have hc's : c'.size = cs'.size := by
        rw [← Array.length_toList, e4]
        simp only [List.length_append, List.length_take, List.length_drop, hcl]
        omega
      have M3 := (hM2 w' e2).add (c := .own u (L ++ M)) (l := lo) (B := [g]) (by
        intro b hb'
        simp at hb'; subst hb'
        exact ⟨by rw [e2.size]; exact hglt, hbase, hmg, fun j B' hj => hap j B' hj⟩) (by
        simp only [Chunk.holds]
        refine ⟨hwp, rfl, by simp [lo], by simp [lo]; exact hroom, .inr ⟨g, o', c', ety, rfl, rfl, e3, by rw [hc's]; exact hcs, ?_⟩⟩
        refine rep_append (f := fun p => c'[p]?) (o := o') (fun i hi => ?_) (fun i hi => ?_)
        · obtain ⟨us, r1, r2⟩ := hall i hi
          refine ⟨us, r1, fun j hj => ?_⟩
          rw [← r2 j hj]
          show c'[_]? = _
          have : (i + 1) * u.width ≤ L.length * u.width := Nat.mul_le_mul_right _ hi
          rw [Nat.add_mul] at this
          rw [← Array.getElem?_toList, e4, splice_get _ _ _ _ (by rw [v1]; omega), if_pos (by omega), Array.getElem?_toList]
        · obtain ⟨us, r1, r2⟩ := v3 i hi
          refine ⟨us, r1, fun j hj => ?_⟩
          rw [← r2 j hj]
          show c'[_]? = _
          have : (i + 1) * u.width ≤ M.length * u.width := Nat.mul_le_mul_right _ hi
          rw [Nat.add_mul] at this
          rw [← Array.getElem?_toList, e4, splice_get _ _ _ _ (by rw [v1]; omega), if_neg (by omega), if_pos (by omega)]
          congr 1
          omega)
      refine hK _ _ _ _ (ext_push m1 ls lo) M3 ?_
      simp only [SV.rel]
      exact ⟨lo, by rw [← hlsn]; simp, rfl⟩
  · obtain ⟨nc, C, n1, n2, n3, hrun⟩ := hgrow hroom
    unfold Oper.wp
    rw [hexec hrun]
    let lo : Loc := ⟨some ⟨w.heap.size, 0, none⟩, L.length + M.length, nc, u.width⟩
    obtain ⟨Bs2, M2⟩ : ∃ Bs2, Mem bs m1 ls Bs2 cs2 w := by
      rcases hhead with ⟨_, _, _, Bs2, M2⟩ | ⟨g, o', cs', ety, _, _, _, _, _, _, _, _, Bs2, _, hM2⟩
      · exact ⟨Bs2, M2⟩
      · exact ⟨Bs2, hM2 w (Touch.refl _ _)⟩
    have holdrep : ∀ i (hi : i < L.length), ∃ us, u.rep m1 (L.get ⟨i, hi⟩) us ∧ ∀ j, j < u.width → old[i * u.width + j]? = us[j]? := by
      rcases hhead with ⟨_, _, h, _⟩ | ⟨g, o', cs', ety, _, _, _, hall, hold, _⟩
      · exact h
      · intro i hi
        obtain ⟨us, r1, r2⟩ := hall i hi
        refine ⟨us, r1, fun j hj => ?_⟩
        have : (i + 1) * u.width ≤ L.length * u.width := Nat.mul_le_mul_right _ hi
        rw [Nat.add_mul] at this
        rw [← hold _ (by omega), ← r2 j hj]
        congr 1; omega
    have Md : Mem bs m1 ls Bs2 cs2 ({ w with drawn := w.drawn + 1 } : World) := M2.same rfl rfl rfl rfl
    have M3 := Md.new (.cells C e) (c := .own u (L ++ M)) (l := lo) (by
      simp only [Chunk.holds]
      refine ⟨hwp, rfl, by simp [lo], by simp [lo]; exact n1, .inr ⟨w.heap.size, 0, C, e, rfl, rfl, heap_alloc _ _, by simp [lo, n2], ?_⟩⟩
      refine rep_append (f := fun p => C[p]?) (o := 0) (fun i hi => ?_) (fun i hi => ?_)
      · obtain ⟨us, r1, r2⟩ := holdrep i hi
        refine ⟨us, r1, fun j hj => ?_⟩
        have : (i + 1) * u.width ≤ L.length * u.width := Nat.mul_le_mul_right _ hi
        rw [Nat.add_mul] at this
        rw [← r2 j hj]
        show C[_]? = _
        rw [n3 _ (by rw [Nat.add_mul]; omega), List.getElem?_append_left (by rw [hol]; omega)]
        congr 1; omega
      · obtain ⟨us, r1, r2⟩ := v3 i hi
        refine ⟨us, r1, fun j hj => ?_⟩
        have : (i + 1) * u.width ≤ M.length * u.width := Nat.mul_le_mul_right _ hi
        rw [Nat.add_mul] at this
        rw [← r2 j hj]
        show C[_]? = _
        rw [n3 _ (by rw [Nat.add_mul]; omega), List.getElem?_append_right (by rw [hol]; omega)]
        congr 1
        omega)
    refine hK _ _ _ _ (ext_push m1 ls lo) M3 ?_
    simp only [SV.rel]
    exact ⟨lo, by rw [← hlsn]; simp, rfl⟩

/-- An own slice as an append's head. -/
theorem head_own {d : Nat} {u : Ty} {L : List u.den} {xv : Value} (M1 : Mem bs m ls Bs cs w) (hd : cs[d]? = some (.own u L)) (hr : (SV.own d).rel m ls xv) (nm : Bool) :
    ∃ base cap old, xv = .slice base L.length cap ∧ L.length ≤ cap ∧ old.length = L.length * u.width ∧
      (∀ w2 : World, w2.heap = w.heap → (Builtin.firstCells u.width L.length (.slice base L.length cap)).run P w2 = .ok old.toArray w2) ∧ Head P bs m ls (cs.set d .gone) w u L nm base cap old := by
  simp only [SV.rel] at hr
  obtain ⟨l, hl, hv⟩ := hr
  obtain ⟨l', B, hl', hB, hh⟩ := M1.at hd
  rw [hl] at hl'; cases hl'
  simp only [Chunk.holds] at hh
  obtain ⟨g0, g1, g2, g3, hh⟩ := hh
  rcases hh with ⟨hc0, rfl⟩ | ⟨g, o', cs', ety, hA, rfl, hheap, hroom, hall⟩
  · have hL0 : L = [] := List.eq_nil_of_length_eq_zero (by omega)
    subst hL0
    refine ⟨l.A, 0, [], by rw [hv, g2, hc0], by simp, by simp, fun w2 hw2 => ?_, .inl ⟨rfl, .inl rfl, fun i hi => by simp at hi, Bs.set d [], ?_⟩⟩
    · cases l.A with
      | none => simp [Builtin.firstCells]
      | some a => simp [Builtin.firstCells, loadCells, loadCellsFrom]
    · exact M1.upd hB hl (Touch.refl _ _) (by simp) (by simp only [Chunk.holds])
  · obtain ⟨old, o1, o2, o3⟩ := cells_of (fun p => cs'[p]?) o' (L.length * u.width) (fun p hp => elems_cells (f := fun p => cs'[p]?) (L := L) rfl hall p hp)
    refine ⟨some ⟨g, o', none⟩, l.cap, old, by rw [hv, hA, g2], by omega, o1, fun w2 hw2 => ?_, .inr ⟨g, o', cs', ety, rfl, hheap, hroom, hall, o2, (M1.fresh d [g] hB g (by simp)).2.1, (M1.fresh d [g] hB g (by simp)).2.2, (M1.fresh d [g] hB g (by simp)).1, Bs.set d [], ?_, ?_⟩⟩
    · refine run_firstCells_some o1 (fun j hj => ?_) _ _
      rw [← o2 j hj]
      simp [World.cell?, hw2, hheap]
    · intro j B' hj hg
      by_cases hdj : d = j
      · subst hdj
        rw [List.getElem?_set_self (get_lt hB)] at hj; cases hj; simp at hg
      · rw [List.getElem?_set_ne hdj] at hj
        exact M1.apart d j [g] B' hB hj hdj g (by simp) hg
    · intro w' hT'
      exact M1.upd hB hl hT' (by simp) (by simp only [Chunk.holds])

/-- What an append reads. -/
def Told (P : Program) (m : Mm) (w : World) (u : Ty) (M : List u.den) (yv : Value) : Prop :=
  (∃ A2 c2, yv = .slice A2 M.length c2) ∧ ∃ vs : List Value, vs.length = M.length * u.width ∧ (∀ v ∈ vs, v.oneC = true) ∧
    (∀ i (hi : i < M.length), ∃ us, u.rep m (M.get ⟨i, hi⟩) us ∧ ∀ j, j < u.width → vs[i * u.width + j]? = us[j]?) ∧
    ∀ w2 : World, w2.heap = w.heap → (Builtin.firstCells u.width M.length yv).run P w2 = .ok vs.toArray w2

theorem told_rep {u : Ty} {M : List u.den} {yv : Value} {m1 : Mm} (hm : ∀ b o v, m1 b o = some v → w.cell? ⟨b, o, none⟩ = some v) (h : (Ty.slice u).rep m1 M [yv]) : Told P m1 w u M yv := by
  have h' := h
  simp only [Ty.rep, List.cons.injEq, and_true] at h'
  obtain ⟨A, c, e, _⟩ := h'
  subst e
  obtain ⟨_, vs, v1, v2, v3, v4⟩ := slice_cells (P := P) h
  exact ⟨⟨A, c, rfl⟩, vs, v1, v2, v3, fun w2 hw2 => v4 w2 (fun b o v h => by rw [World.cell?_of_block (w := w) (by rw [hw2])]; exact hm b o v h)⟩

theorem told_flat (M0 : Mem bs m ls Bs cs w) {u : Ty} (hu : u.flat = true) {s : SV} {L : List u.den} (h : flatOf cs u s = some L) {x : Value} (hx : s.rel m ls x) : Told P m w u L x := by
  obtain ⟨A, c, rfl, hr⟩ := flat_says M0 h hx
  obtain ⟨h1, vs, v1, v2, v3, v4⟩ := told_rep (P := P) (w := w) (m1 := cellsOf w) (fun b o v h => h) hr
  refine ⟨h1, vs, v1, v2, fun i hi => ?_, v4⟩
  obtain ⟨us, r1, r2⟩ := v3 i hi
  exact ⟨us, Ty.rep_flat hu r1, r2⟩

theorem Told.mono {u : Ty} {M : List u.den} {yv : Value} {m1 m2 : Mm} (hm : ∀ b o v, m1 b o = some v → m2 b o = some v) (h : Told P m1 w u M yv) : Told P m2 w u M yv := by
  obtain ⟨h1, vs, v1, v2, v3, v4⟩ := h
  refine ⟨h1, vs, v1, v2, fun i hi => ?_, v4⟩
  obtain ⟨us, r1, r2⟩ := v3 i hi
  exact ⟨us, Ty.rep_mono hm r1, r2⟩

/-- An append, from what is told of its head and its elements. -/
theorem exAppend_ok {R : Type} (hT : TOk P T) {σ : Operand → SV} {c : Call} {xo yo : Operand} {t t2 : Nat} {u : Ty} {te : TI} (hcal : c.callee = .builtin .append) (hargs : c.args = #[xo, yo]) (hts : c.argTypes = #[t, t2])
    (ht : elemTy T t = some (u, te)) (hb : te.bytes ≤ 4096) (h0 : 0 < te.size) (h2 : ∃ e2, P.underlying t2 = some (.slice e2)) {M : List u.den} {csz : List Chunk} {z : List Nat} {mayBe : Nat → Bool} {K : KT R} {r : R}
    (hcsz : csz.length = cs.length ∧ ∀ d, d ∉ z → csz[d]? = cs[d]?)
    (hy : ∀ (bs : Base) (m : Mm) (ls : List Loc) (Bs : List (List Nat)) (w : World) (yv : Value), Mem bs m ls Bs cs w → (σ yo).rel m ls yv → ∃ m1 Bs1, Ext m ls m1 ls ∧ Mem bs m1 ls Bs1 csz w ∧ Told P m1 w u M yv)
    {yv0 : SV} (h : (bif isPf (σ xo) then exAppendF (bigOf te.bytes yv0) u (σ xo) M csz z K else exAppend (bigOf te.bytes yv0) u (σ xo) M csz z mayBe K) = some r) :
    ∃ v cs' z', K v cs' z' = some r ∧ WrSem P (.call c) σ cs v cs' z' := by
  obtain ⟨e, hund, hte, htu⟩ := elemTy_some hT ht
  have hw := (hte.ty u htu).1
  have cons : ∀ (L : List u.den) (cs2 : List Chunk) (z' : List Nat) (nm : Bool), (nm = true → M ≠ []) → csz.length ≤ cs2.length → (∀ d, d < csz.length → d ∉ z' → cs2[d]? = csz[d]?) → (∀ d, d ∈ z → d ∈ z') → limP (bigOf te.bytes yv0) (L ++ M).length = true →
      (∀ (bs : Base) (m : Mm) (ls : List Loc) (Bs : List (List Nat)) (w : World) (xv : Value), Mem bs m ls Bs csz w → (σ xo).rel m ls xv → ∃ ls2, Ext m ls m ls2 ∧ ls2.length = cs2.length ∧ ∃ base cap old, xv = .slice base L.length cap ∧ L.length ≤ cap ∧ old.length = L.length * u.width ∧
        (∀ w2 : World, w2.heap = w.heap → (Builtin.firstCells u.width L.length (.slice base L.length cap)).run P w2 = .ok old.toArray w2) ∧ Head P bs m ls2 cs2 w u L nm base cap old) →
      WrSem P (.call c) σ cs (.own cs2.length) (cs2 ++ [.own u (L ++ M)]) z' := by
    intro L cs2 z' nm hnm hl hpre hzz hlen hx
    refine ⟨by simp; omega, fun d hd hn => ?_, ?_⟩
    · rw [List.getElem?_append_left (by omega), hpre d (by omega) hn]
      exact hcsz.2 d (fun hz => hn (hzz d hz))
    intro bs m ls Bs w act o hop Me hσ Kp Q hK
    obtain ⟨m1, Bs1, E1, M1, ⟨hyv, vs, v1, v2, v3, v4⟩⟩ := hy bs m ls Bs w _ Me (hσ yo)
    obtain ⟨ls2, E2, hl2, base, cap, old, e1, e2, e3, e4, hh⟩ := hx bs m1 ls Bs1 w _ M1 (SV.rel_ext E1 (hσ xo))
    exact append_core hT hcal hargs hts ht hb h0 h2 hop hl2 hyv v1 v2 v3 v4 e1 e2 e3 e4 hnm hh (lim_ok hb hlen) (fun ls' Bs' v' w' E M' hv => hK m1 ls' Bs' v' w' ((E1.trans E2).trans E) M' hv)
  cases hpf : isPf (σ xo) with
  | true =>
    rw [hpf] at h
    simp only [cond_true] at h
    unfold exAppendF at h
    simp only [guardL_eq] at h
    split at h
    · rename_i t' L hx
      split at h
      · rename_i L' hL'
        obtain ⟨e, rfl⟩ := cast?_some hL'
        simp only [Ty.slice.injEq] at e
        subst e
        split at h
        · rename_i hM
          split at h
          · rename_i hlen
            simp only [app_eq, lenL_eq] at h
            refine ⟨_, _, _, h, cons L csz z true (fun _ hm => by subst hm; simp at hM) (Nat.le_refl _) (fun d _ _ => rfl) (fun d hd => hd) hlen ?_⟩
            intro bs m ls Bs w xv Mz hxr
            rw [hx] at hxr
            simp only [SV.rel] at hxr
            obtain ⟨A, rfl, hr⟩ := hxr
            obtain ⟨_, old, o1, o2, o3, o4⟩ := slice_cells (P := P) hr
            exact ⟨ls, Ext.refl _ _, Mz.nl, A, L.length, old, rfl, Nat.le_refl _, o1, fun w2 hw2 => o4 w2 (fun b o v h => by rw [World.cell?_of_block (w := w) (by rw [hw2])]; exact Mz.mle b o v h), .inl ⟨rfl, .inr rfl, o3, Bs, Mz⟩⟩
          · cases h
        · cases h
      · simp [bad] at h
    · simp [bad] at h
  | false =>
    rw [hpf] at h
    simp only [cond_false] at h
    unfold exAppend at h
    simp only [guardL_eq] at h
    split at h
    · rename_i d hx
      cases hm : mayBe d with
      | false => rw [hm] at h; simp [bad] at h
      | true =>
        rw [hm] at h
        simp only [cond_true, nth_eq] at h
        split at h
        · rename_i t3 L hL
          split at h
          · rename_i L' hL'
            obtain ⟨e, rfl⟩ := cast?_some hL'
            simp only [Ty.slice.injEq] at e
            subst e
            split at h
            · rename_i hlen
              simp only [app_eq, lenL_eq, setNth_eq] at h
              have hc := cons L (csz.set d .gone) (d :: z) false (by simp) (by simp) (fun k hk hn => by simp at hn; rw [List.getElem?_set_ne (fun e => hn.1 e.symm)]) (fun k hk => by simp [hk]) hlen (by
                intro bs m ls Bs w xv Mz hxr
                rw [hx] at hxr
                obtain ⟨base, cap, old, e1, e2, e3, e4, e5⟩ := head_own (P := P) Mz hL hxr false
                exact ⟨ls, Ext.refl _ _, by simp [Mz.nl], base, cap, old, e1, e2, e3, e4, e5⟩)
              rw [List.length_set] at hc
              exact ⟨_, _, _, h, hc⟩
            · cases h
          · simp [bad] at h
        · simp [bad] at h
    · rename_i d lo n hx
      cases hm : mayBe d with
      | false => rw [hm] at h; simp [bad] at h
      | true =>
        rw [hm] at h
        simp only [cond_true, nth_eq] at h
        split at h
        · rename_i t3 L hL
          split at h
          · rename_i L' hL'
            obtain ⟨e, rfl⟩ := cast?_some hL'
            simp only [Ty.slice.injEq] at e
            subst e
            split at h
            · rename_i hlen
              simp only [app_eq, lenL_eq, setNth_eq] at h
              have hdl := get_lt hL
              have hc := cons (List.take n (List.drop lo L)) (csz.set d .gone ++ [.gone]) (d :: z) false (by simp) (by simp) (fun k hk hn => by simp at hn; rw [List.getElem?_append_left (by simpa using hk), List.getElem?_set_ne (fun e => hn.1 e.symm)]) (fun k hk => by simp [hk]) hlen (by
                intro bs m ls Bs w xv Mz hxr
                rw [hx] at hxr
                simp only [SV.rel] at hxr
                obtain ⟨l, A, hl, hlo, rfl, hA⟩ := hxr
                obtain ⟨Bs', M', hBl⟩ := Mz.settle hL hl hlo hA
                have hnl := Mz.nl
                have hget : (csz.set d .gone ++ [Chunk.own t3 (List.take n (List.drop lo L))])[csz.length]? = some (.own t3 (List.take n (List.drop lo L))) := by
                  rw [List.getElem?_append_right (by simp)]; simp
                have hro : (SV.own csz.length).rel m (ls ++ [⟨A, n, l.cap - lo, l.w⟩]) (.slice A n (l.cap - lo)) := by
                  simp only [SV.rel]
                  exact ⟨⟨A, n, l.cap - lo, l.w⟩, by rw [← hnl]; simp, rfl⟩
                obtain ⟨base, cap, old, e1, e2, e3, e4, e5⟩ := head_own (P := P) (d := csz.length) (xv := .slice A n (l.cap - lo)) M' hget hro false
                refine ⟨_, ext_push m ls ⟨A, n, l.cap - lo, l.w⟩, by simp [hnl], base, cap, old, e1, e2, e3, e4, ?_⟩
                have : (csz.set d .gone ++ [Chunk.own t3 (List.take n (List.drop lo L))]).set csz.length .gone = csz.set d .gone ++ [.gone] := by
                  rw [List.set_append, if_neg (by simp)]; simp
                rw [this] at e5
                exact e5)
              simp only [List.length_append, List.length_set, List.length_singleton, List.append_assoc, List.singleton_append] at hc
              exact ⟨_, _, _, h, hc⟩
            · cases h
          · simp [bad] at h
        · simp [bad] at h
    · rename_i hx
      split at h
      · rename_i hlen
        simp only [app_eq, lenL_eq] at h
        have hc := cons [] csz z false (by simp) (Nat.le_refl _) (fun d _ _ => rfl) (fun d hd => hd) (by simpa using hlen) (by
          intro bs m ls Bs w xv Mz hxr
          rw [hx] at hxr
          simp only [SV.rel] at hxr
          exact ⟨ls, Ext.refl _ _, Mz.nl, none, 0, [], by simpa using hxr, by simp, by simp, fun w2 hw2 => by simp [Builtin.firstCells], .inl ⟨rfl, .inl rfl, fun i hi => by simp at hi, Bs, Mz⟩⟩)
        exact ⟨_, _, _, h, by simpa using hc⟩
      · cases h
    · rename_i t' L hx
      split at h
      · rename_i hL'
        split at h
        · rename_i hlen
          simp only [app_eq, lenL_eq] at h
          obtain ⟨e, he⟩ := cast?_some hL'
          simp only [Ty.slice.injEq] at e
          subst e
          have hL0 : L = [] := he.symm
          subst hL0
          have hc := cons [] csz z false (by simp) (Nat.le_refl _) (fun d _ _ => rfl) (fun d hd => hd) (by simpa using hlen) (by
            intro bs m ls Bs w xv Mz hxr
            rw [hx] at hxr
            simp only [SV.rel] at hxr
            obtain ⟨A, rfl, hr⟩ := hxr
            refine ⟨ls, Ext.refl _ _, Mz.nl, A, 0, [], rfl, by simp, by simp, fun w2 hw2 => ?_, .inl ⟨rfl, .inl rfl, fun i hi => by simp at hi, Bs, Mz⟩⟩
            cases A with
            | none => simp [Builtin.firstCells]
            | some a => simp [Builtin.firstCells, loadCells, loadCellsFrom])
          exact ⟨_, _, _, h, by simpa using hc⟩
        · cases h
      · simp [bad] at h
      · simp [bad] at h
    · simp [bad] at h

theorem cpy_get {α : Type} (L S : List α) (lo n : Nat) (h : lo + n ≤ L.length) (i : Nat) : (cpy L S lo n)[i]? = if i < lo then L[i]? else if i < lo + min S.length n then S[i - lo]? else L[i]? := by
  unfold cpy
  have h1 : (List.take lo L).length = lo := by simp; omega
  have h2 : (List.take n S).length = min S.length n := by simp; omega
  by_cases hi : i < lo
  · rw [if_pos hi, List.getElem?_append_left (by omega), List.getElem?_take, if_pos hi]
  · rw [if_neg hi, List.getElem?_append_right (by omega), h1]
    by_cases hi2 : i < lo + min S.length n
    · rw [if_pos hi2, List.getElem?_append_left (by omega), List.getElem?_take, if_pos (by omega)]
    · rw [if_neg hi2, List.getElem?_append_right (by omega), h2, List.getElem?_drop]
      congr 1; omega

theorem cpy_len {α : Type} (L S : List α) (lo n : Nat) (h : lo + n ≤ L.length) : (cpy L S lo n).length = L.length := by
  unfold cpy
  simp only [List.length_append, List.length_take, List.length_drop]
  omega

/-- Cells of the first elements. -/
theorem told_first {u : Ty} {S : List u.den} {yv : Value} {m1 : Mm} (h : (Ty.slice u).rep m1 S [yv]) (hm : ∀ b o v, m1 b o = some v → w.cell? ⟨b, o, none⟩ = some v) (k : Nat) (hk : k ≤ S.length) :
    ∃ vs : List Value, vs.length = k * u.width ∧ (∀ v ∈ vs, v.oneC = true) ∧ (∀ i (hi : i < k), ∃ us, u.rep m1 (S.get ⟨i, by omega⟩) us ∧ ∀ j, j < u.width → vs[i * u.width + j]? = us[j]?) ∧
      (Builtin.firstCells u.width k yv).run P w = .ok vs.toArray w := by
  have h' := h
  simp only [Ty.rep, List.cons.injEq, and_true] at h'
  obtain ⟨A, c, e, hc, hall⟩ := h'
  subst e
  by_cases hk0 : k = 0
  · subst hk0
    refine ⟨[], by simp, by simp, fun i hi => absurd hi (by omega), ?_⟩
    cases A with
    | none => simp [Builtin.firstCells]
    | some a => simp [Builtin.firstCells, loadCells, loadCellsFrom]
  · obtain ⟨b, o, rfl, hq⟩ := hall (by omega)
    have hq' : ∀ i (hi : i < (List.take k S).length), ∃ us, u.rep m1 ((List.take k S).get ⟨i, hi⟩) us ∧ ∀ j, j < u.width → m1 b (o + i * u.width + j) = us[j]? := by
      intro i hi
      have hi' : i < S.length := by simp at hi; omega
      obtain ⟨us, r1, r2⟩ := hq i hi'
      exact ⟨us, by simpa using r1, r2⟩
    obtain ⟨vs, v1, v2, v3⟩ := cells_of (fun p => m1 b p) o (k * u.width) (fun p hp => elems_cells (n := k) (f := fun p => m1 b p) (L := List.take k S) (by simp; omega) hq' p hp)
    refine ⟨vs, v1, v3, fun i hi => ?_, ?_⟩
    · obtain ⟨us, r1, r2⟩ := hq i (by omega)
      refine ⟨us, r1, fun j hj => ?_⟩
      have hlt : i * u.width + j < k * u.width := by
        have : (i + 1) * u.width ≤ k * u.width := Nat.mul_le_mul_right _ hi
        rw [Nat.add_mul] at this; omega
      rw [← v2 _ hlt, ← r2 j hj]
      show m1 b (o + (i * u.width + j)) = m1 b (o + i * u.width + j)
      congr 1; omega
    · refine run_firstCells_some v1 (fun j hj => ?_) _ _
      have := v2 j hj
      have hlt : j < vs.length := by omega
      rw [List.getElem?_eq_getElem hlt] at this ⊢
      exact hm _ _ _ this

/-- Copying into a part of an own slice. -/
theorem copy_core (hT : TOk P T) {t t2 ty : Nat} {u : Ty} {te : TI} (ht : elemTy T t = some (u, te)) (hu : u.flat = true) {d lo n : Nat} {L S : List u.den} {l : Loc} {A : Option Addr} {yv : Value}
    (M : Mem bs m ls Bs cs w) (hd : cs[d]? = some (.own u L)) (hl : ls[d]? = some l) (hlo : lo + n ≤ l.len) (hA : lo < l.cap → A = l.A.map (·.add (lo * l.w))) (hy : (∃ A2 c2, yv = .slice A2 S.length c2) ∧ (Ty.slice u).rep (cellsOf w) S [yv]) {cp : Nat} :
    ∃ w' Bs', (Builtin.copy_ #[t, t2] ty #[.slice A n cp, yv]).run P w = .ok (.int .i64 ((min S.length n : Nat) : Int)) w' ∧ Mem bs m ls Bs' (cs.set d (.own u (cpy L S lo n))) w' := by
  obtain ⟨e, hund, hte, htu⟩ := elemTy_some hT ht
  have hw := (hte.ty u htu).1
  obtain ⟨⟨A2, c2, rfl⟩, hrep⟩ := hy
  obtain ⟨l', B, hl', hB, hh⟩ := M.at hd
  rw [hl] at hl'; cases hl'
  simp only [Chunk.holds] at hh
  obtain ⟨g0, g1, g2, g3, hh⟩ := hh
  obtain ⟨vs, v1, v2, v3, v4⟩ := told_first (P := P) (w := w) hrep (fun b o v h => h) (min S.length n) (Nat.min_le_left _ _)
  have hlen := cpy_len L S lo n (by omega)
  have hrun : ∀ {w' : World}, (match A with | some a => (storeCells a vs).run P w | none => .ok () w) = .ok () w' → (Builtin.copy_ #[t, t2] ty #[.slice A n cp, .slice A2 S.length c2]).run P w = .ok (.int .i64 ((min S.length n : Nat) : Int)) w' := by
    intro w' hw'
    have q0 : (#[t, t2] : Array TypeId)[0]? = some t := rfl
    have r0 : (#[.slice A n cp, .slice A2 S.length c2] : Array Value)[0]? = some (.slice A n cp) := rfl
    have r1 : (#[.slice A n cp, .slice A2 S.length c2] : Array Value)[1]? = some (.slice A2 S.length c2) := rfl
    have hmin : Nat.min S.length n = min S.length n := rfl
    simp only [Builtin.copy_, q0, r0, r1, Sem.run_bind, run_underlying hund, Result.andThen_ok, Builtin.lenOf, Sem.run_pure, run_sizeOf hte, hmin, ← hw, v4, goInt]
    cases A with
    | none => simp only [Sem.run_pure, Result.andThen_ok]; cases hw'; rfl
    | some a =>
      have hw2 : (storeCells a vs).run P w = .ok () w' := hw'
      simp only [Sem.run_bind, Sem.run_pure, Result.andThen_ok, hw2]
  rcases hh with ⟨hcap, rfl⟩ | ⟨g, o, cs', ety, hA', rfl, hheap, hroom, hall⟩
  · have hn0 : n = 0 := by omega
    subst hn0
    have hvs : vs = [] := List.eq_nil_of_length_eq_zero (by simpa using v1)
    subst hvs
    refine ⟨w, _, hrun ?_, M.upd (B' := []) (c' := .own u (cpy L S lo 0)) hB hl (Touch.refl _ _) (by simp) ?_⟩
    · cases A with
      | none => rfl
      | some a => simp [storeCells]
    · simp only [Chunk.holds]
      exact ⟨g0, g1, by rw [hlen]; exact g2, by rw [hlen]; exact g3, .inl ⟨hcap, trivial⟩⟩
  · by_cases hn0 : min S.length n = 0
    · have hvs : vs = [] := List.eq_nil_of_length_eq_zero (by rw [v1, hn0]; simp)
      subst hvs
      have hcp : cpy L S lo n = L := by
        apply List.ext_getElem?
        intro i
        rw [cpy_get L S lo n (by omega)]
        by_cases hi : i < lo
        · rw [if_pos hi]
        · rw [if_neg hi, if_neg (by omega)]
      refine ⟨w, Bs.set d [g], hrun ?_, ?_⟩
      · cases A with
        | none => rfl
        | some a => simp [storeCells]
      · rw [hcp]
        exact M.upd (B' := [g]) (c' := .own u L) hB hl (Touch.refl _ _) (by simp) (by simp only [Chunk.holds]; exact ⟨g0, g1, g2, g3, .inr ⟨g, o, cs', ety, hA', rfl, hheap, hroom, hall⟩⟩)
    · have hA := hA (by omega)
      rw [hA'] at hA
      simp only [Option.map_some, Addr.add_none] at hA
      subst hA
      have hk : (lo + min S.length n) * u.width ≤ l.cap * u.width := Nat.mul_le_mul_right _ (by omega)
      rw [Nat.add_mul] at hk
      obtain ⟨w', c', e1, e2, e3, e4⟩ := run_storeCells (P := P) (g := g) (e := ety) vs 0 (o + lo * l.w) w cs' v2 hheap (by rw [v1, g1]; omega)
      simp only [Nat.add_zero] at e4
      refine ⟨w', _, hrun e1, M.upd (B' := [g]) (c' := .own u (cpy L S lo n)) hB hl e2 (fun _ h => h) ?_⟩
      have hcl : cs'.toList.length = cs'.size := by simp
      have hc's : c'.size = cs'.size := by
        rw [← Array.length_toList, e4]
        simp only [List.length_append, List.length_take, List.length_drop, hcl, g1]
        omega
      simp only [Chunk.holds]
      refine ⟨g0, g1, by rw [hlen]; exact g2, by rw [hlen]; exact g3, .inr ⟨g, o, c', ety, hA', rfl, e3, by rw [hc's]; exact hroom, fun i hi => ?_⟩⟩
      have hi' : i < List.length L := by rw [hlen] at hi; exact hi
      have hq := cpy_get L S lo n (by omega) i
      rw [List.getElem?_eq_getElem hi] at hq
      obtain ⟨us, r1, r2⟩ := hall i hi'
      by_cases hlt : i < lo
      · rw [if_pos hlt, List.getElem?_eq_getElem hi'] at hq
        refine ⟨us, by rw [List.get_eq_getElem, Option.some.inj hq]; exact r1, fun j hj => ?_⟩
        rw [← r2 j hj, ← Array.getElem?_toList, e4, g1]
        have : (i + 1) * u.width ≤ lo * u.width := Nat.mul_le_mul_right _ (by omega)
        rw [Nat.add_mul] at this
        rw [splice_get _ _ _ _ (by rw [v1]; omega), if_pos (by omega), Array.getElem?_toList]
      · rw [if_neg hlt] at hq
        by_cases hlt2 : i < lo + min S.length n
        · rw [if_pos hlt2, List.getElem?_eq_getElem (by omega)] at hq
          obtain ⟨us', r1', r2'⟩ := v3 (i - lo) (by omega)
          refine ⟨us', by rw [List.get_eq_getElem, Option.some.inj hq]; exact Ty.rep_flat hu r1', fun j hj => ?_⟩
          rw [← r2' j hj, ← Array.getElem?_toList, e4, g1]
          have h5 : (i - lo + 1) * u.width ≤ (min S.length n) * u.width := Nat.mul_le_mul_right _ (by omega)
          rw [Nat.add_mul] at h5
          have h6 : i * u.width = lo * u.width + (i - lo) * u.width := by rw [← Nat.add_mul]; congr 1; omega
          rw [splice_get _ _ _ _ (by rw [v1]; omega), if_neg (by omega), if_pos (by rw [v1]; omega)]
          congr 1; omega
        · rw [if_neg hlt2, List.getElem?_eq_getElem hi'] at hq
          refine ⟨us, by rw [List.get_eq_getElem, Option.some.inj hq]; exact r1, fun j hj => ?_⟩
          rw [← r2 j hj, ← Array.getElem?_toList, e4, g1]
          have h5 : (lo + min S.length n) * u.width ≤ i * u.width := Nat.mul_le_mul_right _ (by omega)
          rw [Nat.add_mul] at h5
          rw [splice_get _ _ _ _ (by rw [v1]; omega), if_neg (by omega), if_neg (by rw [v1]; omega), Array.getElem?_toList]

theorem cast_slice {a b : Ty} {L : List a.den} {L' : List b.den} (h : cast? (.slice a) (.slice b) L = some L') : ∃ e : a = b, L' = e ▸ L := by
  obtain ⟨e, rfl⟩ := cast?_some h
  simp only [Ty.slice.injEq] at e
  subst e
  exact ⟨rfl, rfl⟩

theorem exCopy_ok {R : Type} (hT : TOk P T) {σ : Operand → SV} {c : Call} {xo yo : Operand} {t t2 : Nat} {u : Ty} {te : TI} (hcal : c.callee = .builtin .copy) (hargs : c.args = #[xo, yo]) (hts : c.argTypes = #[t, t2])
    (ht : elemTy T t = some (u, te)) (hu : u.flat = true) {S : List u.den} (hy : flatOf cs u (σ yo) = some S) {K : KT R} {r : R} (h : exCopy u (σ xo) S cs K = some r) :
    ∃ v cs' z, K v cs' z = some r ∧ WrSem P (.call c) σ cs v cs' z := by
  obtain ⟨e, hund, hte, htu⟩ := elemTy_some hT ht
  have hexec : ∀ (act : Act) (o : Oper) (w : World) {v' : Value} {w' : World}, o.op = .call c → (Builtin.copy_ #[t, t2] o.type #[act.eval xo, act.eval yo]).run P w = .ok v' w' → (execOp act.eval o).run P w = .ok (.value v') w' := by
    intro act o w v' w' hop h
    unfold execOp; rw [hop]
    simp [resolve, hcal, hargs, hts, invoke, builtin, h]
  have own : ∀ (d lo n : Nat) (L : List u.den), cs[d]? = some (.own u L) → (∀ m ls Bs (bs : Base) w xv, Mem bs m ls Bs cs w → (σ xo).rel m ls xv → ∃ l A cp, ls[d]? = some l ∧ lo + n ≤ l.len ∧ (lo < l.cap → A = l.A.map (·.add (lo * l.w))) ∧ xv = .slice A n cp) →
      WrSem P (.call c) σ cs (.p (.int .i64) ((min S.length n : Nat) : Int)) (cs.set d (.own u (cpy L S lo n))) [d] := by
    intro d lo n L hd hx
    refine ⟨by simp, fun k hk hn => by rw [List.getElem?_set_ne (by simp at hn; exact fun e => hn e.symm)], ?_⟩
    intro bs m ls Bs w act o hop M hσ Kp Q hK
    obtain ⟨l, A, cp, hl, hlo, hA, hxv⟩ := hx m ls Bs bs w _ M (hσ xo)
    obtain ⟨A2, c2, hyv, hyr⟩ := flat_says M hy (hσ yo)
    obtain ⟨w', Bs', h1, M'⟩ := copy_core (t2 := t2) (ty := o.type) (cp := cp) hT ht hu M hd hl hlo hA (yv := act.eval yo) ⟨⟨A2, c2, hyv⟩, by rw [hyv]; exact hyr⟩
    unfold Oper.wp
    rw [hexec act o w hop (by rw [hxv]; exact h1)]
    exact hK m ls _ _ _ (Ext.refl _ _) M' (SV.mk_int _ _)
  unfold exCopy at h
  split at h
  · rename_i d hx
    simp only [nth_eq] at h
    split at h
    · rename_i t' L hc
      split at h
      · rename_i L' hL'
        obtain ⟨e, rfl⟩ := cast_slice hL'
        subst e
        simp only [setNth_eq] at h
        refine ⟨_, _, _, h, own d 0 L.length L hc ?_⟩
        intro m ls Bs bs w xv M hxr
        rw [hx] at hxr
        simp only [SV.rel] at hxr
        obtain ⟨l, hl, rfl⟩ := hxr
        obtain ⟨l', B, hl', hB, hh⟩ := M.at hc
        rw [hl] at hl'; cases hl'
        simp only [Chunk.holds] at hh
        exact ⟨l, l.A, l.cap, hl, by omega, fun _ => by cases l.A <;> simp [Addr.add], by rw [hh.2.2.1]⟩
      · simp [bad] at h
    · simp [bad] at h
  · rename_i d lo n hx
    simp only [nth_eq] at h
    split at h
    · rename_i t' L hc
      split at h
      · rename_i L' hL'
        obtain ⟨e, rfl⟩ := cast_slice hL'
        subst e
        simp only [setNth_eq] at h
        refine ⟨_, _, _, h, own d lo n L hc ?_⟩
        intro m ls Bs bs w xv M hxr
        rw [hx] at hxr
        simp only [SV.rel] at hxr
        obtain ⟨l, A, hl, hlo, rfl, hA⟩ := hxr
        exact ⟨l, A, _, hl, hlo, hA, rfl⟩
      · simp [bad] at h
    · simp [bad] at h
  · rename_i hx
    refine ⟨_, _, _, h, by simp, fun k hk hn => rfl, ?_⟩
    intro bs m ls Bs w act o hop M hσ Kp Q hK
    have hxr := hσ xo
    rw [hx] at hxr
    simp only [SV.rel] at hxr
    obtain ⟨A2, c2, hyv, hyr⟩ := flat_says M hy (hσ yo)
    have h1 : (Builtin.copy_ #[t, t2] o.type #[.slice none 0 0, .slice A2 S.length c2]).run P w = .ok (.int .i64 0) w := by
      have q0 : (#[t, t2] : Array TypeId)[0]? = some t := rfl
      have r0 : (#[.slice none 0 0, .slice A2 S.length c2] : Array Value)[0]? = some (.slice none 0 0) := rfl
      have r1 : (#[.slice none 0 0, .slice A2 S.length c2] : Array Value)[1]? = some (.slice A2 S.length c2) := rfl
      have hmin : Nat.min S.length 0 = 0 := Nat.min_zero _
      have hf : (Builtin.firstCells te.size 0 (.slice A2 S.length c2)).run P w = .ok #[] w := by
        cases A2 with
        | none => simp [Builtin.firstCells]
        | some a => simp [Builtin.firstCells, loadCells, loadCellsFrom]
      simp only [Builtin.copy_, q0, r0, r1, Sem.run_bind, run_underlying hund, Result.andThen_ok, Builtin.lenOf, Sem.run_pure, run_sizeOf hte, hmin, hf, goInt]
      rfl
    unfold Oper.wp
    rw [hexec act o w hop (by rw [hxr, hyv]; exact h1)]
    exact hK m ls _ _ _ (Ext.refl _ _) M (SV.mk_int _ _)
  · simp [bad] at h

theorem mapTy_some (hT : TOk P T) {t : Nat} {u v : Ty} (h : mapTy T t = some (u, v)) : ∃ k e te, P.underlying t = some (.map k e) ∧ KeyOk P k u ∧ T.find e = some te ∧ te.ok P e ∧ te.ty = some v := by
  unfold mapTy at h
  split at h
  · rename_i ti ht
    split at h
    · rename_i k e u' hd
      split at h
      · rename_i te hte
        split at h
        · rename_i v' hv
          cases h
          obtain ⟨d, h1, _, h3⟩ := (hT _ _ ht).und
          rw [hd] at h3
          obtain ⟨rfl, hK⟩ := h3
          exact ⟨k, e, te, h1, hK, hte, hT _ _ hte, hv⟩
        · cases h
      · cases h
    · cases h
  · cases h

theorem wr_makeMap (hT : TOk P T) {σ : Operand → SV} {t : Nat} {u v : Ty} (ht : mapTy T t = some (u, v)) : WrSem P (.makeMap t none) σ cs (.map cs.length) (cs ++ [.map u v []]) [] := by
  refine ⟨by simp, fun c hc _ => List.getElem?_append_left hc, ?_⟩
  intro bs m ls Bs w a o hop M hσ Kp Q hK
  have hrun : (execOp a.eval o).run P w = .ok (.value (.map (some w.heap.size))) (w.alloc (.map #[] 0)) := by
    unfold execOp; rw [hop]
    simp [Instr.makeMap]
  unfold Oper.wp
  rw [hrun]
  let l : Loc := ⟨some ⟨w.heap.size, 0, none⟩, 0, 0, 0⟩
  have M' := M.new (.map #[] 0) (c := .map u v []) (l := l) (by
    simp only [Chunk.holds]
    exact ⟨w.heap.size, #[], 0, rfl, rfl, heap_alloc _ _, rfl, fun i e h => by simp at h⟩)
  refine hK m _ _ _ _ (ext_push m ls l) M' ?_
  simp only [SV.rel]
  exact ⟨l, w.heap.size, by rw [← M.nl]; simp, rfl, rfl⟩

theorem mput_get (u v : Ty) (x : u.den) (y : v.den) : ∀ (L : List (u.den × v.den)) (i : Nat),
    (match kfind u x (L.map (·.1)) i with
    | some j => mput u v L x y = L.set (j - i) (x, y)
    | none => mput u v L x y = L ++ [(x, y)])
  | [], i => by simp [kfind, mput]
  | a :: L, i => by
    simp only [List.map_cons, kfind, mput]
    cases hb : u.beq x a.1 with
    | true => simp
    | false =>
      simp only [cond_false]
      have := mput_get u v x y L (i + 1)
      cases hk : kfind u x (L.map (·.1)) (i + 1) with
      | none => rw [hk] at this; simp [this]
      | some j =>
        rw [hk] at this
        have hj := kfind_lt hk
        simp only [this]
        rw [show j - i = (j - (i + 1)) + 1 by omega]; rfl

theorem exMapPut_ok {R : Type} (hT : TOk P T) {σ : Operand → SV} {op : Op} {t : Nat} {xo ko yo : Operand} (hop' : op = .mapUpdate t xo ko yo ∨ op = .insert t xo ko yo) {K : KT R} {r : R}
    (h : exMapPut T t (σ xo) (σ ko) (σ yo) cs K = some r) : ∃ v cs' z, K v cs' z = some r ∧ WrSem P op σ cs v cs' z := by
  unfold exMapPut at h
  split at h
  · rename_i d hx
    split at h
    · rename_i u v hmt
      obtain ⟨kt, e, te, hund, hK, hte, hteo, hv⟩ := mapTy_some hT hmt
      split at h
      · rename_i k hk
        split at h
        · rename_i y z hy
          simp only [nth_eq] at h
          split at h
          · rename_i ku vu L hc
            split at h
            · rename_i L' hL'
              obtain ⟨e1, rfl⟩ := cast_slice hL'
              simp only [Ty.pair.injEq] at e1
              obtain ⟨rfl, rfl⟩ := e1
              cases hm : memL d z with
              | true => rw [hm] at h; simp [bad] at h
              | false =>
                rw [hm] at h
                simp only [cond_false, setNth_eq] at h
                have hz := memL_false hm
                refine ⟨_, _, _, h, by simp [(freeze_spec z cs).1], fun q hq hn => ?_, ?_⟩
                · simp at hn
                  rw [List.getElem?_set_ne (fun e => hn.1 e.symm)]
                  exact (freeze_spec z cs).2 q hn.2
                intro bs m ls Bs w act o hop M hσ Kp Q hKp
                obtain ⟨m1, Bs1, E1, M1, R1⟩ := M.freeze z
                have hkey := key_data hK.flat hk (hσ ko)
                have hyrel : (SV.p vu y).rel m1 ls (act.eval yo) := SV.data_rel hy R1 (SV.rel_ext E1 (hσ yo)) ls
                have hxr := SV.rel_ext E1 (hσ xo)
                rw [hx] at hxr
                simp only [SV.rel] at hxr
                obtain ⟨l, b, hl, hA, hxv⟩ := hxr
                have hc1 : (freeze cs z)[d]? = some (.map ku vu L) := by rw [(freeze_spec z cs).2 d hz]; exact hc
                obtain ⟨l', B, hl', hB, hh⟩ := M1.at hc1
                rw [hl] at hl'; cases hl'
                simp only [Chunk.holds] at hh
                obtain ⟨g, es, clock, hA', rfl, hheap, hes, hr⟩ := hh
                rw [hA] at hA'; cases hA'
                have hks := es_keys hK.flat hes hr
                have hfind := hK.find k (L.map (·.1)) es.toList w hks
                have hmp := mput_get ku vu k y L 0
                have hobj : (getObj b).run P w = .ok (.map es clock) w := run_getObj_some hheap
                have hset : ∀ ob, (setObj b ob).run P w = .ok () { w with heap := w.heap.setIfInBounds b ob } := fun ob => MapKept.run_setObj_map ob hheap
                have hblt : b < w.heap.size := by
                  rcases Nat.lt_or_ge b w.heap.size with h' | h'
                  · exact h'
                  · rw [Array.getElem?_eq_none h'] at hheap; cases hheap
                have touch : ∀ ob, Touch w { w with heap := w.heap.setIfInBounds b ob } [b] := fun ob => ⟨rfl, rfl, rfl, by simp, fun q hq => by
                  simp only [Array.getElem?_setIfInBounds]; rw [if_neg (by simp at hq; omega)]⟩
                obtain ⟨es', clock', hrun, hes', hr'⟩ : ∃ es' clock', (Instr.mapUpdate t (.map (some b)) (ku.val k) (act.eval yo)).run P w = .ok () { w with heap := w.heap.setIfInBounds b (.map es' clock') } ∧ es'.size = (mput ku vu L k y).length ∧
                    ∀ (i : Nat) e (h : i < (mput ku vu L k y).length), es'[i]? = some e → SV.rel m1 ls (.p ku ((mput ku vu L k y)[i]).1) e.key ∧ SV.rel m1 ls (.p vu ((mput ku vu L k y)[i]).2) e.val := by
                  cases hf : kfind ku k (L.map (·.1)) 0 with
                  | none =>
                    rw [hf] at hmp hfind
                    refine ⟨es.push { key := ku.val k, val := act.eval yo, born := clock }, clock + 1, ?_, by rw [hmp]; simp [hes], ?_⟩
                    · simp only [Instr.mapUpdate, Sem.run_bind, run_underlying hund, Result.andThen_ok, hobj, hK.check, hfind, Option.bind_none, hset]
                    · rw [hmp]
                      intro i e hi he
                      by_cases hil : i < List.length L
                      · rw [Array.getElem?_push, if_neg (by omega)] at he
                        simp only [List.getElem_append_left hil]
                        exact hr i e hil he
                      · have hieq : i = List.length L := by simp at hi; omega
                        subst hieq
                        rw [Array.getElem?_push, if_pos hes.symm] at he
                        cases he
                        simp only [List.getElem_append_right (Nat.le_refl _), Nat.sub_self, List.getElem_cons_zero]
                        exact ⟨val_rel m1 ls hK.flat, hyrel⟩
                  | some j =>
                    rw [hf] at hmp hfind
                    simp only [Nat.sub_zero] at hmp
                    have hj := (kfind_lt hf).2
                    simp only [List.length_map, Nat.zero_add] at hj
                    have hj' : j < es.size := by omega
                    have hgj := Array.getElem?_eq_getElem hj'
                    have hkj : es[j].key = ku.val k := by
                      have h1 := congrArg (fun q => q[j]?) hks
                      simp only [List.getElem?_map, Array.getElem?_toList, hgj, Option.map_some, List.getElem?_eq_getElem hj, Option.some.injEq] at h1
                      rw [h1]
                      exact congrArg ku.val (kfind_eq hf (by rw [Nat.sub_zero, List.getElem?_map, List.getElem?_eq_getElem hj]; rfl))
                    refine ⟨es.modify j fun e => { e with key := ku.val k, val := act.eval yo }, clock, ?_, by rw [hmp]; simp [hes], ?_⟩
                    · simp only [Option.bind_some, Array.getElem?_toList, hgj, Option.map_some] at hfind
                      simp only [Instr.mapUpdate, Sem.run_bind, run_underlying hund, Result.andThen_ok, hobj, hK.check, hfind, hgj, Option.map_some, Option.getD_some, hkj, hK.stays, hset]
                    · rw [hmp]
                      intro i e hi he
                      have hi' : i < List.length L := by simpa using hi
                      rw [Array.getElem?_modify] at he
                      by_cases hij : j = i
                      · subst hij
                        rw [if_pos rfl, hgj] at he
                        simp only [Option.map_some, Option.some.injEq] at he
                        subst he
                        simp only [List.getElem_set_self]
                        exact ⟨val_rel m1 ls hK.flat, hyrel⟩
                      · rw [if_neg hij] at he
                        simp only [List.getElem_set_ne hij]
                        exact hr i e hi' he
                have hrun' : (execOp act.eval o).run P w = .ok .skip { w with heap := w.heap.setIfInBounds b (.map es' clock') } := by
                  unfold execOp; rw [hop]
                  rcases hop' with rfl | rfl <;> simp only [hxv, hkey, Sem.run_bind, hrun, Result.andThen_ok, Sem.run_pure]
                unfold Oper.wp
                rw [hrun']
                refine hKp m1 ls _ undef _ E1 (M1.upd (c' := .map ku vu (mput ku vu L k y)) hB hl (touch _) (fun _ h => h) ?_) (by simp only [SV.rel])
                simp only [Chunk.holds]
                exact ⟨b, es', clock', hA, rfl, by simp [hblt], hes', hr'⟩
            · simp [bad] at h
          · simp [bad] at h
        · simp [bad] at h
      · simp [bad] at h
    · simp [bad] at h
  · simp [bad] at h

theorem blt_pos {n : Nat} (h : Nat.blt 0 n = true) : 0 < n := by simp [Nat.blt] at h; omega
theorem arr_one {α : Type} {a : Array α} {x : α} (h : a.toList = [x]) : a = #[x] := by apply Array.ext'; simpa using h
theorem arr_two {α : Type} {a : Array α} {x y : α} (h : a.toList = [x, y]) : a = #[x, y] := by apply Array.ext'; simpa using h

variable {R : Type} {env : Nat → List SV → List Chunk → KT R → Option R}

/-- What the machine tells of an operation that turns memory is so. -/
theorem wr_ok (hT : TOk P T) (hE : EnvOk P env) {op : Op} {σ : Operand → SV} {cs : List Chunk} {K : KT R} {r : R} (h : exWr T env op σ cs K = some r) :
    ∃ v cs' z, K v cs' z = some r ∧ WrSem P op σ cs v cs' z := by
  unfold exWr at h
  split at h
  · -- box
    rename_i e x
    split at h
    · cases ho : allL SV.one (σ x).cells with
      | false => rw [ho] at h; simp [bad] at h
      | true =>
        rw [ho] at h
        simp only [cond_true, app_eq, lenL_eq] at h
        exact ⟨_, _, _, h, wr_box hT ho⟩
    · simp [bad] at h
  · -- alloc
    rename_i e
    split at h
    · rename_i ti ht
      simp only [app_eq, lenL_eq] at h
      exact ⟨_, _, _, h, wr_alloc hT ht⟩
    · simp [bad] at h
  · -- buildSlice
    rename_i t len parts
    split at h
    · rename_i u te ht
      split at h
      · rename_i L z hL
        cases ho : inOrder 0 parts.toList with
        | false => rw [ho] at h; simp [bad] at h
        | true =>
          rw [ho] at h
          cases hl : Nat.beq (lenL parts.toList) len with
          | false => rw [hl] at h; simp [bad] at h
          | true =>
            rw [hl] at h
            cases h24 : Nat.ble (len * te.size) 16777216 with
            | false => rw [h24] at h; simp [bad] at h
            | true =>
              rw [h24] at h
              cases h0 : Nat.blt 0 te.size with
              | false => rw [h0] at h; simp [bad] at h
              | true =>
                rw [h0] at h
                simp only [cond_true, app_eq, lenL_eq] at h
                exact ⟨_, _, _, h, wr_lit hT ht hL ho (by rw [← lenL_eq]; exact beq_nat hl) (Nat.le_of_ble_eq_true h24) (blt_pos h0)⟩
      · simp [bad] at h
    · simp [bad] at h
  · -- store
    rename_i t a x
    split at h
    · rename_i c off ha
      split at h
      · rename_i cells ty hc
        split at h
        · rename_i ti ht
          cases ho : allL SV.one (σ x).cells with
          | false => rw [ho] at h; simp [bad] at h
          | true =>
            rw [ho] at h
            cases hb : Nat.beq (lenL (σ x).cells) ti.size with
            | false => rw [hb] at h; simp [bad] at h
            | true =>
              rw [hb] at h
              cases hle : Nat.ble (off + lenL (σ x).cells) (lenL cells) with
              | false => rw [hle] at h; simp [bad] at h
              | true =>
                rw [hle] at h
                simp only [cond_true] at h
                rw [nth_eq] at hc
                have h1 := beq_nat hb
                have h2 := Nat.le_of_ble_eq_true hle
                simp only [lenL_eq] at h1 h2
                cases hsub : isSub (σ x) with
                | false =>
                  rw [hsub] at h
                  simp only [cond_false, setNth_eq] at h
                  exact ⟨_, _, _, h, wr_store_box hT ht ha hc ho h1 h2⟩
                | true =>
                  rw [hsub] at h
                  simp only [cond_true] at h
                  cases hx : σ x with
                  | sub d lo n =>
                    rw [hx] at h
                    have h1' : 1 = ti.size := by rw [hx] at h1; exact h1
                    have h2' : off + 1 ≤ cells.length := by rw [hx] at h2; exact h2
                    simp only [settleV, nth_eq] at h
                    cases hd : cs[d]? with
                    | none =>
                      rw [hd] at h
                      simp only [setNth_eq] at h
                      rw [← hx] at h
                      exact ⟨_, _, _, h, wr_store_box hT ht ha hc ho h1 h2⟩
                    | some ch =>
                      rw [hd] at h
                      cases ch with
                      | own u L =>
                        simp only [setNth_eq, app_eq, lenL_eq] at h
                        exact ⟨_, _, _, h, wr_store_sub hT ht ha hc hx hd h1' h2'⟩
                      | _ =>
                        simp only [setNth_eq] at h
                        rw [← hx] at h
                        exact ⟨_, _, _, h, wr_store_box hT ht ha hc ho h1 h2⟩
                  | _ => rw [hx] at hsub; simp [isSub] at hsub
        · simp [bad] at h
      · simp [bad] at h
    · rename_i c off n k ha
      split at h
      · rename_i cells ty hc
        split at h
        · rename_i ti ht
          split at h
          · rename_i u hu
            split at h
            · rename_i y z hy
              cases hag : u.agg with
              | true => rw [hag] at h; simp [bad] at h
              | false =>
                rw [hag] at h
                cases hle : Nat.ble (off + n) (lenL cells) with
                | false => rw [hle] at h; simp [bad] at h
                | true =>
                  rw [hle] at h
                  simp only [cond_true, cond_false] at h
                  split at h
                  · rename_i xs hxs
                    simp only [setNth_eq] at h
                    rw [nth_eq] at hc
                    have h2 := Nat.le_of_ble_eq_true hle
                    rw [lenL_eq] at h2
                    exact ⟨_, _, _, h, wr_store_ixp hT ht hu hag ha hc hy h2 hxs⟩
                  · simp [bad] at h
            · simp [bad] at h
          · simp [bad] at h
        · simp [bad] at h
      · simp [bad] at h
    · rename_i c i off ha
      split at h
      · rename_i u L hc
        split at h
        · rename_i ti ht
          split at h
          · rename_i w0 hw0
            split at h
            · rename_i y z hd
              split at h
              · rename_i e hu
                cases hm : memL c z with
                | true => rw [hm] at h; simp [bad] at h
                | false =>
                  rw [hm] at h
                  simp only [cond_false, setNth_eq] at h
                  rw [nth_eq] at hc
                  exact ⟨_, _, _, h, wr_store_own hT ht hw0 ha hc hd hu (memL_false hm)⟩
              · simp [bad] at h
            · simp [bad] at h
          · simp [bad] at h
        · simp [bad] at h
      · simp [bad] at h
    · simp [bad] at h
  · -- makeSlice
    rename_i t l c
    split at h
    · rename_i u te ht
      cases hz : Nat.beq te.size 0 with
      | true => rw [hz] at h; simp [bad] at h
      | false =>
        rw [hz] at h
        simp only [cond_false] at h
        split at h
        · rename_i n hn
          split at h
          · rename_i k hk
            obtain ⟨n', hn'⟩ : ∃ q : Int, q = n := ⟨n, rfl⟩
            subst hn'
            obtain ⟨k', hk'⟩ : ∃ q : Int, q = k := ⟨k, rfl⟩
            subst hk'
            split at h
            · rename_i h0
              split at h
              · rename_i h1
                split at h
                · rename_i h2
                  simp only [app_eq, lenL_eq] at h
                  exact ⟨_, _, _, h, wr_make hT ht (fun e => by rw [e] at hz; simp at hz) hn hk h0 h1 h2⟩
                · cases h
              · cases h
            · cases h
          · simp [bad] at h
        · simp [bad] at h
    · simp [bad] at h
  · cases h
  · cases h
  · -- makeMap
    rename_i t r0
    split at h
    · rename_i u v ht
      split at h
      · simp only [app_eq, lenL_eq] at h
        exact ⟨_, _, _, h, wr_makeMap hT ht⟩
      · simp [bad] at h
    · simp [bad] at h
  · exact exMapPut_ok hT (.inl rfl) h
  · exact exMapPut_ok hT (.inr rfl) h
  · -- call
    rename_i c
    split at h
    · rename_i b hcal
      have types : ∀ {t2}, noInt T t2 = true → ∃ e2, P.underlying t2 = some (.slice e2) := fun h => noInt_some hT h
      split at h
      · split at h
        · rename_i x y hargs
          split at h
          · rename_i t t2 hts
            split at h
            · rename_i u te ht
              cases hiz : isIntT T t2 with
              | true =>
                rw [hiz] at h
                simp only [cond_true] at h
                obtain ⟨xo, yo, hxy, hxo, hyo⟩ := map_two hargs
                subst hxo; subst hyo
                unfold exAppendZ at h
                split at h
                · rename_i hxn
                  split at h
                  · rename_i n hyn
                    cases hb : Nat.ble te.bytes 4096 with
                    | false => rw [hb] at h; simp [bad] at h
                    | true =>
                      rw [hb] at h
                      cases h0 : Nat.blt 0 te.size with
                      | false => rw [h0] at h; simp [bad] at h
                      | true =>
                        rw [h0] at h
                        cases h1 : Nat.blt 0 te.bytes with
                        | false => rw [h1] at h; simp [bad] at h
                        | true =>
                          rw [h1] at h
                          simp only [cond_true] at h
                          split at h
                          · rename_i hn
                            split at h
                            · rename_i hf
                              simp only [app_eq, lenL_eq] at h
                              exact ⟨_, _, _, h, wr_appendZ hT hcal (arr_two hxy) (arr_two hts) ht (Nat.le_of_ble_eq_true hb) (blt_pos h0) (blt_pos h1) hiz hxn hyn hn hf⟩
                            · cases h
                          · cases h
                  · simp [bad] at h
                · simp [bad] at h
              | false =>
              rw [hiz] at h
              simp only [cond_false] at h
              cases hb : Nat.ble te.bytes 4096 with
              | false => rw [hb] at h; simp [bad] at h
              | true =>
                rw [hb] at h
                cases h0 : Nat.blt 0 te.size with
                | false => rw [h0] at h; simp [bad] at h
                | true =>
                  rw [h0] at h
                  cases hni : noInt T t2 with
                  | false => rw [hni] at h; simp [bad] at h
                  | true =>
                    rw [hni] at h
                    simp only [cond_true] at h
                    obtain ⟨xo, yo, hxy, hxo, hyo⟩ := map_two hargs
                    have h2 := types hni
                    have hbb := Nat.le_of_ble_eq_true hb
                    have h00 : 0 < te.size := blt_pos h0
                    subst hxo; subst hyo
                    cases hfl : u.flat with
                    | true =>
                      rw [hfl] at h
                      simp only [cond_true] at h
                      split at h
                      · rename_i M hM
                        exact exAppend_ok hT hcal (arr_two hxy) (arr_two hts) ht hbb h00 h2 ⟨rfl, fun _ _ => rfl⟩ (fun bs m ls Bs w yv Me hyr => ⟨m, Bs, Ext.refl _ _, Me, told_flat Me hfl hM hyr⟩) h
                      · simp [bad] at h
                    | false =>
                      rw [hfl] at h
                      simp only [cond_false] at h
                      split at h
                      · rename_i M z hM
                        exact exAppend_ok hT hcal (arr_two hxy) (arr_two hts) ht hbb h00 h2 (freeze_spec z cs) (fun bs m ls Bs w yv Me hyr => by
                          obtain ⟨m1, Bs1, E1, M1, R1⟩ := Me.freeze z
                          exact ⟨m1, Bs1, E1, M1, told_rep (fun b o v h => M1.mle b o v h) (atom_rel (u := .slice u) rfl hM R1 (SV.rel_ext E1 hyr))⟩) h
                      · simp [bad] at h
            · simp [bad] at h
          · simp [bad] at h
        · simp [bad] at h
      · split at h
        · rename_i x y hargs
          split at h
          · rename_i t t2 hts
            split at h
            · rename_i u te ht
              cases hfl : u.flat with
              | false => rw [hfl] at h; simp [bad] at h
              | true =>
                rw [hfl] at h
                cases h0 : Nat.blt 0 te.size with
                | false => rw [h0] at h; simp [bad] at h
                | true =>
                  rw [h0] at h
                  cases hni : noInt T t2 with
                  | false => rw [hni] at h; simp [bad] at h
                  | true =>
                    rw [hni] at h
                    simp only [cond_true] at h
                    obtain ⟨xo, yo, hxy, hxo, hyo⟩ := map_two hargs
                    subst hxo; subst hyo
                    split at h
                    · rename_i S hS
                      exact exCopy_ok hT hcal (arr_two hxy) (arr_two hts) ht hfl hS h
                    · simp [bad] at h
            · simp [bad] at h
          · simp [bad] at h
        · simp [bad] at h
      · simp [bad] at h
    · rename_i fo hcal
      split at h
      · rename_i f caps hf
        rw [app_eq] at h
        obtain ⟨v, cs', z, h1, h2⟩ := hE _ _ _ _ _ h
        exact ⟨v, cs', z, h1, wr_call hT hcal hf h2⟩
      · simp [bad] at h
    · simp [bad] at h
  · simp [bad] at h
end
end Go.Proofs.YtfkilmmldjajmaaSx
