/- Functions: what is proved of a call. -/
import Derived.Test.YtfkilmmldjajmaaSxK
namespace Go.Proofs.YtfkilmmldjajmaaSx
open Go
set_option linter.unusedVariables false
set_option linter.unusedSimpArgs false

/-- What a function does, told by templates and data. -/
def Con (P : Program) (f ar : Nat) (tmIn tmOut : Tm) (ds rs : List Dat) : Prop :=
  (∀ (vs : Array Value) (w : World), (callFunc f vs).run P w = .ok (.enter f vs) w) ∧
  ∀ (m : Mm) (ls : List Loc) (Bs : List (List Nat)) (w : World) (vs : Array Value), Mem ⟨w, m, Bs.flatten, ls⟩ m ls Bs (tmIn.fill ds).chunks w → vs.size = ar →
    (∀ t, ((tmIn.fill ds).get t).rel m ls (vs.getD t undef)) →
    Calls P f vs w fun e w' => ∃ v m' ls' Bs', e = .returned v ∧ Ext m ls m' ls' ∧ Mem ⟨w, m, Bs.flatten, ls⟩ m' ls' Bs' (tmOut.fill rs).chunks w' ∧ (resOf (tmOut.fill rs).slots).rel m' ls' v

/-- A result's place in a function's text. -/
def resVar (x : Nat × Option Nat) : ResultVar := match x.2 with
  | none => .tmp x.1
  | some t => .cell x.1 t

/-- What a result's place holds. -/
def resVal (a : Act) : ResultVar → Sem Value
  | .tmp t => pure (a.tmps.getD t undef)
  | .cell c t => do loadVar t (← asAddr (a.tmps.getD c undef))

/-- What is asked of a function's text. -/
structure FnOk (P : Program) (f : Nat) (fn : Func) (body : Code) (n ar : Nat) (res : List (Nat × Option Nat)) : Prop where
  func : P.funcs[f]? = some fn
  body : fn.body = some body
  ntmps : fn.ntmps = n
  ar : ar ≤ n
  name : (fn.name == "runtime.NumGoroutine") = false
  res : fn.results.toList = res.map resVar

section
variable {P : Program} {T : TT} {R : Type} {env : Nat → List SV → List Chunk → KT R → Option R}

theorem FnOk.call {f : Nat} {fn : Func} {body : Code} {n ar : Nat} {res : List (Nat × Option Nat)} (h : FnOk P f fn body n ar res) (vs : Array Value) (w : World) : (callFunc f vs).run P w = .ok (.enter f vs) w := by
  unfold callFunc
  simp only [Sem.run_bind, run_program, Result.andThen_ok, h.func, h.name, Bool.false_eq_true, if_false, h.body, Option.isNone_some]
  rfl

/-- The values that a function hands back. -/
theorem results_vals (hT : TOk P T) {bs : Base} {n : Nat} {st : St} {a : Act} {w : World} (H : ∃ m ls Bs, Mem bs m ls Bs st.chunks w ∧ SlotsE m ls st.get a) : ∀ {res : List (Nat × Option Nat)} {vs : List SV}, resVals T st res = some vs →
    ∃ us : List Value, ((res.map resVar).mapM (resVal a)).run P w = Result.ok us w ∧
      ∀ m ls Bs, Mem bs m ls Bs st.chunks w → SlotsE m ls st.get a → SV.rels m ls vs us
  | [], vs, h => by
    simp only [resVals, Option.some.injEq] at h
    subst h
    exact ⟨[], by simp, fun m ls Bs _ _ => by simp only [SV.rels]⟩
  | (t, none) :: l, vs, h => by
    simp only [resVals] at h
    split at h
    · rename_i vs' hvs
      cases h
      obtain ⟨us, h1, h2⟩ := results_vals hT (n := n) H hvs
      refine ⟨a.tmps.getD t undef :: us, ?_, fun m ls Bs M hs => ?_⟩
      · simp only [List.map_cons, List.mapM_cons, resVar, resVal, Sem.run_bind, Sem.run_pure, Result.andThen_ok, h1]
      · simp only [SV.rels]; exact ⟨_, _, rfl, hs t, h2 m ls Bs M hs⟩
    · cases h
  | (t, some ty) :: l, vs, h => by
    simp only [resVals] at h
    obtain ⟨m0, ls0, Bs0, M0, hs0⟩ := H
    split at h
    · cases h
    · rename_i v hv
      split at h
      · rename_i vs' hvs
        cases h
        obtain ⟨us, h1, h2⟩ := results_vals hT (n := n) ⟨m0, ls0, Bs0, M0, hs0⟩ hvs
        have hal : alive (exLoad T st.chunks ty (st.get t)) some = some (exLoad T st.chunks ty (st.get t)) := by
          cases hq : exLoad T st.chunks ty (st.get t) <;> first | rfl | exact absurd hq hv
        have hrd : exRd T (.load ty (.tmp t)) (opnd st) st.chunks some = some (exLoad T st.chunks ty (st.get t)) := hal
        let o : Oper := { (default : Oper) with op := .load ty (.tmp t) }
        have key : ∀ m ls Bs, Mem bs m ls Bs st.chunks w → SlotsE m ls st.get a → ∃ v', (exLoad T st.chunks ty (st.get t)).rel m ls v' ∧ (execOp a.eval o).run P w = .ok (.value v') w :=
          fun m ls Bs M hs => rd_ok hT hrd bs m ls Bs w a.eval o rfl M (fun x => opnd_rel x (fun t _ => hs t)) (fun _ => rfl)
        obtain ⟨v', e1, e2⟩ := key m0 ls0 Bs0 M0 hs0
        have hload : (do loadVar ty (← asAddr (a.tmps.getD t undef)) : Sem Value).run P w = .ok v' w := by
          have e3 : (execOp a.eval o).run P w = ((Instr.loadAt ty (a.eval (.tmp t))).run P w).andThen fun v w' => .ok (.value v) w' := by
            simp [execOp, o]
          rw [e3] at e2
          simp only [Instr.loadAt, Sem.run_bind] at e2
          have ev : a.eval (.tmp t) = a.tmps.getD t undef := rfl
          rw [ev] at e2
          simp only [Sem.run_bind]
          cases hq : a.tmps.getD t undef with
          | pointer p =>
            rw [hq] at e2
            cases p with
            | some p =>
              simp only [Instr.sureAddr, asAddr, Sem.run_pure, Result.andThen_ok] at e2 ⊢
              cases hl : (loadVar ty p).run P w with
              | ok x w1 => rw [hl] at e2; simp at e2; obtain ⟨rfl, rfl⟩ := e2; rfl
              | halt x w1 => rw [hl] at e2; simp at e2
            | none => simp [Instr.sureAddr] at e2
          | _ => rw [hq] at e2; simp [Instr.sureAddr] at e2
        refine ⟨v' :: us, ?_, fun m ls Bs M hs => ?_⟩
        · simp only [List.map_cons, List.mapM_cons]
          rw [Sem.run_bind]
          have e9 : (resVal a (resVar (t, some ty))).run P w = Result.ok v' w := hload
          rw [e9]
          simp only [Result.andThen_ok, Sem.run_bind, h1, Sem.run_pure]
        · simp only [SV.rels]
          obtain ⟨v2, q1, q2⟩ := key m ls Bs M hs
          rw [e2] at q2
          cases q2
          exact ⟨_, _, rfl, q1, h2 m ls Bs M hs⟩
      · cases h

theorem slotsOf_get : ∀ (l : List SV) (i t : Nat) (cs : List Chunk), St.get ⟨slotsOf i l, cs⟩ t = if i ≤ t then (match l[t - i]? with | some v => v | none => .dead) else .dead
  | [], i, t, cs => by simp [slotsOf, St.get, assoc]
  | v :: l, i, t, cs => by
    simp only [slotsOf]
    rw [fillSlots_get, slotsOf_get l (i + 1) t cs]
    by_cases h : i = t
    · subst h; simp
    · rw [if_neg h]
      by_cases h2 : i ≤ t
      · rw [if_pos (by omega), if_pos h2]
        obtain ⟨d, rfl⟩ : ∃ d, t = i + d + 1 := ⟨t - i - 1, by omega⟩
        have e1 : i + d + 1 - (i + 1) = d := by omega
        have e2 : i + d + 1 - i = d + 1 := by omega
        rw [e1, e2]; rfl
      · rw [if_neg (by omega), if_neg h2]

theorem rels_getD {m : Mm} {ls : List Loc} {l : List SV} {vs : Array Value} (h : SV.rels m ls l vs.toList) (t : Nat) (cs : List Chunk) : (St.get ⟨slotsOf 0 l, cs⟩ t).rel m ls (vs.getD t undef) := by
  rw [slotsOf_get]
  simp only [Nat.zero_le, if_true, Nat.sub_zero]
  split
  · rename_i v hv
    obtain ⟨u, h1, h2⟩ := SV.rels_nth h hv
    have : vs.getD t undef = u := by
      have : vs[t]? = some u := by simpa using h1
      simp [Array.getD_eq_getD_getElem?, this]
    rw [this]; exact h2
  · simp only [SV.rel]

theorem fillSlots_len : ∀ {l : List (Nat × KS)} {ds : List Dat} {sl : List (Nat × SV)} {es : List Dat}, Tm.fillSlots l ds = (sl, es) → sl.map (·.1) = l.map (·.1)
  | [], ds, sl, es, h => by simp only [Tm.fillSlots, Prod.mk.injEq] at h; simp [← h.1]
  | (n, k) :: l, ds, sl, es, h => by
    simp only [Tm.fillSlots, Prod.mk.injEq] at h
    obtain ⟨rfl, _⟩ := h
    simp [fillSlots_len (l := l) (ds := (KS.fill k ds).2) rfl]

theorem resShape_spec : ∀ {l : List (Nat × KS)} {i : Nat}, resShape i l = true → l.map (·.1) = List.range' i l.length
  | [], i, _ => rfl
  | (j, k) :: l, i, h => by
    simp only [resShape] at h
    cases hb : Nat.beq i j with
    | false => rw [hb] at h; simp at h
    | true =>
      rw [hb] at h
      have := beq_nat hb; subst this
      simp only [List.map_cons, List.length_cons, List.range'_succ]
      rw [resShape_spec h]

/-- A row of slots in order, as one value. -/
theorem resOf_rel {m : Mm} {ls : List Loc} {sl : List (Nat × SV)} {vs : Array Value} (hsh : sl.map (·.1) = List.range' 0 sl.length) (hlen : sl.length = vs.size)
    (h : ∀ t cs, (St.get ⟨sl, cs⟩ t).rel m ls (vs.getD t undef)) : (resOf sl).rel m ls (if h : vs.size = 1 then vs[0] else .tuple vs) := by
  have get : ∀ (sl : List (Nat × SV)) (i : Nat), sl.map (·.1) = List.range' i sl.length → ∀ (j : Nat) x, sl[j]? = some x → St.get ⟨sl, []⟩ (i + j) = x.2 := by
    intro sl
    induction sl with
    | nil => intro i _ j x h; simp at h
    | cons a l ih =>
      intro i hs j x hx
      simp only [List.map_cons, List.length_cons, List.range'_succ, List.cons.injEq] at hs
      obtain ⟨n, v⟩ := a
      simp only at hs
      obtain ⟨rfl, hs⟩ := hs
      rw [fillSlots_get]
      cases j with
      | zero => simp at hx; subst hx; simp
      | succ j =>
        simp at hx
        rw [if_neg (by omega), show n + (j + 1) = n + 1 + j by omega]
        exact ih (n + 1) hs j x hx
  have each : ∀ (j : Nat) x, sl[j]? = some x → x.2.rel m ls (vs.getD j undef) := by
    intro j x hx
    have := get sl 0 hsh j x hx
    rw [Nat.zero_add] at this
    rw [← this]; exact h j []
  by_cases h1 : vs.size = 1
  · rw [dif_pos h1]
    match sl, hlen, each with
    | [(n, v)], _, each =>
      simp only [resOf]
      have := each 0 (n, v) rfl
      have e : vs.getD 0 undef = vs[0] := by simp [Array.getD, h1]
      rw [e] at this; exact this
    | [], hl, _ => simp at hl; omega
    | _ :: _ :: _, hl, _ => simp at hl; omega
  · rw [dif_neg h1]
    have hr : resOf sl = .tup (sl.map (·.2)) := by
      match sl, hlen with
      | [], _ => rfl
      | [_], hl => simp at hl; omega
      | _ :: _ :: _, _ => rfl
    rw [hr]
    simp only [SV.rel]
    refine ⟨vs, rfl, ?_⟩
    have all : ∀ (l : List (Nat × SV)) (us : List Value), l.length = us.length → (∀ (j : Nat) x u, l[j]? = some x → us[j]? = some u → x.2.rel m ls u) → SV.rels m ls (l.map (·.2)) us := by
      intro l
      induction l with
      | nil => intro us hl _; simp at hl; simp [SV.rels]; exact List.eq_nil_of_length_eq_zero hl.symm
      | cons a l ih =>
        intro us hl hx
        cases us with
        | nil => simp at hl
        | cons u us =>
          simp only [List.map_cons, SV.rels]
          exact ⟨u, us, rfl, hx 0 a u rfl rfl, ih us (by simpa using hl) (fun j x v h1 h2 => hx (j + 1) x v (by simpa using h1) (by simpa using h2))⟩
    refine all sl vs.toList (by simpa using hlen) (fun j x u hx hu => ?_)
    have := each j x hx
    have e : vs.getD j undef = u := by
      have : vs[j]? = some u := by simpa using hu
      simp [Array.getD_eq_getD_getElem?, this]
    rw [e] at this; exact this

variable {E : Nat → List Item → St → Option R} {fin : St → Option R} {cuts : List Nat}

/-- What stands at a function's end. -/
def AtEnd (P : Program) (fn : Func) (bs : Base) (tmOut : Tm) (rs : List Dat) (a : Act) (w : World) : Prop :=
  a.defers = [] ∧ ∃ v, (results fn a.tmps).run P w = .ok v w ∧ ∃ m ls Bs, Mem bs m ls Bs (tmOut.fill rs).chunks w ∧ (resOf (tmOut.fill rs).slots).rel m ls v

theorem at_end (hT : TOk P T) {f : Nat} {fn : Func} {body : Code} {n ar : Nat} {res : List (Nat × Option Nat)} (hf : FnOk P f fn body n ar res) {bs : Base} {tmOut : Tm} {r : R} {rs : List Dat}
    (hsh : resShape 0 tmOut.slots = true) (hln : tmOut.slots.length = res.length)
    (hfin : ∀ st, fin st = some r → tmOut.normS (idFound bs.ls0.length 0) st = some rs) {st : St} {a : Act} {w : World} (h : toFin T fin res st = some r) (H : Sat bs n st a w) : AtEnd P fn bs tmOut rs a w := by
  unfold toFin at h
  split at h
  · rename_i vs hvs
    obtain ⟨m, ls, Bs, M, hs, hn, hd⟩ := H
    obtain ⟨us, h1, h2⟩ := results_vals hT (n := n) ⟨m, ls, Bs, M, hs⟩ hvs
    have hr := h2 m ls Bs M hs
    refine ⟨hd, (if h : us.toArray.size = 1 then us.toArray[0] else .tuple us.toArray), ?_, ?_⟩
    · unfold results
      rw [Array.mapM_eq_mapM_toList, hf.res]
      simp only [Sem.run_bind, Sem.run_map]
      have e9 : ∀ g : ResultVar → Sem Value, g = resVal a → ((res.map resVar).mapM g).run P w = Result.ok us w := by
        intro g hg; subst hg; exact h1
      rw [e9 _ (by funext x; cases x <;> rfl)]
      simp only [Result.andThen_ok, Sem.run_pure]
    · have H' : Sat bs us.toArray.size ⟨slotsOf 0 vs, st.chunks⟩ ⟨us.toArray, []⟩ w := ⟨m, ls, Bs, M, fun t => rels_getD (vs := us.toArray) (by simpa using hr) t _, rfl, rfl⟩
      obtain ⟨m', ls', Bs', M', hs', _, _⟩ := normS_sat (hfin _ h) H'
      refine ⟨m', ls', Bs', M', ?_⟩
      have hsl : (tmOut.fill rs).slots.map (·.1) = tmOut.slots.map (·.1) := by
        unfold Tm.fill
        cases hq : Tm.fillSlots tmOut.slots rs with
        | mk sl es => exact fillSlots_len hq
      have hl : (tmOut.fill rs).slots.length = tmOut.slots.length := by simpa using congrArg List.length hsl
      have hres : us.length = res.length := by
        have hv : ∀ {res : List (Nat × Option Nat)} {vs : List SV}, resVals T st res = some vs → vs.length = res.length := by
          intro res
          induction res with
          | nil => intro vs h; simp only [resVals, Option.some.injEq] at h; subst h; rfl
          | cons x l ih =>
            intro vs h
            obtain ⟨t, o⟩ := x
            cases o with
            | none =>
              simp only [resVals] at h
              split at h
              · rename_i q hq; cases h; simp [ih hq]
              · cases h
            | some ty =>
              simp only [resVals] at h
              split at h
              · cases h
              · split at h
                · rename_i q hq; cases h; simp [ih hq]
                · cases h
        rw [SV.rels_length hr, hv hvs]
      refine resOf_rel (vs := us.toArray) (by rw [hsl, hl]; exact resShape_spec hsh) (by rw [hl, hln]; simp [hres]) (fun t cs => ?_)
      have := hs' t
      exact this
  · simp [bad] at h

/-- A function that the machine goes through. -/
theorem fn_ok (hT : TOk P T) (hE : EnvOk P env) (hmix : P.follows .mixedOrders = true) {f : Nat} {fn : Func} {body : Code} {n ar : Nat} {res : List (Nat × Option Nat)} (hf : FnOk P f fn body n ar res) {tmIn tmOut : Tm} {ds rs : List Dat} {r : R}
    (hsh : resShape 0 tmOut.slots = true) (hln : tmOut.slots.length = res.length) {fuel : Nat} (hrun : run T env n E fin res cuts fuel true [.code body] (tmIn.fill ds) = some r)
    (hfin : ∀ st, fin st = some r → tmOut.normS (idFound (tmIn.fill ds).chunks.length 0) st = some rs)
    (hJ : ∀ bs, bs.ls0.length = (tmIn.fill ds).chunks.length → ∀ key s, Sub body [] key s → ∀ st', E key s st' = some r → ∀ a w, Sat bs n st' a w → Leads P (start s) a w (AtEnd P fn bs tmOut rs)) :
    Con P f ar tmIn tmOut ds rs := by
  refine ⟨hf.call, ?_⟩
  intro m ls Bs w vs M hvs hslots
  let bs : Base := ⟨w, m, Bs.flatten, ls⟩
  have hbl : bs.ls0.length = (tmIn.fill ds).chunks.length := M.nl
  let a0 : Act := { tmps := vs ++ Array.replicate (fn.ntmps - vs.size) undef, defers := [] }
  have hsz : a0.tmps.size = n := by
    simp only [a0, Array.size_append, Array.size_replicate, hf.ntmps]
    have := hf.ar
    omega
  have H0 : Sat bs n (tmIn.fill ds) a0 w := by
    refine ⟨m, ls, Bs, M, fun t => ?_, hsz, rfl⟩
    have e : a0.eval (.tmp t) = vs.getD t undef := by
      simp only [Act.eval, a0, Array.getD_eq_getD_getElem?]
      rcases Nat.lt_or_ge t vs.size with h | h
      · rw [Array.getElem?_append_left h]
      · rw [Array.getElem?_append_right h, Array.getElem?_eq_none h]
        simp only [Array.getElem?_replicate]
        split <;> rfl
    rw [e]; exact hslots t
  have L := run_ok hT hE hmix (bs := bs) (n := n) (Q := AtEnd P fn bs tmOut rs) (fun st a w h H => at_end hT hf hsh hln (fun st hst => by rw [hbl]; exact hfin st hst) h H) fuel true [.code body] _ hrun
    (fun key s hs st' h' a w H => hJ bs hbl key s (by simpa [SubS] using hs) st' h' a w H) a0 w H0
  intro cs
  let b : Frame := { (default : Frame) with fn := f, kind := .normal }
  have henter : Frame.enter P f vs .normal = b.at a0 [.code body] := by
    simp [Frame.enter, Frame.at, hf.func, hf.body, b, a0]
  obtain ⟨todo, a', w', ⟨hd, v, hv, m', ls', Bs', M', hr⟩, hsteps⟩ := L b cs
  rw [← henter] at hsteps
  refine ⟨.returned v, w', _, ⟨v, m', ls', Bs', rfl, ⟨M'.m0, M'.pre⟩, M', hr⟩, hsteps, rfl, rfl, hd, rfl, fn, hf.func, hv⟩
end
end Go.Proofs.YtfkilmmldjajmaaSx
