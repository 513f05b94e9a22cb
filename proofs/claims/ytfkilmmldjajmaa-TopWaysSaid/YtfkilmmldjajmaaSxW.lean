/- A row cloned (slices.Clone): whether the row is nil is looked at, which the machine is not told. -/
import Derived.Test.YtfkilmmldjajmaaSxQ
import Derived.Tactics
namespace Go.Proofs.YtfkilmmldjajmaaSx
open Go
set_option linter.unusedVariables false
set_option linter.unusedSimpArgs false

/-- Is the first slot's row nil? -/
structure NilTest (P : Program) (ops : Array Oper) (t : TypeId) (x d1 d2 : Tmp) (o1 o2 : Oper) (t' : TypeId) : Prop where
  ops : ops = #[o1, o2]
  g1 : o1.guard = none
  g2 : o2.guard = none
  op1 : o1.op = .move (.tmp x)
  op2 : o2.op = .binOp .eql t (.tmp d1) (.const (.slice none 0 0)) t'
  dst1 : o1.dst = some d1
  dst2 : o2.dst = some d2
  ty : ∃ e, P.underlying t = some (.slice e)

section
variable {P : Program}

theorem run_eql_nil {t e : TypeId} (ht : P.underlying t = some (.slice e)) (A : Option Addr) (n c : Nat) (w : World) : (Op.equal t (.slice A n c) (.slice none 0 0)).run P w = .ok A.isNone w := by
  unfold Op.equal
  simp only [Op.maxDepth]
  unfold Op.equalIn
  cases A <;> simp [underlying, ht]

theorem nil_leads {id : Nat} {ops : Array Oper} {t t' : TypeId} {x d1 d2 : Tmp} {o1 o2 : Oper} (N : NilTest P ops t x d1 d2 o1 o2 t') {k : List Item} {a : Act} {w : World} {Q : Act → World → Prop} {A : Option Addr} {n c : Nat}
    (hx : a.eval (.tmp x) = .slice A n c) (hd1 : d1 < a.tmps.size) (H : Leads P k ((a.put (some d1) (.slice A n c)).put (some d2) (.bool A.isNone)) w Q) : Leads P (.code (.region id ops false) :: k) a w Q := by
  obtain ⟨e, ht⟩ := N.ty
  refine Leads.of_wp (wp_region ?_)
  have e1 : List.range ops.size = List.range' 0 [o1, o2].length := by rw [N.ops, List.range_eq_range']; rfl
  rw [e1, wpOps_eq_wpList [o1, o2] 0 (by intro j; rw [N.ops]; match j with | 0 => rfl | 1 => rfl | j + 2 => simp)]
  have w1 : ∀ y, Region.wanted o1 y = true := fun y => by simp [Region.wanted, N.g1]
  have w2 : ∀ y, Region.wanted o2 y = true := fun y => by simp [Region.wanted, N.g2]
  simp only [wpList, w1, w2, if_true]
  refine .inl ?_
  have r1 : (execOp a.eval o1).run P w = .ok (.value (.slice A n c)) w := by
    unfold execOp; rw [N.op1]; simp [hx]
  unfold Oper.wp
  rw [r1]
  refine .inl ?_
  rw [N.dst1]
  have hd : (a.put (some d1) (.slice A n c)).eval (.tmp d1) = .slice A n c := by rw [put_eval, if_pos ⟨rfl, hd1⟩]
  have r2 : (execOp (a.put (some d1) (.slice A n c)).eval o2).run P w = .ok (.value (.bool A.isNone)) w := by
    unfold execOp; rw [N.op2]
    have hc : (a.put (some d1) (.slice A n c)).eval (.const (.slice none 0 0)) = .slice none 0 0 := rfl
    simp only [hd, hc, Sem.run_bind, eqGuard_int .eql t _ _ (.slice A n c) (.slice none 0 0) (by simp) (by simp), Result.andThen_ok]
    simp only [binOp, Sem.run_map, run_eql_nil ht, Result.andThen_ok, Sem.run_bind, Sem.run_pure]
  rw [r2]
  show True ∧ Leads P k ((a.put (some d1) (.slice A n c)).put o2.dst (.bool A.isNone)) w Q
  rw [N.dst2]
  exact ⟨trivial, H⟩

/-- What stands at the cut of a clone: its row. -/
def cloneE (u : Ty) (key : Nat) (_ : List Item) (st : St) : Option (List u.den) := bif Nat.beq key 2 then (match st.chunks with
  | [] => (match st.get 0 with
    | .p t x => cast? t (.slice u) x
    | _ => none)
  | _ => none) else none

def cloneO (u : Ty) (ds : List Dat) : Option (List u.den) := match ds with
  | [d] => cast? d.t (.slice u) d.x
  | _ => none

def cloneIn (u : Ty) : Tm := ⟨[(0, .p (.slice u))], []⟩
def cloneOut (u : Ty) : Tm := ⟨[(0, .own 0)], [.own u]⟩

/-- The bytes of a slice's element. -/
def elemB (T : TT) (t : Nat) : Nat := match elemTy T t with | some (_, te) => te.bytes | none => 0

/-- A clone: all that it takes is seen in its text. -/
theorem clone_con {T : TT} {by_ : Nat} (hT : TOk P T) (hmix : P.follows .mixedOrders = true) {f : Nat} {fn : Func} {body : Code} {n : Nat} {res : List (Nat × Option Nat)} (hf : FnOk P f fn body n 1 res) {u : Ty} (hres : 1 = res.length)
    {ops : Array Oper} {k : List Item} {t t' : TypeId} {o1 o2 : Oper} (N : NilTest P ops t 0 3 4 o1 o2 t') (hn : 4 < n) (hstk : stackAt 2 body [] = some (.code (.region 1 ops false) :: k)) (hcnt : cnt 2 body = 1)
    (h1 : ∀ L : List u.den, run T env0 n (cloneE u) (finE 0 (cloneOut u) (cloneO u)) res [1] 1000 true [.code body] ((cloneIn u).fill [⟨.slice u, L⟩]) = some L)
    (h2 : run T env0 n (fun _ _ _ => none) (finE 0 (cloneOut u) (cloneO u)) res [] 1000 true k ⟨[(4, .cb .tt), (0, .p (.slice u) [])], []⟩ = some ([] : List u.den))
    (h3 : ∀ L : List u.den, run T env0 n (fun _ _ _ => none) (finE 0 (cloneOut u) (cloneO u)) res [] 1000 true k ⟨[(4, .cb .ff), (0, .p (.slice u) L)], []⟩ = if fitsIn L.length by_ = true then some L else none)
    (hby : Nat.ble by_ 4096 = true) (L : List u.den) (hL : Short L.length) : Con P f 1 (cloneIn u) (cloneOut u) [⟨.slice u, L⟩] [⟨.slice u, L⟩] := by
  have hfit : fitsIn L.length by_ = true := by
    have h1 := Nat.le_of_ble_eq_true hL
    have h2 := Nat.le_of_ble_eq_true hby
    have h3 : L.length * by_ ≤ 1000000000 * 4096 := Nat.mul_le_mul (by omega) h2
    exact Nat.ble_eq_true_of_le (by omega)
  have hcl : ∀ L : List u.den, ((cloneIn u).fill [⟨.slice u, L⟩]).chunks.length = 0 := fun L => by rw [fill_chunks]; rfl
  have hfin : ∀ (r : List u.den) st, finE 0 (cloneOut u) (cloneO u) st = some r → (cloneOut u).normS (idFound 0 0) st = some [⟨.slice u, r⟩] := by
    intro r st h
    unfold finE at h
    split at h
    · rename_i ds hds
      rw [hds]
      unfold cloneO at h
      split at h
      · rename_i d
        obtain ⟨e, rfl⟩ := cast?_some h
        obtain ⟨dt, dx⟩ := d
        simp only at e
        subst e
        rfl
      · cases h
    · cases h
  refine fn_ok (cuts := [1]) (E := cloneE u) (fin := finE 0 (cloneOut u) (cloneO u)) (R := List u.den) (r := L) hT env0_ok hmix hf rfl hres (h1 L) (by rw [hcl]; exact hfin L) ?_
  intro bs hbs key s hs st' h a w H
  rw [hcl] at hbs
  unfold cloneE at h
  cases hk : Nat.beq key 2 with
  | false => rw [hk] at h; cases h
  | true =>
    rw [hk] at h
    have := beq_nat hk
    subst this
    simp only [cond_true] at h
    have hs' := sub_unique (by rw [hcnt]; exact Nat.le_refl _) hs
    rw [hstk] at hs'
    cases hs'
    split at h
    · rename_i hch
      split at h
      · rename_i t0 x hx
        obtain ⟨e, rfl⟩ := cast?_some h
        subst e
        obtain ⟨m, ls, Bs, M, hsl, hna, hda⟩ := H
        have h0 := hsl 0
        rw [hx] at h0
        simp only [SV.rel, Ty.agg, Bool.false_eq_true, if_false] at h0
        have h0' := h0
        simp only [Ty.rep, List.cons.injEq, and_true] at h0
        obtain ⟨A, c, hv, hc, hall⟩ := h0
        refine nil_leads N hv (show 3 < a.tmps.size by have := hna; omega) ?_
        rw [hch] at M
        have sat : ∀ (b : BC) (L' : List u.den), b.val = A.isNone → (Ty.slice u).rep m L' [a.eval (.tmp 0)] → Sat bs n ⟨[(4, .cb b), (0, .p (.slice u) L')], []⟩ ((a.put (some 3) (.slice A (List.length x) c)).put (some 4) (.bool A.isNone)) w := by
          intro b L' hb hrep
          refine ⟨m, ls, Bs, M, fun t => ?_, by rw [put_size, put_size]; exact hna, by rw [put_defers, put_defers]; exact hda⟩
          rw [get_slots, get_slots]
          by_cases h4 : 4 = t
          · subst h4
            rw [if_pos rfl, put_eval, if_pos ⟨rfl, by rw [put_size, hna]; omega⟩]
            simp only [SV.rel, hb]
          · rw [if_neg h4]
            by_cases h00 : 0 = t
            · subst h00
              rw [if_pos rfl, put_eval, if_neg (by simp), put_eval, if_neg (by simp)]
              simp only [SV.rel, Ty.agg, Bool.false_eq_true, if_false]
              exact hrep
            · rw [if_neg h00]
              simp only [St.get, assoc, SV.rel]
        have fin : ∀ (r : List u.den), r = x → ∀ st a w, toFin T (finE 0 (cloneOut u) (cloneO u)) res st = some r → Sat bs n st a w → AtEnd P fn bs (cloneOut u) [⟨.slice u, x⟩] a w := by
          intro r hr st a w hh H
          subst hr
          exact at_end (tmOut := cloneOut u) hT hf rfl hres (fun st hst => by rw [hbs]; exact hfin _ st hst) hh H
        cases A with
        | none =>
          have hx0 : x = [] := by
            rcases Nat.eq_zero_or_pos (List.length x) with h | h
            · exact List.eq_nil_of_length_eq_zero h
            · obtain ⟨b, o, hA, _⟩ := hall (Nat.pos_iff_ne_zero.1 h)
              cases hA
          subst hx0
          exact run_ok hT env0_ok hmix (bs := bs) (n := n) (fin [] rfl) 1000 true k _ h2 (fun key s hs st' h' a w H => by cases h') _ _ (sat .tt [] rfl h0')
        | some ad =>
          exact run_ok hT env0_ok hmix (bs := bs) (n := n) (fin x rfl) 1000 true k _ ((h3 x).trans (if_pos hfit)) (fun key s hs st' h' a w H => by cases h') _ _ (sat .ff x rfl h0')
      · cases h
    · cases h
end

/-- The operations of a region. -/
def opsAt (id : Nat) : Code → Array Oper
  | .region i ops _ => bif Nat.beq i id then ops else #[]
  | .seq a b => (match (opsAt id a).toList with | [] => opsAt id b | _ => opsAt id a)
  | .cond _ a b => (match (opsAt id a).toList with | [] => opsAt id b | _ => opsAt id a)
  | .block _ a => opsAt id a
  | .loop a => opsAt id a
  | _ => #[]
def opAt (i : Nat) (ops : Array Oper) : Oper := match nth ops.toList i with | some o => o | none => default
def restOf : List Item → List Item
  | [] => []
  | _ :: k => k
end Go.Proofs.YtfkilmmldjajmaaSx
