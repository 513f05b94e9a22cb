/- The machine leads where it tells. -/
import Derived.Test.YtfkilmmldjajmaaSxH
namespace Go.Proofs.YtfkilmmldjajmaaSx
open Go
set_option linter.unusedVariables false
set_option linter.unusedSimpArgs false

/-- From here the function comes to its end. -/
def Leads (P : Program) (items : List Item) (a : Act) (w : World) (Q : Act → World → Prop) : Prop :=
  ∀ (b : Frame) (cs : List Frame), ∃ todo a' w', Q a' w' ∧ Steps P (lone (b.at a items) cs w) (lone { b.at a' todo with mode := .returning } cs w')

theorem Leads.of_step {P : Program} {items items' : List Item} {a a' : Act} {w w' : World} {Q : Act → World → Prop}
    (h : ∀ (b : Frame) (cs : List Frame), step P (lone (b.at a items) cs w) = .next (lone (b.at a' items') cs w')) (k : Leads P items' a' w' Q) : Leads P items a w Q := by
  intro b cs
  obtain ⟨todo, a2, w2, h1, h2⟩ := k b cs
  exact ⟨todo, a2, w2, h1, .head (h b cs) h2⟩

theorem Leads.of_wp {P : Program} {c : Code} {k : List Item} {a : Act} {w : World} {Q : Act → World → Prop} (h : c.wp P (fun e a w => e = .normal ∧ Leads P k a w Q) a w) : Leads P (.code c :: k) a w Q := by
  intro b cs
  obtain ⟨e, a1, w1, ⟨rfl, h1⟩, h2⟩ := h b k cs
  obtain ⟨todo, a2, w2, h3, h4⟩ := h1 b cs
  exact ⟨todo, a2, w2, h3, Steps.trans h2 h4⟩

/-- The cuts of a code with what stands behind it. -/
def Sub : Code → List Item → Nat → List Item → Prop
  | .region id ops d, k, key, s => key = 2 * id ∧ s = .code (.region id ops d) :: k
  | .seq a b, k, key, s => Sub a (.code b :: k) key s ∨ Sub b k key s
  | .cond _ a b, k, key, s => Sub a k key s ∨ Sub b k key s
  | .block id a, k, key, s => Sub a (.inBlock id :: k) key s
  | .loop a, k, key, s => (key = 2 * firstRegion a + 1 ∧ s = .inLoop a :: k) ∨ Sub a (.inLoop a :: k) key s
  | _, _, _, _ => False

def SubS : List Item → Nat → List Item → Prop
  | [], _, _ => False
  | .code c :: k, key, s => Sub c k key s ∨ SubS k key s
  | .inLoop c :: k, key, s => (key = 2 * firstRegion c + 1 ∧ s = .inLoop c :: k) ∨ Sub c (.inLoop c :: k) key s ∨ SubS k key s
  | _ :: k, key, s => SubS k key s

theorem subS_exit {id : Nat} : ∀ {k k' : List Item} {key : Nat} {s : List Item}, exitT id k = some k' → SubS k' key s → SubS k key s
  | [], k', key, s, h, _ => by simp [exitT] at h
  | x :: k, k', key, s, h, hs => by
    have hx : exitT id k = some k' → SubS (x :: k) key s := fun h => by
      have ih := subS_exit h hs
      cases x <;> simp only [SubS] <;> first | exact ih | exact .inr ih | exact .inr (.inr ih)
    cases x with
    | inBlock j =>
      simp only [exitT] at h
      cases hb : Nat.beq j id with
      | true => rw [hb] at h; simp at h; subst h; simp only [SubS]; exact hs
      | false => rw [hb] at h; exact hx h
    | _ => exact hx (by simpa [exitT] using h)

theorem exitTo_of {id : Nat} : ∀ {k k' : List Item}, exitT id k = some k' → exitTo id k = some k'
  | [], _, h => by simp [exitT] at h
  | x :: k, k', h => by
    cases x with
    | inBlock j =>
      simp only [exitT] at h
      simp only [exitTo]
      cases hb : Nat.beq j id with
      | true =>
        rw [hb] at h
        have := beq_nat hb
        subst this
        simpa using h
      | false =>
        rw [hb] at h
        have hne : j ≠ id := fun e => by subst e; simp [Nat.beq_refl] at hb
        have : (j == id) = false := by simpa using hne
        rw [this]
        exact exitTo_of h
    | _ => simp only [exitT] at h; simp only [exitTo]; exact exitTo_of h

theorem sub_first {key : Nat} : ∀ {c : Code} {k s : List Item}, Sub c k key s → 1 ≤ cnt key c
  | .region id ops d, k, s, h => by simp only [Sub] at h; simp [cnt, h.1, Nat.beq_refl]
  | .seq a b, k, s, h => by
    simp only [Sub] at h; simp only [cnt]
    rcases h with h | h
    · have := sub_first h; omega
    · have := sub_first h; omega
  | .cond _ a b, k, s, h => by
    simp only [Sub] at h; simp only [cnt]
    rcases h with h | h
    · have := sub_first h; omega
    · have := sub_first h; omega
  | .block _ a, k, s, h => by simp only [Sub] at h; simp only [cnt]; exact sub_first h
  | .loop a, k, s, h => by
    simp only [Sub] at h; simp only [cnt]
    rcases h with h | h
    · simp [h.1, Nat.beq_refl]
    · have := sub_first h; omega
  | .skip, _, _, h => by simp [Sub] at h
  | .rangeFunc .., _, _, h => by simp [Sub] at h
  | .exit _, _, _, h => by simp [Sub] at h
  | .scope _, _, _, h => by simp [Sub] at h
  | .label _, _, _, h => by simp [Sub] at h
  | .goto _, _, _, h => by simp [Sub] at h
  | .ret, _, _, h => by simp [Sub] at h
  | .refuse _, _, _, h => by simp [Sub] at h

theorem stackAt_none {key : Nat} : ∀ {c : Code} {k : List Item}, cnt key c = 0 → stackAt key c k = none
  | .region id ops d, k, h => by
    simp only [cnt] at h; simp only [stackAt]
    cases hb : Nat.beq key (2 * id) with
    | true => rw [hb] at h; simp at h
    | false => rfl
  | .seq a b, k, h => by
    simp only [cnt] at h; simp only [stackAt]
    rw [stackAt_none (c := a) (by omega), stackAt_none (c := b) (by omega)]
  | .cond _ a b, k, h => by
    simp only [cnt] at h; simp only [stackAt]
    rw [stackAt_none (c := a) (by omega), stackAt_none (c := b) (by omega)]
  | .block _ a, k, h => by simp only [cnt] at h; simp only [stackAt]; exact stackAt_none h
  | .loop a, k, h => by
    simp only [cnt] at h; simp only [stackAt]
    cases hb : Nat.beq key (2 * firstRegion a + 1) with
    | true => rw [hb] at h; simp at h
    | false => rw [hb] at h; exact stackAt_none (by simpa using h)
  | .skip, _, _ => rfl
  | .rangeFunc .., _, _ => rfl
  | .exit _, _, _ => rfl
  | .scope _, _, _ => rfl
  | .label _, _, _ => rfl
  | .goto _, _, _ => rfl
  | .ret, _, _ => rfl
  | .refuse _, _, _ => rfl

/-- A cut that stands once. -/
theorem sub_unique {key : Nat} : ∀ {c : Code} {k s : List Item}, cnt key c ≤ 1 → Sub c k key s → stackAt key c k = some s
  | .region id ops d, k, s, _, h => by simp only [Sub] at h; simp [stackAt, h.1, h.2, Nat.beq_refl]
  | .seq a b, k, s, hc, h => by
    simp only [Sub] at h; simp only [cnt] at hc; simp only [stackAt]
    rcases h with h | h
    · have h1 := sub_first h
      rw [sub_unique (by omega) h]
    · have h1 := sub_first h
      rw [stackAt_none (c := a) (by omega)]; exact sub_unique (by omega) h
  | .cond _ a b, k, s, hc, h => by
    simp only [Sub] at h; simp only [cnt] at hc; simp only [stackAt]
    rcases h with h | h
    · have h1 := sub_first h
      rw [sub_unique (by omega) h]
    · have h1 := sub_first h
      rw [stackAt_none (c := a) (by omega)]; exact sub_unique (by omega) h
  | .block _ a, k, s, hc, h => by simp only [Sub] at h; simp only [cnt] at hc; simp only [stackAt]; exact sub_unique hc h
  | .loop a, k, s, hc, h => by
    simp only [Sub] at h; simp only [cnt] at hc; simp only [stackAt]
    rcases h with h | h
    · rw [h.1, Nat.beq_refl]; simp [h.2]
    · have h1 := sub_first h
      cases hb : Nat.beq key (2 * firstRegion a + 1) with
      | true => rw [hb] at hc; simp at hc; omega
      | false => rw [hb] at hc; exact sub_unique (by simpa using hc) h
  | .skip, _, _, _, h => by simp [Sub] at h
  | .rangeFunc .., _, _, _, h => by simp [Sub] at h
  | .exit _, _, _, _, h => by simp [Sub] at h
  | .scope _, _, _, _, h => by simp [Sub] at h
  | .label _, _, _, _, h => by simp [Sub] at h
  | .goto _, _, _, _, h => by simp [Sub] at h
  | .ret, _, _, _, h => by simp [Sub] at h
  | .refuse _, _, _, _, h => by simp [Sub] at h

/-- What a told state says of a frame and a world. -/
def Sat (bs : Base) (n : Nat) (st : St) (a : Act) (w : World) : Prop :=
  ∃ m ls Bs, Mem bs m ls Bs st.chunks w ∧ SlotsE m ls st.get a ∧ a.tmps.size = n ∧ a.defers = []

section
variable {P : Program} {T : TT} {R : Type} {env : Nat → List SV → List Chunk → KT R → Option R}

theorem region_leads (hT : TOk P T) (hE : EnvOk P env) (hmix : P.follows .mixedOrders = true) {bs : Base} {n : Nat} {id : Nat} {ops : Array Oper} {draw : Bool} {k : List Item} {st : St} {a : Act} {w : World} {Q : Act → World → Prop}
    {K : St → List Log → Option R} {r : R} (h : exOps T env n ops.toList 0 ops.toList st [] K = some r) (hlog : ∀ st' log', K st' log' = some r → draw = true → logOk ops.toList log' = true)
    (H : Sat bs n st a w) (hK : ∀ st' log' a' w', K st' log' = some r → Sat bs n st' a' w' → Leads P k a' w' Q) : Leads P (.code (.region id ops draw) :: k) a w Q := by
  obtain ⟨m, ls, Bs, M, hs, hn, hd⟩ := H
  obtain ⟨D, st', log', d1, d2, d3, d4, d5, d6, d7⟩ := exOps_trace hT hE (r := r) (K := K) ops.toList 0 st [] st.get (by simp) (fun t m ls v h => h) h
  have hS : ∀ j, j < ops.size → ∃ o, StepAt P T n ops.toList D log' j o := fun j hj => d4 j (Nat.zero_le _) (by simpa using hj)
  have hlen : 0 + ops.toList.length = ops.size := by simp
  rw [hlen] at d5 d6
  have hQ : ∀ m ls Bs a w, Mem bs m ls Bs (D.C ops.size) w → SlotsE m ls (D.E ops.size) a → a.tmps.size = n → a.defers = [] → (fun e a w => e = Exit.normal ∧ Leads P k a w Q) .normal a w := by
    intro m ls Bs a w M hs hn hd
    refine ⟨rfl, hK st' log' a w d7 ⟨m, ls, Bs, by rw [d5]; exact M, fun t => d6 t m ls _ (hs t), hn, hd⟩⟩
  refine Leads.of_wp ?_
  cases draw with
  | false =>
    refine wp_region ?_
    rw [List.range_eq_range']
    exact region_plain hT hS hQ ops.size 0 (by omega) m ls Bs a w (by rw [d2]; exact M) (by rw [d1]; exact hs) hn hd
  | true =>
    refine wp_region_any hmix ?_
    have hL := logOk_says (hlog st' log' d7 rfl)
    refine region_any hT hS hL hQ ops.size _ a _ ?_ ?_
    · unfold unl
      exact Nat.le_trans (List.length_filter_le _ _) (by simp)
    · refine ⟨by simp, ?_, ⟨0, m, ls, Bs, fun _ => 0, Nat.zero_le _, (by rw [d2]; exact M.same rfl rfl rfl rfl), fun j hj _ h0 => by omega, ?_, ?_, ?_, ?_⟩, hn, hd⟩
      · intro i o e hi hl
        simp only [Array.getElem?_replicate] at hl
        split at hl <;> simp at hl
      · intro j hj _ _ h
        simp only [Array.getElem?_replicate] at h
        split at h <;> simp at h
      · intro x y _ _ _ _ _ _ h
        simp only [Array.getElem?_replicate] at h
        split at h <;> simp at h
      · intro t j o _ _ _ h
        simp only [Array.getElem?_replicate] at h
        split at h <;> simp at h
      · intro t _
        rw [d1]; exact hs t

theorem Sat.bc {bs : Base} {n : Nat} {st : St} {a : Act} {w : World} (H : Sat bs n st a w) {c : Operand} {b : BC} (h : (opnd st c).bc = some b) : a.eval c = .bool b.val := by
  obtain ⟨m, ls, Bs, M, hs, hn, hd⟩ := H
  exact SV.bc_rel h (opnd_rel c (fun t _ => hs t))

variable {E : Nat → List Item → St → Option R} {fin : St → Option R} {res : List (Nat × Option Nat)} {cuts : List Nat}

/-- The machine is right. -/
theorem run_ok (hT : TOk P T) (hE : EnvOk P env) (hmix : P.follows .mixedOrders = true) {bs : Base} {n : Nat} {r : R} {Q : Act → World → Prop}
    (hfin : ∀ st a w, toFin T fin res st = some r → Sat bs n st a w → Q a w) :
    ∀ (f : Nat) (fresh : Bool) (items : List Item) (st : St), run T env n E fin res cuts f fresh items st = some r →
      (∀ key s, SubS items key s → ∀ st', E key s st' = some r → ∀ a w, Sat bs n st' a w → Leads P (start s) a w Q) →
      ∀ a w, Sat bs n st a w → Leads P items a w Q
  | 0, _, _, _, h, _, _, _, _ => by simp [run, bad] at h
  | f + 1, fresh, items, st, h, hJ, a, w, H => by
    have ih := run_ok hT hE hmix hfin f
    have ret : ∀ {items : List Item}, toFin T fin res st = some r → (∀ (b : Frame) (cs : List Frame), step P (lone (b.at a items) cs w) = .next (lone { b.at a items with mode := .returning } cs w)) → Leads P items a w Q := by
      intro items hf hs b cs
      exact ⟨items, a, w, hfin st a w hf H, .one (hs b cs)⟩
    cases items with
    | nil =>
      simp only [run] at h
      exact ret h (fun b cs => step_end)
    | cons x k =>
      cases x with
      | inBlock id =>
        simp only [run] at h
        exact Leads.of_step (fun b cs => step_inBlock) (ih _ _ _ h (fun key s hs => hJ key s (by simp only [SubS]; exact hs)) a w H)
      | inLoop c =>
        simp only [run] at h
        have := hJ _ (.inLoop c :: k) (by simp [SubS]) st h a w H
        exact Leads.of_step (fun b cs => step_inLoop) this
      | code c =>
        have hk : ∀ key s, SubS k key s → SubS (.code c :: k) key s := fun key s hs => by simp only [SubS]; exact .inr hs
        cases c with
        | skip =>
          simp only [run] at h
          exact Leads.of_step (fun b cs => step_skip) (ih _ _ _ h (fun key s hs => hJ key s (hk key s hs)) a w H)
        | label l =>
          simp only [run] at h
          exact Leads.of_step (fun b cs => step_label) (ih _ _ _ h (fun key s hs => hJ key s (hk key s hs)) a w H)
        | region id ops draw =>
          simp only [run] at h
          cases hc : (bif fresh then false else memL id cuts) with
          | true =>
            rw [hc] at h
            simp only [cond_true] at h
            exact hJ _ (.code (.region id ops draw) :: k) (by simp [SubS, Sub]) st h a w H
          | false =>
            rw [hc] at h
            simp only [cond_false] at h
            refine region_leads hT hE hmix h ?_ H ?_
            · intro st' log' h1 hdr
              subst hdr
              cases hl : logOk ops.toList log' with
              | true => rfl
              | false => rw [hl] at h1; simp [bad] at h1
            · intro st' log' a' w' h1 H'
              cases hb : (bif draw then logOk ops.toList log' else true) with
              | false => rw [hb] at h1; simp [bad] at h1
              | true =>
                rw [hb] at h1
                simp only [cond_true] at h1
                exact ih _ _ _ h1 (fun key s hs => hJ key s (hk key s hs)) a' w' H'
        | seq x y =>
          simp only [run] at h
          refine Leads.of_step (fun b cs => step_seq) (ih _ _ _ h (fun key s hs => hJ key s ?_) a w H)
          simp only [SubS, Sub] at hs ⊢
          rcases hs with hs | hs | hs
          · exact .inl (.inl hs)
          · exact .inl (.inr hs)
          · exact .inr hs
        | cond c x y =>
          simp only [run] at h
          split at h
          · rename_i b hb
            have hv := H.bc hb
            rw [BC.br_eq] at h
            refine Leads.of_step (fun b cs => step_cond hv) ?_
            split at h <;> rename_i hbv
            · rw [if_pos hbv]
              refine ih _ _ _ h (fun key s hs => hJ key s ?_) a w H
              simp only [SubS, Sub] at hs ⊢
              exact hs.imp .inl id
            · rw [if_neg hbv]
              refine ih _ _ _ h (fun key s hs => hJ key s ?_) a w H
              simp only [SubS, Sub] at hs ⊢
              exact hs.imp .inr id
          · simp [bad] at h
        | block id x =>
          simp only [run] at h
          refine Leads.of_step (fun b cs => step_block) (ih _ _ _ h (fun key s hs => hJ key s ?_) a w H)
          simp only [SubS, Sub] at hs ⊢
          exact hs
        | loop c =>
          simp only [run] at h
          have := hJ _ (.inLoop c :: k) (by simp [SubS, Sub]) st h a w H
          exact Leads.of_step (fun b cs => step_loop) this
        | exit id =>
          simp only [run] at h
          split at h
          · rename_i k' hx
            exact Leads.of_step (fun b cs => step_exit (exitTo_of hx)) (ih _ _ _ h (fun key s hs => hJ key s (hk key s (subS_exit hx hs))) a w H)
          · simp [bad] at h
        | ret =>
          simp only [run] at h
          exact ret h (fun b cs => step_ret)
        | _ => simp [run, bad] at h
      | _ => simp [run, bad] at h
end
end Go.Proofs.YtfkilmmldjajmaaSx
