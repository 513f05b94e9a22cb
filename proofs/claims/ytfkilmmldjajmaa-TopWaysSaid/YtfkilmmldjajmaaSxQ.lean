/- A function with its cuts and its mirrors. -/
import Derived.Test.YtfkilmmldjajmaaSxP
namespace Go.Proofs.YtfkilmmldjajmaaSx
open Go
set_option linter.unusedVariables false
set_option linter.unusedSimpArgs false

theorem sub_trans : ∀ {c : Code} {k : List Item} {key : Nat} {s : List Item}, Sub c k key s → ∀ {key' : Nat} {s' : List Item}, SubS (start s) key' s' → Sub c k key' s' ∨ SubS k key' s'
  | .region id ops d, k, key, s, h, key', s', h' => by
    simp only [Sub] at h
    obtain ⟨_, rfl⟩ := h
    simpa [start, SubS] using h'
  | .seq a b, k, key, s, h, key', s', h' => by
    simp only [Sub] at h ⊢
    rcases h with h | h
    · have := sub_trans h h'
      simp only [SubS] at this
      rcases this with h | h | h
      · exact .inl (.inl h)
      · exact .inl (.inr h)
      · exact .inr h
    · rcases sub_trans h h' with h | h
      · exact .inl (.inr h)
      · exact .inr h
  | .cond _ a b, k, key, s, h, key', s', h' => by
    simp only [Sub] at h ⊢
    rcases h with h | h
    · rcases sub_trans h h' with h | h
      · exact .inl (.inl h)
      · exact .inr h
    · rcases sub_trans h h' with h | h
      · exact .inl (.inr h)
      · exact .inr h
  | .block _ a, k, key, s, h, key', s', h' => by
    simp only [Sub] at h ⊢
    have := sub_trans h h'
    simpa only [SubS] using this
  | .loop a, k, key, s, h, key', s', h' => by
    simp only [Sub] at h ⊢
    rcases h with ⟨_, rfl⟩ | h
    · simp only [start, SubS] at h'
      rcases h' with h | h | h | h
      · exact .inl (.inr h)
      · exact .inl (.inl h)
      · exact .inl (.inr h)
      · exact .inr h
    · have := sub_trans h h'
      simp only [SubS] at this
      rcases this with h | h | h | h
      · exact .inl (.inr h)
      · exact .inl (.inl h)
      · exact .inl (.inr h)
      · exact .inr h
  | .skip, _, _, _, h, _, _, _ => by simp [Sub] at h
  | .rangeFunc .., _, _, _, h, _, _, _ => by simp [Sub] at h
  | .exit _, _, _, _, h, _, _, _ => by simp [Sub] at h
  | .scope _, _, _, _, h, _, _, _ => by simp [Sub] at h
  | .label _, _, _, _, h, _, _, _ => by simp [Sub] at h
  | .goto _, _, _, _, h, _, _, _ => by simp [Sub] at h
  | .ret, _, _, _, h, _, _, _ => by simp [Sub] at h
  | .refuse _, _, _, _, h, _, _, _ => by simp [Sub] at h

/-- Cuts by a table: templates, and what is behind them. -/
def cutE {R : Type} (nin : Nat) (tbl : List (Nat × Tm × (Nat → List Dat → Option R))) (k : Nat) (key : Nat) (_ : List Item) (st : St) : Option R := match assoc key tbl with
  | some (tm, g) => (match tm.normS (idFound nin 0) st with | some ds => g k ds | none => none)
  | none => none

/-- All data is taken. -/
def popE {R : Type} (ds : List Dat) (r : R) : Option R := match ds with
  | [] => some r
  | _ => none

theorem popE_some {R : Type} {ds : List Dat} {x r : R} (h : popE ds x = some r) : ds = [] ∧ x = r := by
  unfold popE at h
  split at h
  · cases h; exact ⟨rfl, rfl⟩
  · cases h

def popN {R : Type} (ds : List Dat) (r : Option R) : Option R := match ds with
  | [] => r
  | _ => none
theorem popN_some {R : Type} {ds : List Dat} {x : Option R} {r : R} (h : popN ds x = some r) : ds = [] ∧ x = some r := by
  unfold popN at h
  split at h
  · exact ⟨rfl, h⟩
  · cases h
theorem pop_self {R : Type} {t : Ty} {x : t.den} {ds : List Dat} {K : t.den → List Dat → Option R} : pop t (⟨t, x⟩ :: ds) K = K x ds := by
  simp only [pop, cast?_self]
theorem bind_some {α β : Type} {x : Option α} {f : α → Option β} {r : β} (h : x.bind f = some r) : ∃ a, x = some a ∧ f a = some r := by
  cases x with
  | none => cases h
  | some a => exact ⟨a, rfl, h⟩

def fnBody (fn : Func) : Code := match fn.body with | some c => c | none => .skip
def resBack : ResultVar → Nat × Option Nat
  | .tmp t => (t, none)
  | .cell c t => (c, some t)
def fnRes (fn : Func) : List (Nat × Option Nat) := fn.results.toList.map resBack
def hasBody (fn : Func) : Bool := match fn.body with | some _ => true | none => false
def stackOf (key : Nat) (body : Code) : List Item := match stackAt key body [] with | some s => s | none => []
theorem fnOk_of {P : Program} {f ar : Nat} {fn : Func} (h1 : P.funcs[f]? = some fn) (h2 : hasBody fn = true) (h3 : Nat.ble ar fn.ntmps = true) (h4 : (fn.name == "runtime.NumGoroutine") = false) : FnOk P f fn (fnBody fn) fn.ntmps ar (fnRes fn) := by
  refine ⟨h1, ?_, rfl, Nat.le_of_ble_eq_true h3, h4, ?_⟩
  · unfold hasBody at h2; unfold fnBody
    cases hb : fn.body with
    | none => rw [hb] at h2; cases h2
    | some c => rfl
  · unfold fnRes
    rw [List.map_map]
    have : (resVar ∘ resBack) = id := by funext x; cases x <;> rfl
    rw [this, List.map_id]

/-- What comes back of a function. -/
def finE {R : Type} (nin : Nat) (tm : Tm) (g : List Dat → Option R) (st : St) : Option R := match tm.normS (idFound nin 0) st with
  | some ds => g ds
  | none => none

def cntOk {α : Type} (body : Code) (x : Nat × α) : Bool := Nat.ble (cnt x.1 body) 1

theorem fun_ok {P : Program} {T : TT} {R : Type} (hT : TOk P T) (hmix : P.follows .mixedOrders = true) {env : Nat → Nat → List SV → List Chunk → KT R → Option R}
    {f : Nat} {fn : Func} {body : Code} {n ar : Nat} {res : List (Nat × Option Nat)} (hf : FnOk P f fn body n ar res) {tmIn tmOut : Tm} {nin : Nat} (hnin : tmIn.chunks.length = nin) (hsh : resShape 0 tmOut.slots = true) (hln : tmOut.slots.length = res.length)
    {tbl : List (Nat × Tm × (Nat → List Dat → Option R))} {toRs : R → List Dat} {gOut : List Dat → Option R} {cuts : List Nat} {fuel : Nat} {g : Nat → List Dat → Option R} (hcnt : allL (cntOk body) tbl = true)
    (hg : ∀ x ∈ tbl, ∀ k ds r, x.2.2 k ds = some r → ∃ k', k' < k ∧ ∃ s, stackAt x.1 body [] = some s ∧ run T (env k') n (cutE nin tbl k') (finE nin tmOut gOut) res cuts fuel true (start s) (x.2.1.fill ds) = some r)
    (hout : ∀ ds r, gOut ds = some r → ds = toRs r)
    (hg0 : ∀ k ds r, g k ds = some r → ∃ k', k' < k ∧ run T (env k') n (cutE nin tbl k') (finE nin tmOut gOut) res cuts fuel true [.code body] (tmIn.fill ds) = some r)
    (hE : ∀ k, (∀ ds r, g k ds = some r → Con P f ar tmIn tmOut ds (toRs r)) → EnvOk P (env k)) :
    ∀ k ds r, g k ds = some r → Con P f ar tmIn tmOut ds (toRs r) := by
  have hfin : ∀ r st, finE nin tmOut gOut st = some r → tmOut.normS (idFound nin 0) st = some (toRs r) := by
    intro r st h
    unfold finE at h
    split at h
    · rename_i ds hds; rw [hds, hout ds r h]
    · cases h
  have all : ∀ k, (∀ ds r, g k ds = some r → Con P f ar tmIn tmOut ds (toRs r)) ∧
      ∀ bs : Base, bs.ls0.length = nin → ∀ r key s, Sub body [] key s → ∀ st', cutE nin tbl k key s st' = some r → ∀ a w, Sat bs n st' a w → Leads P (start s) a w (AtEnd P fn bs tmOut (toRs r)) := by
    intro k
    induction k using Nat.strongRecOn with
    | _ k ih =>
      constructor
      · intro ds r h
        obtain ⟨k', hk, hrun⟩ := hg0 k ds r h
        obtain ⟨iA, iB⟩ := ih k' hk
        have hcl : (tmIn.fill ds).chunks.length = nin := by rw [fill_chunks, fillChunks_len, hnin]
        exact fn_ok hT (hE k' iA) hmix hf hsh hln hrun (by rw [hcl]; exact hfin r) (fun bs hbs key s hs st' h' a w H => iB bs (by rw [hbs, hcl]) r key s hs st' h' a w H)
      · intro bs hbs r key s hs st' h a w H
        have h0 := h
        unfold cutE at h
        split at h
        · rename_i tm gx hx
          have hmem := assoc_mem hx
          split at h
          · rename_i ds hds
            obtain ⟨k', hk, s', hs', hrun⟩ := hg _ hmem k ds r h
            obtain ⟨iA, iB⟩ := ih k' hk
            rw [allL_iff] at hcnt
            have hc := hcnt _ hmem
            unfold cntOk at hc
            have hu := sub_unique (Nat.le_of_ble_eq_true hc) hs
            simp only at hs'
            rw [hu] at hs'
            cases hs'
            have H' := normS_sat (bs := bs) (by rw [hbs]; exact hds) H
            exact run_ok hT (hE k' iA) hmix (bs := bs) (n := n) (Q := AtEnd P fn bs tmOut (toRs r)) (fun st a w h H => at_end hT hf hsh hln (fun st hst => by rw [hbs]; exact hfin r st hst) h H) fuel true (start s) _ hrun
              (fun key' s2 hs2 st2 h2 a2 w2 H2 => iB bs hbs r key' s2 (by
                rcases sub_trans hs hs2 with q | q
                · exact q
                · simp [SubS] at q) st2 h2 a2 w2 H2) a w H'
          · cases h
        · cases h
  exact fun k => (all k).1

/-- Nothing is called. -/
def env0 {R : Type} : Nat → List SV → List Chunk → KT R → Option R := fun _ _ _ _ => none
theorem env0_ok {P : Program} {R : Type} : EnvOk P (env0 : Nat → List SV → List Chunk → KT R → Option R) := by
  intro f args cs K r h; simp [env0] at h

/-- One more function may be called. -/
def envC {R : Type} (f ar : Nat) (tmIn tmOut : Tm) (fn : List Dat → (List Dat → Option R) → Option R) (rest : Nat → List SV → List Chunk → KT R → Option R) : Nat → List SV → List Chunk → KT R → Option R :=
  fun g args cs K => bif Nat.beq g f then callT ar tmIn tmOut fn (rest g args cs K) args cs K else rest g args cs K
theorem envC_ok {P : Program} {R : Type} {f ar : Nat} {tmIn tmOut : Tm} {fn : List Dat → (List Dat → Option R) → Option R} {rest : Nat → List SV → List Chunk → KT R → Option R}
    (hfn : ∀ ds K r, fn ds K = some r → ∃ rs, K rs = some r ∧ Con P f ar tmIn tmOut ds rs) (hr : EnvOk P rest) : EnvOk P (envC f ar tmIn tmOut fn rest) := by
  intro g args cs K r h
  unfold envC at h
  cases hb : Nat.beq g f with
  | true =>
    rw [hb] at h
    have := beq_nat hb; subst this
    rcases callT_ok hfn h with h | h
    · exact hr _ _ _ _ _ h
    · exact h
  | false => rw [hb] at h; exact hr _ _ _ _ _ h
end Go.Proofs.YtfkilmmldjajmaaSx
