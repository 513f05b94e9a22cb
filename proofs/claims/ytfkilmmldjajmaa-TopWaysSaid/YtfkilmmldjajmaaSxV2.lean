/- A law's row from its function's contract. -/
import Derived.Test.YtfkilmmldjajmaaSxV
import Derived.WideShapes
import Derived.ChangeShapes
import Derived.WalkKit
import Derived.OpenShut
import Derived.ShutString
import Derived.ChangeOld
import Derived.ReadAgain
namespace Go.Proofs.YtfkilmmldjajmaaSx
open Go Go.RowKit Go.ChangeShapes Go.WideShapes
set_option linter.unusedVariables false
set_option linter.unusedSimpArgs false
section
variable {P : Program} {T : TT} {W : World}

theorem okG_agg (hT : TOk P T) {u : Ty} {t : Nat} (h : okG T u (.ty t) = true) : ∃ d, P.underlying t = some d ∧ match u with
    | .int k => d = .int k | .bool => d = .bool | .str => d = .string | .slice _ => ∃ e, d = .slice e | _ => (∃ fs, d = .struct fs) ∨ ∃ n e, d = .array n e := by
  have parts : ∀ {x}, (OG.ty t).fs T = some x → ∃ d, P.underlying t = some d ∧ ((∃ fs, d = .struct fs) ∨ ∃ n e, d = .array n e) := by
    intro x hx
    simp only [OG.fs] at hx
    split at hx
    · rename_i ti hti
      obtain ⟨d, hd, _, hd2⟩ := (hT _ _ hti).und
      split at hx
      · rename_i fs hfs
        rw [hfs] at hd2
        obtain ⟨fields, rfl, _⟩ := hd2
        exact ⟨_, hd, .inl ⟨_, rfl⟩⟩
      · rename_i n e hfs
        rw [hfs] at hd2
        exact ⟨_, hd, .inr ⟨n, e, hd2⟩⟩
      · cases hx
    · cases hx
  cases u with
  | int k =>
    simp only [okG, isKind, Bool.and_eq_true] at h
    obtain ⟨h, _⟩ := h
    split at h
    · rename_i ti hti
      split at h
      · rename_i k' hd
        split at h
        · rename_i q hq
          obtain ⟨e⟩ := q
          subst e
          obtain ⟨d, hu, _, hd2⟩ := (hT _ _ hti).und
          rw [hd] at hd2
          exact ⟨d, hu, hd2⟩
        · cases h
      · cases h
    · cases h
  | bool =>
    simp only [okG, isKind, Bool.and_eq_true] at h
    obtain ⟨h, _⟩ := h
    split at h
    · rename_i ti hti
      split at h
      · rename_i hd
        obtain ⟨d, hu, _, hd2⟩ := (hT _ _ hti).und
        rw [hd] at hd2
        exact ⟨d, hu, hd2⟩
      · cases h
    · cases h
  | str =>
    simp only [okG, isKind, Bool.and_eq_true] at h
    obtain ⟨h, _⟩ := h
    split at h
    · rename_i ti hti
      split at h
      · rename_i hd
        obtain ⟨d, hu, _, hd2⟩ := (hT _ _ hti).und
        rw [hd] at hd2
        exact ⟨d, hu, hd2⟩
      · cases h
    · cases h
  | slice u =>
    simp only [okG, Bool.and_eq_true] at h
    obtain ⟨h, _⟩ := h
    split at h
    · rename_i e he
      simp only [OG.elem] at he
      split at he
      · rename_i ti hti
        split at he
        · rename_i e' hd
          obtain ⟨d, hu, _, hd2⟩ := (hT _ _ hti).und
          rw [hd] at hd2
          exact ⟨d, hu, _, hd2⟩
        · cases he
      · cases he
    · cases h
  | pair a b =>
    simp only [okG, Bool.and_eq_true] at h
    obtain ⟨h, _⟩ := h
    split at h
    · rename_i hx; exact parts hx
    · cases h
  | unit =>
    simp only [okG, Bool.and_eq_true] at h
    obtain ⟨h, _⟩ := h
    split at h
    · rename_i hx; exact parts hx
    · cases h

/-- An argument of a row, as told data. -/
theorem opened (hT : TOk P T) {t : Nat} (u : Ty) (h : okG T u (.ty t) = true) {H : Type} {enc : TypeId × Value → H} {v : Value} {x : DataW H} {ps : List MemPlace} {r : Reach} {base : Nat}
    (hval : Value.okWide P W r base t v) (hv : DataW.Trod enc P W 0 (fun _ => true) true t v x ps)
    {ts : List TypeId} {ds : List (DataW H)} (hw : (DataW.weightsEach P ts ds).all (· ≤ reachBytes) = true) (i : Nat) (hti : ts[i]? = some t) (hdi : ds[i]? = some x) :
    ∃ y : u.den, (SV.p u y).rel (cellsOf W) [] v ∧ u.okv y := by
  obtain ⟨fuel, hf⟩ := hv
  obtain ⟨y, hy, hok⟩ := okG_op (W := W) hT u (.ty t) h H enc fuel _ _ hf (by
    rw [List.all_eq_true] at hw ⊢
    exact fun q hq => hw q (weach _ _ i t x hti hdi q hq))
  refine ⟨y, ?_, hok⟩
  obtain ⟨d, hd, hk⟩ := okG_agg hT h
  have arr : ∀ {n e}, P.underlying t = some (.array n e) → ∃ cs, v = .agg cs := by
    intro n e he
    simp only [Value.okWide, he] at hval
    obtain ⟨cs, h1, _⟩ := hval
    exact ⟨cs, h1⟩
  cases u with
  | int k => subst hk; obtain ⟨n, rfl⟩ := okWide_int hd hval; simpa [SV.rel, Ty.agg, Value.cells] using hy
  | bool => subst hk; obtain ⟨n, rfl⟩ := okWide_bool hd hval; simpa [SV.rel, Ty.agg, Value.cells] using hy
  | str => subst hk; obtain ⟨n, rfl⟩ := okWide_string hd hval; simpa [SV.rel, Ty.agg, Value.cells] using hy
  | slice u => obtain ⟨e, rfl⟩ := hk; obtain ⟨a, l, c, rfl⟩ := okWide_slice hd hval; simp only [SV.rel, Ty.agg, Bool.false_eq_true, if_false]; exact hy
  | pair a b =>
    have : ∃ cs, v = .agg cs := by
      rcases hk with ⟨fs, rfl⟩ | ⟨n, e, rfl⟩
      · obtain ⟨cs, h1, _⟩ := okWide_struct hd hval; exact ⟨cs, h1⟩
      · exact arr hd
    obtain ⟨cs, rfl⟩ := this
    simp only [SV.rel, Ty.agg, if_true]
    exact ⟨cs, rfl, hy⟩
  | unit =>
    have : ∃ cs, v = .agg cs := by
      rcases hk with ⟨fs, rfl⟩ | ⟨n, e, rfl⟩
      · obtain ⟨cs, h1, _⟩ := okWide_struct hd hval; exact ⟨cs, h1⟩
      · exact arr hd
    obtain ⟨cs, rfl⟩ := this
    simp only [SV.rel, Ty.agg, if_true]
    exact ⟨cs, rfl, hy⟩

/-- Slots of arguments. -/
theorem args_get : ∀ {l : List SV} {vs : List Value} {i : Nat}, SV.rels (cellsOf W) [] l vs → ∀ t, (St.get ⟨slotsOf i l, []⟩ (i + t)).rel (cellsOf W) [] (vs.getD t undef)
  | [], vs, i, h, t => by simp only [slotsOf, St.get, assoc, SV.rel]
  | s :: l, vs, i, h, t => by
    simp only [SV.rels] at h
    obtain ⟨v, us, rfl, h1, h2⟩ := h
    simp only [slotsOf]
    rw [fillSlots_get]
    cases t with
    | zero => simp; exact h1
    | succ t =>
      rw [if_neg (by omega)]
      have := args_get (i := i + 1) h2 t
      rw [show i + (t + 1) = i + 1 + t by omega]
      simpa using this
theorem args_get0 {l : List SV} {vs : Array Value} (h : SV.rels (cellsOf W) [] l vs.toList) (t : Nat) : (St.get ⟨slotsOf 0 l, []⟩ t).rel (cellsOf W) [] (vs.getD t undef) := by
  have := args_get (i := 0) h t
  rw [Nat.zero_add] at this
  have e : vs.toList.getD t undef = vs.getD t undef := by simp [List.getD, Array.getD_eq_getD_getElem?]
  rw [← e]; exact this
end
end Go.Proofs.YtfkilmmldjajmaaSx
