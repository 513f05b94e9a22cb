/- A law's call: from any world. -/
import Derived.Test.YtfkilmmldjajmaaSxQ
import Derived.Below
namespace Go.Proofs.YtfkilmmldjajmaaSx
open Go Go.RowKit
set_option linter.unusedVariables false

theorem Mem.begin (w : World) : Mem ⟨w, cellsOf w, [], []⟩ (cellsOf w) [] [] [] w :=
  ⟨rfl, rfl, rfl, Nat.le_refl _, fun _ _ _ => rfl, fun _ _ _ h => h, fun _ _ _ h => .inl h, fun _ _ _ h => h, fun _ _ h => h, rfl, rfl,
    fun i c l B h => by simp at h, fun i j B B' h => by simp at h, fun i B h => by simp at h⟩

theorem Con.calls {P : Program} {f ar : Nat} {tmIn tmOut : Tm} {ds rs : List Dat} (C : Con P f ar tmIn tmOut ds rs) (hch : (tmIn.fill ds).chunks = []) (w : World) (vs : Array Value) (hsz : vs.size = ar)
    (hs : ∀ t, ((tmIn.fill ds).get t).rel (cellsOf w) [] (vs.getD t undef)) :
    Calls P f vs w fun e w' => ∃ v m' ls', e = .returned v ∧ (resOf (tmOut.fill rs).slots).rel m' ls' v ∧ Below w.heap.size w w' := by
  refine Calls.mono (C.2 (cellsOf w) [] [] w vs (by rw [hch]; exact Mem.begin w) hsz hs) ?_
  rintro e w' ⟨v, m', ls', Bs', he, _, M', hv⟩
  exact ⟨v, m', ls', he, hv, ⟨M'.os, M'.tape, M'.output, M'.size, fun k hk => M'.old k hk (by simp)⟩⟩

/-- A law's answer. -/
theorem Con.law {P : Program} {f ar : Nat} {tmIn : Tm} {ds : List Dat} {r : Bool} (C : Con P f ar tmIn ⟨[(0, .p .bool)], []⟩ ds [⟨.bool, r⟩]) (hch : (tmIn.fill ds).chunks = []) (w : World) (vs : Array Value) (hsz : vs.size = ar)
    (hs : ∀ t, ((tmIn.fill ds).get t).rel (cellsOf w) [] (vs.getD t undef)) :
    Calls P f vs w fun e w' => e = .returned (.bool r) ∧ Below w.heap.size w w' := by
  refine Calls.mono (C.calls hch w vs hsz hs) ?_
  rintro e w' ⟨v, m', ls', he, hv, hb⟩
  have e1 : (resOf (Tm.fill ⟨[(0, .p .bool)], []⟩ [⟨.bool, r⟩]).slots) = .p .bool r := rfl
  rw [e1] at hv
  simp only [SV.rel, Ty.agg, Bool.false_eq_true, if_false, Ty.rep] at hv
  simp at hv
  subst hv
  exact ⟨he, hb⟩
end Go.Proofs.YtfkilmmldjajmaaSx
