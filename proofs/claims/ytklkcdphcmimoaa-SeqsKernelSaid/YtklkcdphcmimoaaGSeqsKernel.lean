import Derived.Test.YtklkcdphcmimoaaSxT
import Derived.Test.YtklkcdphcmimoaaSxQ
import Derived.Test.YtklkcdphcmimoaaSxV2
import Derived.Test.YtklkcdphcmimoaaSxW
import Derived.KernelRfl
import Derived.Test.YtklkcdphcmimoaaProg
set_option linter.unusedVariables false
set_option maxRecDepth 100000
namespace Go.Proofs.YtklkcdphcmimoaaSx
open Go Go.Proofs
theorem T_check : T.check Try.prog = true := by kernel_rfl
theorem T_ok : TOk Try.prog T := TT.check_ok T_check
theorem mixed : Try.prog.follows .mixedOrders = true := by kernel_rfl
def seqs_Check_1.f (k : Nat) (w0 : List (Int)) (x1_0 : Int) (x1_1 : List (List (Int))) (x1_2 : List (Int)) : Option (Bool × Int × List (List Int) × List Int) :=
 some (!decide ((↑w0.length : Int) = x1_0), x1_0, x1_1, x1_2)

noncomputable def seqs_Check_1.body : Code := fnBody Try.f132
def seqs_Check_1.ti : Tm := ⟨[(0, .p (.slice (.int .i64))), (1, .ptr 0 0)], [.box [.p (.int .i64), .p (.slice (.slice (.int .i64))), .p (.slice (.int .i64))] 34]⟩
def seqs_Check_1.to : Tm := ⟨[(0, .p .bool)], [.box [.p (.int .i64), .p (.slice (.slice (.int .i64))), .p (.slice (.int .i64))] 34]⟩
def seqs_Check_1.rs (r : Bool × Int × (List (List Int)) × (List Int)) : List Dat := [⟨.bool, r.1⟩, ⟨(.int .i64), r.2.1⟩, ⟨(.slice (.slice (.int .i64))), r.2.2.1⟩, ⟨(.slice (.int .i64)), r.2.2.2⟩]
def seqs_Check_1.out (ds : List Dat) : Option (Bool × Int × (List (List Int)) × (List Int)) := pop .bool ds fun x0 ds => pop (.int .i64) ds fun x1 ds => pop (.slice (.slice (.int .i64))) ds fun x2 ds => pop (.slice (.int .i64)) ds fun x3 ds => popN ds (some (x0, x1, x2, x3))
def seqs_Check_1.c (k : Nat) (ds : List Dat) : Option (Bool × Int × (List (List Int)) × (List Int)) := pop (.slice (.int .i64)) ds fun x0 ds => pop (.int .i64) ds fun x1 ds => pop (.slice (.slice (.int .i64))) ds fun x2 ds => pop (.slice (.int .i64)) ds fun x3 ds => popN ds (seqs_Check_1.f k x0 x1 x2 x3)
def seqs_Check_1.g : Nat → List Dat → Option (Bool × Int × (List (List Int)) × (List Int))
 | 0, _ => none
 | k + 1, ds => seqs_Check_1.c k ds
def seqs_Check_1.env (k : Nat) : Nat → List SV → List Chunk → KT (Bool × Int × (List (List Int)) × (List Int)) → Option (Bool × Int × (List (List Int)) × (List Int)) := env0
def seqs_Check_1.tbl : List (Nat × Tm × (Nat → List Dat → Option (Bool × Int × (List (List Int)) × (List Int)))) := []
theorem seqs_Check_1.e (k : Nat) (x0 : (List Int)) (x1 : Int) (x2 : (List (List Int))) (x3 : (List Int)) : seqs_Check_1.f k x0 x1 x2 x3 = run T (seqs_Check_1.env k) Try.f132.ntmps (cutE 1 seqs_Check_1.tbl k) (finE 1 seqs_Check_1.to seqs_Check_1.out) (fnRes Try.f132) [] 100000 true ([.code seqs_Check_1.body]) (seqs_Check_1.ti.fill [⟨(.slice (.int .i64)), x0⟩, ⟨(.int .i64), x1⟩, ⟨(.slice (.slice (.int .i64))), x2⟩, ⟨(.slice (.int .i64)), x3⟩]) := by kernel_rfl
theorem seqs_Check_1.h (k : Nat) (ds : List Dat) (r : Bool × Int × (List (List Int)) × (List Int)) (h : seqs_Check_1.g k ds = some r) : ∃ k', k' < k ∧ run T (seqs_Check_1.env k') Try.f132.ntmps (cutE 1 seqs_Check_1.tbl k') (finE 1 seqs_Check_1.to seqs_Check_1.out) (fnRes Try.f132) [] 100000 true ([.code seqs_Check_1.body]) (seqs_Check_1.ti.fill ds) = some r := by
  cases k with
  | zero => cases (show none = some r from h)
  | succ k =>
  replace h : seqs_Check_1.c k ds = some r := h
  unfold seqs_Check_1.c at h
  obtain ⟨x0, d0, e0, h0⟩ := pop_some h; clear h; subst e0; have h := h0; clear h0
  obtain ⟨x1, d1, e1, h1⟩ := pop_some h; clear h; subst e1; have h := h1; clear h1
  obtain ⟨x2, d2, e2, h2⟩ := pop_some h; clear h; subst e2; have h := h2; clear h2
  obtain ⟨x3, d3, e3, h3⟩ := pop_some h; clear h; subst e3; have h := h3; clear h3
  obtain ⟨eN, hN⟩ := popN_some h; clear h; subst eN; have h := hN; clear hN
  exact ⟨k, Nat.lt_succ_self k, (seqs_Check_1.e k x0 x1 x2 x3).symm.trans h⟩
theorem seqs_Check_1.o (ds : List Dat) (r : Bool × Int × (List (List Int)) × (List Int)) (h : seqs_Check_1.out ds = some r) : ds = seqs_Check_1.rs r := by
  unfold seqs_Check_1.out at h
  obtain ⟨x0, d0, e0, h0⟩ := pop_some h; clear h; subst e0; have h := h0; clear h0
  obtain ⟨x1, d1, e1, h1⟩ := pop_some h; clear h; subst e1; have h := h1; clear h1
  obtain ⟨x2, d2, e2, h2⟩ := pop_some h; clear h; subst e2; have h := h2; clear h2
  obtain ⟨x3, d3, e3, h3⟩ := pop_some h; clear h; subst e3; have h := h3; clear h3
  obtain ⟨eN, hN⟩ := popN_some h; clear h; subst eN; have h := hN; clear hN
  cases h
  rfl
theorem seqs_Check_1.fn : FnOk Try.prog 132 Try.f132 seqs_Check_1.body Try.f132.ntmps 2 (fnRes Try.f132) :=
  fnOk_of (by kernel_rfl) (by kernel_rfl) (by kernel_rfl) (by kernel_rfl)
theorem seqs_Check_1.con' : ∀ k ds r, seqs_Check_1.g k ds = some r → Con Try.prog 132 2 seqs_Check_1.ti seqs_Check_1.to ds (seqs_Check_1.rs r) :=
  fun_ok (T := T) T_ok mixed seqs_Check_1.fn (env := seqs_Check_1.env) (tbl := seqs_Check_1.tbl) (gOut := seqs_Check_1.out) (nin := 1) (cuts := []) (fuel := 100000) rfl (by kernel_rfl) (by kernel_rfl) (by kernel_rfl) (fun x hx => by simp [seqs_Check_1.tbl] at hx) seqs_Check_1.o seqs_Check_1.h (fun k _ => by unfold seqs_Check_1.env; exact env0_ok)
theorem seqs_Check_1.con (k : Nat) {x0 : (List Int)} {x1 : Int} {x2 : (List (List Int))} {x3 : (List Int)} (r : Bool × Int × (List (List Int)) × (List Int)) (h : seqs_Check_1.f k x0 x1 x2 x3 = some r) : Con Try.prog 132 2 seqs_Check_1.ti seqs_Check_1.to [⟨(.slice (.int .i64)), x0⟩, ⟨(.int .i64), x1⟩, ⟨(.slice (.slice (.int .i64))), x2⟩, ⟨(.slice (.int .i64)), x3⟩] (seqs_Check_1.rs r) :=
  seqs_Check_1.con' (k + 1) _ r (by show seqs_Check_1.c k _ = some r; unfold seqs_Check_1.c; simp only [pop_self, popN]; exact h)
mutual
def slices_IndexFunc_____int___int_.l2 : Nat → List (List (Int)) → Int → Int → Int → List (List (Int)) → List (Int) → Option (Int × Int × List (List Int) × List Int)
 | 0, _, _, _, _, _, _ => none
 | k + 1, s0, x7, x8, c0_0, c0_1, c0_2 =>
  if x8 < x7 then
   if 0 ≤ x8 then
   if x8 < (↑s0.length : Int) then
    (seqs_Check_1.f k (Go.Proofs.YtklkcdphcmimoaaSx.rd [] s0 x8) c0_0 c0_1 c0_2).bind fun r5 =>
      if r5.fst = true then
       some (x8, r5.snd.fst, r5.snd.snd.fst, r5.snd.snd.snd)
      else
       slices_IndexFunc_____int___int_.l2 k s0 x7 (Go.IntKind.i64.wrap (x8 + 1)) r5.snd.fst r5.snd.snd.fst r5.snd.snd.snd
    else none
   else none
  else
   some (-1, c0_0, c0_1, c0_2)
end
def slices_IndexFunc_____int___int_.f (k : Nat) (s0 : List (List (Int))) (c0_0 : Int) (c0_1 : List (List (Int))) (c0_2 : List (Int)) : Option (Int × Int × List (List Int) × List Int) :=
 slices_IndexFunc_____int___int_.l2 k s0 ((↑s0.length : Int)) 0 c0_0 c0_1 c0_2

noncomputable def slices_IndexFunc_____int___int_.body : Code := fnBody Try.f144
def slices_IndexFunc_____int___int_.ti : Tm := ⟨[(0, .p (.slice (.slice (.int .i64)))), (1, .fn 132 [.ptr 0 0])], [.box [.p (.int .i64), .p (.slice (.slice (.int .i64))), .p (.slice (.int .i64))] 34]⟩
def slices_IndexFunc_____int___int_.to : Tm := ⟨[(0, .p (.int .i64))], [.box [.p (.int .i64), .p (.slice (.slice (.int .i64))), .p (.slice (.int .i64))] 34]⟩
def slices_IndexFunc_____int___int_.rs (r : Int × Int × (List (List Int)) × (List Int)) : List Dat := [⟨(.int .i64), r.1⟩, ⟨(.int .i64), r.2.1⟩, ⟨(.slice (.slice (.int .i64))), r.2.2.1⟩, ⟨(.slice (.int .i64)), r.2.2.2⟩]
def slices_IndexFunc_____int___int_.out (ds : List Dat) : Option (Int × Int × (List (List Int)) × (List Int)) := pop (.int .i64) ds fun x0 ds => pop (.int .i64) ds fun x1 ds => pop (.slice (.slice (.int .i64))) ds fun x2 ds => pop (.slice (.int .i64)) ds fun x3 ds => popN ds (some (x0, x1, x2, x3))
def slices_IndexFunc_____int___int_.c (k : Nat) (ds : List Dat) : Option (Int × Int × (List (List Int)) × (List Int)) := pop (.slice (.slice (.int .i64))) ds fun x0 ds => pop (.int .i64) ds fun x1 ds => pop (.slice (.slice (.int .i64))) ds fun x2 ds => pop (.slice (.int .i64)) ds fun x3 ds => popN ds (slices_IndexFunc_____int___int_.f k x0 x1 x2 x3)
def slices_IndexFunc_____int___int_.g : Nat → List Dat → Option (Int × Int × (List (List Int)) × (List Int))
 | 0, _ => none
 | k + 1, ds => slices_IndexFunc_____int___int_.c k ds
def slices_IndexFunc_____int___int_.env (k : Nat) : Nat → List SV → List Chunk → KT (Int × Int × (List (List Int)) × (List Int)) → Option (Int × Int × (List (List Int)) × (List Int)) := (envC 132 2 seqs_Check_1.ti seqs_Check_1.to (fun ds K => pop (.slice (.int .i64)) ds fun x0 ds => pop (.int .i64) ds fun x1 ds => pop (.slice (.slice (.int .i64))) ds fun x2 ds => pop (.slice (.int .i64)) ds fun x3 ds => popN ds ((seqs_Check_1.f k x0 x1 x2 x3).bind fun r => K (seqs_Check_1.rs r))) env0)
def slices_IndexFunc_____int___int_.t5 : Tm := ⟨[(0, .p (.slice (.slice (.int .i64)))), (1, .fn 132 [.ptr 0 0]), (7, .p (.int .i64)), (8, .p (.int .i64))], [.box [.p (.int .i64), .p (.slice (.slice (.int .i64))), .p (.slice (.int .i64))] 34]⟩
def slices_IndexFunc_____int___int_.c5 (k : Nat) (ds : List Dat) : Option (Int × Int × (List (List Int)) × (List Int)) := pop (.slice (.slice (.int .i64))) ds fun x0 ds => pop (.int .i64) ds fun x1 ds => pop (.int .i64) ds fun x2 ds => pop (.int .i64) ds fun x3 ds => pop (.slice (.slice (.int .i64))) ds fun x4 ds => pop (.slice (.int .i64)) ds fun x5 ds => popN ds (slices_IndexFunc_____int___int_.l2 k x0 x1 x2 x3 x4 x5)
def slices_IndexFunc_____int___int_.tbl : List (Nat × Tm × (Nat → List Dat → Option (Int × Int × (List (List Int)) × (List Int)))) := [(5, slices_IndexFunc_____int___int_.t5, slices_IndexFunc_____int___int_.c5)]
theorem slices_IndexFunc_____int___int_.e5 (k : Nat) (x0 : (List (List Int))) (x1 : Int) (x2 : Int) (x3 : Int) (x4 : (List (List Int))) (x5 : (List Int)) : slices_IndexFunc_____int___int_.l2 (k + 1) x0 x1 x2 x3 x4 x5 = run T (slices_IndexFunc_____int___int_.env k) Try.f144.ntmps (cutE 1 slices_IndexFunc_____int___int_.tbl k) (finE 1 slices_IndexFunc_____int___int_.to slices_IndexFunc_____int___int_.out) (fnRes Try.f144) [] 100000 true (start (stackOf 5 slices_IndexFunc_____int___int_.body)) (slices_IndexFunc_____int___int_.t5.fill [⟨(.slice (.slice (.int .i64))), x0⟩, ⟨(.int .i64), x1⟩, ⟨(.int .i64), x2⟩, ⟨(.int .i64), x3⟩, ⟨(.slice (.slice (.int .i64))), x4⟩, ⟨(.slice (.int .i64)), x5⟩]) := by kernel_rfl
theorem slices_IndexFunc_____int___int_.s5 : stackAt 5 slices_IndexFunc_____int___int_.body [] = some (stackOf 5 slices_IndexFunc_____int___int_.body) := by kernel_rfl
theorem slices_IndexFunc_____int___int_.h5 (k : Nat) (ds : List Dat) (r : Int × Int × (List (List Int)) × (List Int)) (h : slices_IndexFunc_____int___int_.c5 k ds = some r) : ∃ k', k' < k ∧ ∃ s, stackAt 5 slices_IndexFunc_____int___int_.body [] = some s ∧ run T (slices_IndexFunc_____int___int_.env k') Try.f144.ntmps (cutE 1 slices_IndexFunc_____int___int_.tbl k') (finE 1 slices_IndexFunc_____int___int_.to slices_IndexFunc_____int___int_.out) (fnRes Try.f144) [] 100000 true (start s) (slices_IndexFunc_____int___int_.t5.fill ds) = some r := by
  unfold slices_IndexFunc_____int___int_.c5 at h
  obtain ⟨x0, d0, e0, h0⟩ := pop_some h; clear h; subst e0; have h := h0; clear h0
  obtain ⟨x1, d1, e1, h1⟩ := pop_some h; clear h; subst e1; have h := h1; clear h1
  obtain ⟨x2, d2, e2, h2⟩ := pop_some h; clear h; subst e2; have h := h2; clear h2
  obtain ⟨x3, d3, e3, h3⟩ := pop_some h; clear h; subst e3; have h := h3; clear h3
  obtain ⟨x4, d4, e4, h4⟩ := pop_some h; clear h; subst e4; have h := h4; clear h4
  obtain ⟨x5, d5, e5, h5⟩ := pop_some h; clear h; subst e5; have h := h5; clear h5
  obtain ⟨eN, hN⟩ := popN_some h; clear h; subst eN; have h := hN; clear hN
  cases k with
  | zero => cases (show none = some r from h)
  | succ k => exact ⟨k, Nat.lt_succ_self k, _, slices_IndexFunc_____int___int_.s5, (slices_IndexFunc_____int___int_.e5 k x0 x1 x2 x3 x4 x5).symm.trans h⟩
theorem slices_IndexFunc_____int___int_.e (k : Nat) (x0 : (List (List Int))) (x1 : Int) (x2 : (List (List Int))) (x3 : (List Int)) : slices_IndexFunc_____int___int_.f k x0 x1 x2 x3 = run T (slices_IndexFunc_____int___int_.env k) Try.f144.ntmps (cutE 1 slices_IndexFunc_____int___int_.tbl k) (finE 1 slices_IndexFunc_____int___int_.to slices_IndexFunc_____int___int_.out) (fnRes Try.f144) [] 100000 true ([.code slices_IndexFunc_____int___int_.body]) (slices_IndexFunc_____int___int_.ti.fill [⟨(.slice (.slice (.int .i64))), x0⟩, ⟨(.int .i64), x1⟩, ⟨(.slice (.slice (.int .i64))), x2⟩, ⟨(.slice (.int .i64)), x3⟩]) := by kernel_rfl
theorem slices_IndexFunc_____int___int_.h (k : Nat) (ds : List Dat) (r : Int × Int × (List (List Int)) × (List Int)) (h : slices_IndexFunc_____int___int_.g k ds = some r) : ∃ k', k' < k ∧ run T (slices_IndexFunc_____int___int_.env k') Try.f144.ntmps (cutE 1 slices_IndexFunc_____int___int_.tbl k') (finE 1 slices_IndexFunc_____int___int_.to slices_IndexFunc_____int___int_.out) (fnRes Try.f144) [] 100000 true ([.code slices_IndexFunc_____int___int_.body]) (slices_IndexFunc_____int___int_.ti.fill ds) = some r := by
  cases k with
  | zero => cases (show none = some r from h)
  | succ k =>
  replace h : slices_IndexFunc_____int___int_.c k ds = some r := h
  unfold slices_IndexFunc_____int___int_.c at h
  obtain ⟨x0, d0, e0, h0⟩ := pop_some h; clear h; subst e0; have h := h0; clear h0
  obtain ⟨x1, d1, e1, h1⟩ := pop_some h; clear h; subst e1; have h := h1; clear h1
  obtain ⟨x2, d2, e2, h2⟩ := pop_some h; clear h; subst e2; have h := h2; clear h2
  obtain ⟨x3, d3, e3, h3⟩ := pop_some h; clear h; subst e3; have h := h3; clear h3
  obtain ⟨eN, hN⟩ := popN_some h; clear h; subst eN; have h := hN; clear hN
  exact ⟨k, Nat.lt_succ_self k, (slices_IndexFunc_____int___int_.e k x0 x1 x2 x3).symm.trans h⟩
theorem slices_IndexFunc_____int___int_.o (ds : List Dat) (r : Int × Int × (List (List Int)) × (List Int)) (h : slices_IndexFunc_____int___int_.out ds = some r) : ds = slices_IndexFunc_____int___int_.rs r := by
  unfold slices_IndexFunc_____int___int_.out at h
  obtain ⟨x0, d0, e0, h0⟩ := pop_some h; clear h; subst e0; have h := h0; clear h0
  obtain ⟨x1, d1, e1, h1⟩ := pop_some h; clear h; subst e1; have h := h1; clear h1
  obtain ⟨x2, d2, e2, h2⟩ := pop_some h; clear h; subst e2; have h := h2; clear h2
  obtain ⟨x3, d3, e3, h3⟩ := pop_some h; clear h; subst e3; have h := h3; clear h3
  obtain ⟨eN, hN⟩ := popN_some h; clear h; subst eN; have h := hN; clear hN
  cases h
  rfl
theorem slices_IndexFunc_____int___int_.fn : FnOk Try.prog 144 Try.f144 slices_IndexFunc_____int___int_.body Try.f144.ntmps 2 (fnRes Try.f144) :=
  fnOk_of (by kernel_rfl) (by kernel_rfl) (by kernel_rfl) (by kernel_rfl)
theorem slices_IndexFunc_____int___int_.con' : ∀ k ds r, slices_IndexFunc_____int___int_.g k ds = some r → Con Try.prog 144 2 slices_IndexFunc_____int___int_.ti slices_IndexFunc_____int___int_.to ds (slices_IndexFunc_____int___int_.rs r) :=
  fun_ok (T := T) T_ok mixed slices_IndexFunc_____int___int_.fn (env := slices_IndexFunc_____int___int_.env) (tbl := slices_IndexFunc_____int___int_.tbl) (gOut := slices_IndexFunc_____int___int_.out) (nin := 1) (cuts := []) (fuel := 100000) rfl (by kernel_rfl) (by kernel_rfl) (by kernel_rfl) (fun x hx => by
    simp only [slices_IndexFunc_____int___int_.tbl, List.mem_cons, List.not_mem_nil, or_false] at hx
    subst hx
    · exact slices_IndexFunc_____int___int_.h5
) slices_IndexFunc_____int___int_.o slices_IndexFunc_____int___int_.h (fun k _ => by unfold slices_IndexFunc_____int___int_.env; exact (envC_ok (fun ds K r h => by
    obtain ⟨x0, d0, e0, h0⟩ := pop_some h; clear h; subst e0; have h := h0; clear h0
    obtain ⟨x1, d1, e1, h1⟩ := pop_some h; clear h; subst e1; have h := h1; clear h1
    obtain ⟨x2, d2, e2, h2⟩ := pop_some h; clear h; subst e2; have h := h2; clear h2
    obtain ⟨x3, d3, e3, h3⟩ := pop_some h; clear h; subst e3; have h := h3; clear h3
    obtain ⟨eN, hN⟩ := popN_some h; clear h; subst eN; have h := hN; clear hN
    obtain ⟨r1, h1, h2⟩ := bind_some h
    exact ⟨_, h2, seqs_Check_1.con k _ h1⟩) env0_ok))
theorem slices_IndexFunc_____int___int_.con (k : Nat) {x0 : (List (List Int))} {x1 : Int} {x2 : (List (List Int))} {x3 : (List Int)} (r : Int × Int × (List (List Int)) × (List Int)) (h : slices_IndexFunc_____int___int_.f k x0 x1 x2 x3 = some r) : Con Try.prog 144 2 slices_IndexFunc_____int___int_.ti slices_IndexFunc_____int___int_.to [⟨(.slice (.slice (.int .i64))), x0⟩, ⟨(.int .i64), x1⟩, ⟨(.slice (.slice (.int .i64))), x2⟩, ⟨(.slice (.int .i64)), x3⟩] (slices_IndexFunc_____int___int_.rs r) :=
  slices_IndexFunc_____int___int_.con' (k + 1) _ r (by show slices_IndexFunc_____int___int_.c k _ = some r; unfold slices_IndexFunc_____int___int_.c; simp only [pop_self, popN]; exact h)
def slices_ContainsFunc_____int___int_.f (k : Nat) (s0 : List (List (Int))) (c0_0 : Int) (c0_1 : List (List (Int))) (c0_2 : List (Int)) : Option (Bool × Int × List (List Int) × List Int) :=
 (slices_IndexFunc_____int___int_.f k s0 c0_0 c0_1 c0_2).bind fun r1 =>
  some (decide (0 ≤ r1.fst), r1.snd.fst, r1.snd.snd.fst, r1.snd.snd.snd)

noncomputable def slices_ContainsFunc_____int___int_.body : Code := fnBody Try.f92
def slices_ContainsFunc_____int___int_.ti : Tm := ⟨[(0, .p (.slice (.slice (.int .i64)))), (1, .fn 132 [.ptr 0 0])], [.box [.p (.int .i64), .p (.slice (.slice (.int .i64))), .p (.slice (.int .i64))] 34]⟩
def slices_ContainsFunc_____int___int_.to : Tm := ⟨[(0, .p .bool)], [.box [.p (.int .i64), .p (.slice (.slice (.int .i64))), .p (.slice (.int .i64))] 34]⟩
def slices_ContainsFunc_____int___int_.rs (r : Bool × Int × (List (List Int)) × (List Int)) : List Dat := [⟨.bool, r.1⟩, ⟨(.int .i64), r.2.1⟩, ⟨(.slice (.slice (.int .i64))), r.2.2.1⟩, ⟨(.slice (.int .i64)), r.2.2.2⟩]
def slices_ContainsFunc_____int___int_.out (ds : List Dat) : Option (Bool × Int × (List (List Int)) × (List Int)) := pop .bool ds fun x0 ds => pop (.int .i64) ds fun x1 ds => pop (.slice (.slice (.int .i64))) ds fun x2 ds => pop (.slice (.int .i64)) ds fun x3 ds => popN ds (some (x0, x1, x2, x3))
def slices_ContainsFunc_____int___int_.c (k : Nat) (ds : List Dat) : Option (Bool × Int × (List (List Int)) × (List Int)) := pop (.slice (.slice (.int .i64))) ds fun x0 ds => pop (.int .i64) ds fun x1 ds => pop (.slice (.slice (.int .i64))) ds fun x2 ds => pop (.slice (.int .i64)) ds fun x3 ds => popN ds (slices_ContainsFunc_____int___int_.f k x0 x1 x2 x3)
def slices_ContainsFunc_____int___int_.g : Nat → List Dat → Option (Bool × Int × (List (List Int)) × (List Int))
 | 0, _ => none
 | k + 1, ds => slices_ContainsFunc_____int___int_.c k ds
def slices_ContainsFunc_____int___int_.env (k : Nat) : Nat → List SV → List Chunk → KT (Bool × Int × (List (List Int)) × (List Int)) → Option (Bool × Int × (List (List Int)) × (List Int)) := (envC 144 2 slices_IndexFunc_____int___int_.ti slices_IndexFunc_____int___int_.to (fun ds K => pop (.slice (.slice (.int .i64))) ds fun x0 ds => pop (.int .i64) ds fun x1 ds => pop (.slice (.slice (.int .i64))) ds fun x2 ds => pop (.slice (.int .i64)) ds fun x3 ds => popN ds ((slices_IndexFunc_____int___int_.f k x0 x1 x2 x3).bind fun r => K (slices_IndexFunc_____int___int_.rs r))) env0)
def slices_ContainsFunc_____int___int_.tbl : List (Nat × Tm × (Nat → List Dat → Option (Bool × Int × (List (List Int)) × (List Int)))) := []
theorem slices_ContainsFunc_____int___int_.e (k : Nat) (x0 : (List (List Int))) (x1 : Int) (x2 : (List (List Int))) (x3 : (List Int)) : slices_ContainsFunc_____int___int_.f k x0 x1 x2 x3 = run T (slices_ContainsFunc_____int___int_.env k) Try.f92.ntmps (cutE 1 slices_ContainsFunc_____int___int_.tbl k) (finE 1 slices_ContainsFunc_____int___int_.to slices_ContainsFunc_____int___int_.out) (fnRes Try.f92) [] 100000 true ([.code slices_ContainsFunc_____int___int_.body]) (slices_ContainsFunc_____int___int_.ti.fill [⟨(.slice (.slice (.int .i64))), x0⟩, ⟨(.int .i64), x1⟩, ⟨(.slice (.slice (.int .i64))), x2⟩, ⟨(.slice (.int .i64)), x3⟩]) := by kernel_rfl
theorem slices_ContainsFunc_____int___int_.h (k : Nat) (ds : List Dat) (r : Bool × Int × (List (List Int)) × (List Int)) (h : slices_ContainsFunc_____int___int_.g k ds = some r) : ∃ k', k' < k ∧ run T (slices_ContainsFunc_____int___int_.env k') Try.f92.ntmps (cutE 1 slices_ContainsFunc_____int___int_.tbl k') (finE 1 slices_ContainsFunc_____int___int_.to slices_ContainsFunc_____int___int_.out) (fnRes Try.f92) [] 100000 true ([.code slices_ContainsFunc_____int___int_.body]) (slices_ContainsFunc_____int___int_.ti.fill ds) = some r := by
  cases k with
  | zero => cases (show none = some r from h)
  | succ k =>
  replace h : slices_ContainsFunc_____int___int_.c k ds = some r := h
  unfold slices_ContainsFunc_____int___int_.c at h
  obtain ⟨x0, d0, e0, h0⟩ := pop_some h; clear h; subst e0; have h := h0; clear h0
  obtain ⟨x1, d1, e1, h1⟩ := pop_some h; clear h; subst e1; have h := h1; clear h1
  obtain ⟨x2, d2, e2, h2⟩ := pop_some h; clear h; subst e2; have h := h2; clear h2
  obtain ⟨x3, d3, e3, h3⟩ := pop_some h; clear h; subst e3; have h := h3; clear h3
  obtain ⟨eN, hN⟩ := popN_some h; clear h; subst eN; have h := hN; clear hN
  exact ⟨k, Nat.lt_succ_self k, (slices_ContainsFunc_____int___int_.e k x0 x1 x2 x3).symm.trans h⟩
theorem slices_ContainsFunc_____int___int_.o (ds : List Dat) (r : Bool × Int × (List (List Int)) × (List Int)) (h : slices_ContainsFunc_____int___int_.out ds = some r) : ds = slices_ContainsFunc_____int___int_.rs r := by
  unfold slices_ContainsFunc_____int___int_.out at h
  obtain ⟨x0, d0, e0, h0⟩ := pop_some h; clear h; subst e0; have h := h0; clear h0
  obtain ⟨x1, d1, e1, h1⟩ := pop_some h; clear h; subst e1; have h := h1; clear h1
  obtain ⟨x2, d2, e2, h2⟩ := pop_some h; clear h; subst e2; have h := h2; clear h2
  obtain ⟨x3, d3, e3, h3⟩ := pop_some h; clear h; subst e3; have h := h3; clear h3
  obtain ⟨eN, hN⟩ := popN_some h; clear h; subst eN; have h := hN; clear hN
  cases h
  rfl
theorem slices_ContainsFunc_____int___int_.fn : FnOk Try.prog 92 Try.f92 slices_ContainsFunc_____int___int_.body Try.f92.ntmps 2 (fnRes Try.f92) :=
  fnOk_of (by kernel_rfl) (by kernel_rfl) (by kernel_rfl) (by kernel_rfl)
theorem slices_ContainsFunc_____int___int_.con' : ∀ k ds r, slices_ContainsFunc_____int___int_.g k ds = some r → Con Try.prog 92 2 slices_ContainsFunc_____int___int_.ti slices_ContainsFunc_____int___int_.to ds (slices_ContainsFunc_____int___int_.rs r) :=
  fun_ok (T := T) T_ok mixed slices_ContainsFunc_____int___int_.fn (env := slices_ContainsFunc_____int___int_.env) (tbl := slices_ContainsFunc_____int___int_.tbl) (gOut := slices_ContainsFunc_____int___int_.out) (nin := 1) (cuts := []) (fuel := 100000) rfl (by kernel_rfl) (by kernel_rfl) (by kernel_rfl) (fun x hx => by simp [slices_ContainsFunc_____int___int_.tbl] at hx) slices_ContainsFunc_____int___int_.o slices_ContainsFunc_____int___int_.h (fun k _ => by unfold slices_ContainsFunc_____int___int_.env; exact (envC_ok (fun ds K r h => by
    obtain ⟨x0, d0, e0, h0⟩ := pop_some h; clear h; subst e0; have h := h0; clear h0
    obtain ⟨x1, d1, e1, h1⟩ := pop_some h; clear h; subst e1; have h := h1; clear h1
    obtain ⟨x2, d2, e2, h2⟩ := pop_some h; clear h; subst e2; have h := h2; clear h2
    obtain ⟨x3, d3, e3, h3⟩ := pop_some h; clear h; subst e3; have h := h3; clear h3
    obtain ⟨eN, hN⟩ := popN_some h; clear h; subst eN; have h := hN; clear hN
    obtain ⟨r1, h1, h2⟩ := bind_some h
    exact ⟨_, h2, slices_IndexFunc_____int___int_.con k _ h1⟩) env0_ok))
theorem slices_ContainsFunc_____int___int_.con (k : Nat) {x0 : (List (List Int))} {x1 : Int} {x2 : (List (List Int))} {x3 : (List Int)} (r : Bool × Int × (List (List Int)) × (List Int)) (h : slices_ContainsFunc_____int___int_.f k x0 x1 x2 x3 = some r) : Con Try.prog 92 2 slices_ContainsFunc_____int___int_.ti slices_ContainsFunc_____int___int_.to [⟨(.slice (.slice (.int .i64))), x0⟩, ⟨(.int .i64), x1⟩, ⟨(.slice (.slice (.int .i64))), x2⟩, ⟨(.slice (.int .i64)), x3⟩] (slices_ContainsFunc_____int___int_.rs r) :=
  slices_ContainsFunc_____int___int_.con' (k + 1) _ r (by show slices_ContainsFunc_____int___int_.c k _ = some r; unfold slices_ContainsFunc_____int___int_.c; simp only [pop_self, popN]; exact h)
def seqs_Check_2.f (k : Nat) (b0 : Int) (x1_0 : Int) : Option (Bool × Int) :=
 if b0 < 0 then
  some (true, x1_0)
 else
  some (decide (x1_0 ≤ b0), x1_0)

noncomputable def seqs_Check_2.body : Code := fnBody Try.f133
def seqs_Check_2.ti : Tm := ⟨[(0, .p (.int .i64)), (1, .ptr 0 0)], [.box [.p (.int .i64)] 3]⟩
def seqs_Check_2.to : Tm := ⟨[(0, .p .bool)], [.box [.p (.int .i64)] 3]⟩
def seqs_Check_2.rs (r : Bool × Int) : List Dat := [⟨.bool, r.1⟩, ⟨(.int .i64), r.2⟩]
def seqs_Check_2.out (ds : List Dat) : Option (Bool × Int) := pop .bool ds fun x0 ds => pop (.int .i64) ds fun x1 ds => popN ds (some (x0, x1))
def seqs_Check_2.c (k : Nat) (ds : List Dat) : Option (Bool × Int) := pop (.int .i64) ds fun x0 ds => pop (.int .i64) ds fun x1 ds => popN ds (seqs_Check_2.f k x0 x1)
def seqs_Check_2.g : Nat → List Dat → Option (Bool × Int)
 | 0, _ => none
 | k + 1, ds => seqs_Check_2.c k ds
def seqs_Check_2.env (k : Nat) : Nat → List SV → List Chunk → KT (Bool × Int) → Option (Bool × Int) := env0
def seqs_Check_2.tbl : List (Nat × Tm × (Nat → List Dat → Option (Bool × Int))) := []
theorem seqs_Check_2.e (k : Nat) (x0 : Int) (x1 : Int) : seqs_Check_2.f k x0 x1 = run T (seqs_Check_2.env k) Try.f133.ntmps (cutE 1 seqs_Check_2.tbl k) (finE 1 seqs_Check_2.to seqs_Check_2.out) (fnRes Try.f133) [] 100000 true ([.code seqs_Check_2.body]) (seqs_Check_2.ti.fill [⟨(.int .i64), x0⟩, ⟨(.int .i64), x1⟩]) := by kernel_rfl
theorem seqs_Check_2.h (k : Nat) (ds : List Dat) (r : Bool × Int) (h : seqs_Check_2.g k ds = some r) : ∃ k', k' < k ∧ run T (seqs_Check_2.env k') Try.f133.ntmps (cutE 1 seqs_Check_2.tbl k') (finE 1 seqs_Check_2.to seqs_Check_2.out) (fnRes Try.f133) [] 100000 true ([.code seqs_Check_2.body]) (seqs_Check_2.ti.fill ds) = some r := by
  cases k with
  | zero => cases (show none = some r from h)
  | succ k =>
  replace h : seqs_Check_2.c k ds = some r := h
  unfold seqs_Check_2.c at h
  obtain ⟨x0, d0, e0, h0⟩ := pop_some h; clear h; subst e0; have h := h0; clear h0
  obtain ⟨x1, d1, e1, h1⟩ := pop_some h; clear h; subst e1; have h := h1; clear h1
  obtain ⟨eN, hN⟩ := popN_some h; clear h; subst eN; have h := hN; clear hN
  exact ⟨k, Nat.lt_succ_self k, (seqs_Check_2.e k x0 x1).symm.trans h⟩
theorem seqs_Check_2.o (ds : List Dat) (r : Bool × Int) (h : seqs_Check_2.out ds = some r) : ds = seqs_Check_2.rs r := by
  unfold seqs_Check_2.out at h
  obtain ⟨x0, d0, e0, h0⟩ := pop_some h; clear h; subst e0; have h := h0; clear h0
  obtain ⟨x1, d1, e1, h1⟩ := pop_some h; clear h; subst e1; have h := h1; clear h1
  obtain ⟨eN, hN⟩ := popN_some h; clear h; subst eN; have h := hN; clear hN
  cases h
  rfl
theorem seqs_Check_2.fn : FnOk Try.prog 133 Try.f133 seqs_Check_2.body Try.f133.ntmps 2 (fnRes Try.f133) :=
  fnOk_of (by kernel_rfl) (by kernel_rfl) (by kernel_rfl) (by kernel_rfl)
theorem seqs_Check_2.con' : ∀ k ds r, seqs_Check_2.g k ds = some r → Con Try.prog 133 2 seqs_Check_2.ti seqs_Check_2.to ds (seqs_Check_2.rs r) :=
  fun_ok (T := T) T_ok mixed seqs_Check_2.fn (env := seqs_Check_2.env) (tbl := seqs_Check_2.tbl) (gOut := seqs_Check_2.out) (nin := 1) (cuts := []) (fuel := 100000) rfl (by kernel_rfl) (by kernel_rfl) (by kernel_rfl) (fun x hx => by simp [seqs_Check_2.tbl] at hx) seqs_Check_2.o seqs_Check_2.h (fun k _ => by unfold seqs_Check_2.env; exact env0_ok)
theorem seqs_Check_2.con (k : Nat) {x0 : Int} {x1 : Int} (r : Bool × Int) (h : seqs_Check_2.f k x0 x1 = some r) : Con Try.prog 133 2 seqs_Check_2.ti seqs_Check_2.to [⟨(.int .i64), x0⟩, ⟨(.int .i64), x1⟩] (seqs_Check_2.rs r) :=
  seqs_Check_2.con' (k + 1) _ r (by show seqs_Check_2.c k _ = some r; unfold seqs_Check_2.c; simp only [pop_self, popN]; exact h)
mutual
def slices_IndexFunc___int_int_.l2 : Nat → List (Int) → Int → Int → Int → Option (Int × Int)
 | 0, _, _, _, _ => none
 | k + 1, s0, x7, x8, c0_0 =>
  if x8 < x7 then
   if 0 ≤ x8 then
   if x8 < (↑s0.length : Int) then
    (seqs_Check_2.f k (Go.Proofs.YtklkcdphcmimoaaSx.rd (Int.ofNat 0) s0 x8) c0_0).bind fun r5 =>
      if r5.fst = true then
       some (x8, r5.snd)
      else
       slices_IndexFunc___int_int_.l2 k s0 x7 (Go.IntKind.i64.wrap (x8 + 1)) r5.snd
    else none
   else none
  else
   some (-1, c0_0)
end
def slices_IndexFunc___int_int_.f (k : Nat) (s0 : List (Int)) (c0_0 : Int) : Option (Int × Int) :=
 slices_IndexFunc___int_int_.l2 k s0 ((↑s0.length : Int)) 0 c0_0

noncomputable def slices_IndexFunc___int_int_.body : Code := fnBody Try.f159
def slices_IndexFunc___int_int_.ti : Tm := ⟨[(0, .p (.slice (.int .i64))), (1, .fn 133 [.ptr 0 0])], [.box [.p (.int .i64)] 3]⟩
def slices_IndexFunc___int_int_.to : Tm := ⟨[(0, .p (.int .i64))], [.box [.p (.int .i64)] 3]⟩
def slices_IndexFunc___int_int_.rs (r : Int × Int) : List Dat := [⟨(.int .i64), r.1⟩, ⟨(.int .i64), r.2⟩]
def slices_IndexFunc___int_int_.out (ds : List Dat) : Option (Int × Int) := pop (.int .i64) ds fun x0 ds => pop (.int .i64) ds fun x1 ds => popN ds (some (x0, x1))
def slices_IndexFunc___int_int_.c (k : Nat) (ds : List Dat) : Option (Int × Int) := pop (.slice (.int .i64)) ds fun x0 ds => pop (.int .i64) ds fun x1 ds => popN ds (slices_IndexFunc___int_int_.f k x0 x1)
def slices_IndexFunc___int_int_.g : Nat → List Dat → Option (Int × Int)
 | 0, _ => none
 | k + 1, ds => slices_IndexFunc___int_int_.c k ds
def slices_IndexFunc___int_int_.env (k : Nat) : Nat → List SV → List Chunk → KT (Int × Int) → Option (Int × Int) := (envC 133 2 seqs_Check_2.ti seqs_Check_2.to (fun ds K => pop (.int .i64) ds fun x0 ds => pop (.int .i64) ds fun x1 ds => popN ds ((seqs_Check_2.f k x0 x1).bind fun r => K (seqs_Check_2.rs r))) env0)
def slices_IndexFunc___int_int_.t5 : Tm := ⟨[(0, .p (.slice (.int .i64))), (1, .fn 133 [.ptr 0 0]), (7, .p (.int .i64)), (8, .p (.int .i64))], [.box [.p (.int .i64)] 3]⟩
def slices_IndexFunc___int_int_.c5 (k : Nat) (ds : List Dat) : Option (Int × Int) := pop (.slice (.int .i64)) ds fun x0 ds => pop (.int .i64) ds fun x1 ds => pop (.int .i64) ds fun x2 ds => pop (.int .i64) ds fun x3 ds => popN ds (slices_IndexFunc___int_int_.l2 k x0 x1 x2 x3)
def slices_IndexFunc___int_int_.tbl : List (Nat × Tm × (Nat → List Dat → Option (Int × Int))) := [(5, slices_IndexFunc___int_int_.t5, slices_IndexFunc___int_int_.c5)]
theorem slices_IndexFunc___int_int_.e5 (k : Nat) (x0 : (List Int)) (x1 : Int) (x2 : Int) (x3 : Int) : slices_IndexFunc___int_int_.l2 (k + 1) x0 x1 x2 x3 = run T (slices_IndexFunc___int_int_.env k) Try.f159.ntmps (cutE 1 slices_IndexFunc___int_int_.tbl k) (finE 1 slices_IndexFunc___int_int_.to slices_IndexFunc___int_int_.out) (fnRes Try.f159) [] 100000 true (start (stackOf 5 slices_IndexFunc___int_int_.body)) (slices_IndexFunc___int_int_.t5.fill [⟨(.slice (.int .i64)), x0⟩, ⟨(.int .i64), x1⟩, ⟨(.int .i64), x2⟩, ⟨(.int .i64), x3⟩]) := by kernel_rfl
theorem slices_IndexFunc___int_int_.s5 : stackAt 5 slices_IndexFunc___int_int_.body [] = some (stackOf 5 slices_IndexFunc___int_int_.body) := by kernel_rfl
theorem slices_IndexFunc___int_int_.h5 (k : Nat) (ds : List Dat) (r : Int × Int) (h : slices_IndexFunc___int_int_.c5 k ds = some r) : ∃ k', k' < k ∧ ∃ s, stackAt 5 slices_IndexFunc___int_int_.body [] = some s ∧ run T (slices_IndexFunc___int_int_.env k') Try.f159.ntmps (cutE 1 slices_IndexFunc___int_int_.tbl k') (finE 1 slices_IndexFunc___int_int_.to slices_IndexFunc___int_int_.out) (fnRes Try.f159) [] 100000 true (start s) (slices_IndexFunc___int_int_.t5.fill ds) = some r := by
  unfold slices_IndexFunc___int_int_.c5 at h
  obtain ⟨x0, d0, e0, h0⟩ := pop_some h; clear h; subst e0; have h := h0; clear h0
  obtain ⟨x1, d1, e1, h1⟩ := pop_some h; clear h; subst e1; have h := h1; clear h1
  obtain ⟨x2, d2, e2, h2⟩ := pop_some h; clear h; subst e2; have h := h2; clear h2
  obtain ⟨x3, d3, e3, h3⟩ := pop_some h; clear h; subst e3; have h := h3; clear h3
  obtain ⟨eN, hN⟩ := popN_some h; clear h; subst eN; have h := hN; clear hN
  cases k with
  | zero => cases (show none = some r from h)
  | succ k => exact ⟨k, Nat.lt_succ_self k, _, slices_IndexFunc___int_int_.s5, (slices_IndexFunc___int_int_.e5 k x0 x1 x2 x3).symm.trans h⟩
theorem slices_IndexFunc___int_int_.e (k : Nat) (x0 : (List Int)) (x1 : Int) : slices_IndexFunc___int_int_.f k x0 x1 = run T (slices_IndexFunc___int_int_.env k) Try.f159.ntmps (cutE 1 slices_IndexFunc___int_int_.tbl k) (finE 1 slices_IndexFunc___int_int_.to slices_IndexFunc___int_int_.out) (fnRes Try.f159) [] 100000 true ([.code slices_IndexFunc___int_int_.body]) (slices_IndexFunc___int_int_.ti.fill [⟨(.slice (.int .i64)), x0⟩, ⟨(.int .i64), x1⟩]) := by kernel_rfl
theorem slices_IndexFunc___int_int_.h (k : Nat) (ds : List Dat) (r : Int × Int) (h : slices_IndexFunc___int_int_.g k ds = some r) : ∃ k', k' < k ∧ run T (slices_IndexFunc___int_int_.env k') Try.f159.ntmps (cutE 1 slices_IndexFunc___int_int_.tbl k') (finE 1 slices_IndexFunc___int_int_.to slices_IndexFunc___int_int_.out) (fnRes Try.f159) [] 100000 true ([.code slices_IndexFunc___int_int_.body]) (slices_IndexFunc___int_int_.ti.fill ds) = some r := by
  cases k with
  | zero => cases (show none = some r from h)
  | succ k =>
  replace h : slices_IndexFunc___int_int_.c k ds = some r := h
  unfold slices_IndexFunc___int_int_.c at h
  obtain ⟨x0, d0, e0, h0⟩ := pop_some h; clear h; subst e0; have h := h0; clear h0
  obtain ⟨x1, d1, e1, h1⟩ := pop_some h; clear h; subst e1; have h := h1; clear h1
  obtain ⟨eN, hN⟩ := popN_some h; clear h; subst eN; have h := hN; clear hN
  exact ⟨k, Nat.lt_succ_self k, (slices_IndexFunc___int_int_.e k x0 x1).symm.trans h⟩
theorem slices_IndexFunc___int_int_.o (ds : List Dat) (r : Int × Int) (h : slices_IndexFunc___int_int_.out ds = some r) : ds = slices_IndexFunc___int_int_.rs r := by
  unfold slices_IndexFunc___int_int_.out at h
  obtain ⟨x0, d0, e0, h0⟩ := pop_some h; clear h; subst e0; have h := h0; clear h0
  obtain ⟨x1, d1, e1, h1⟩ := pop_some h; clear h; subst e1; have h := h1; clear h1
  obtain ⟨eN, hN⟩ := popN_some h; clear h; subst eN; have h := hN; clear hN
  cases h
  rfl
theorem slices_IndexFunc___int_int_.fn : FnOk Try.prog 159 Try.f159 slices_IndexFunc___int_int_.body Try.f159.ntmps 2 (fnRes Try.f159) :=
  fnOk_of (by kernel_rfl) (by kernel_rfl) (by kernel_rfl) (by kernel_rfl)
theorem slices_IndexFunc___int_int_.con' : ∀ k ds r, slices_IndexFunc___int_int_.g k ds = some r → Con Try.prog 159 2 slices_IndexFunc___int_int_.ti slices_IndexFunc___int_int_.to ds (slices_IndexFunc___int_int_.rs r) :=
  fun_ok (T := T) T_ok mixed slices_IndexFunc___int_int_.fn (env := slices_IndexFunc___int_int_.env) (tbl := slices_IndexFunc___int_int_.tbl) (gOut := slices_IndexFunc___int_int_.out) (nin := 1) (cuts := []) (fuel := 100000) rfl (by kernel_rfl) (by kernel_rfl) (by kernel_rfl) (fun x hx => by
    simp only [slices_IndexFunc___int_int_.tbl, List.mem_cons, List.not_mem_nil, or_false] at hx
    subst hx
    · exact slices_IndexFunc___int_int_.h5
) slices_IndexFunc___int_int_.o slices_IndexFunc___int_int_.h (fun k _ => by unfold slices_IndexFunc___int_int_.env; exact (envC_ok (fun ds K r h => by
    obtain ⟨x0, d0, e0, h0⟩ := pop_some h; clear h; subst e0; have h := h0; clear h0
    obtain ⟨x1, d1, e1, h1⟩ := pop_some h; clear h; subst e1; have h := h1; clear h1
    obtain ⟨eN, hN⟩ := popN_some h; clear h; subst eN; have h := hN; clear hN
    obtain ⟨r1, h1, h2⟩ := bind_some h
    exact ⟨_, h2, seqs_Check_2.con k _ h1⟩) env0_ok))
theorem slices_IndexFunc___int_int_.con (k : Nat) {x0 : (List Int)} {x1 : Int} (r : Int × Int) (h : slices_IndexFunc___int_int_.f k x0 x1 = some r) : Con Try.prog 159 2 slices_IndexFunc___int_int_.ti slices_IndexFunc___int_int_.to [⟨(.slice (.int .i64)), x0⟩, ⟨(.int .i64), x1⟩] (slices_IndexFunc___int_int_.rs r) :=
  slices_IndexFunc___int_int_.con' (k + 1) _ r (by show slices_IndexFunc___int_int_.c k _ = some r; unfold slices_IndexFunc___int_int_.c; simp only [pop_self, popN]; exact h)
def slices_ContainsFunc___int_int_.f (k : Nat) (s0 : List (Int)) (c0_0 : Int) : Option (Bool × Int) :=
 (slices_IndexFunc___int_int_.f k s0 c0_0).bind fun r1 =>
  some (decide (0 ≤ r1.fst), r1.snd)

noncomputable def slices_ContainsFunc___int_int_.body : Code := fnBody Try.f115
def slices_ContainsFunc___int_int_.ti : Tm := ⟨[(0, .p (.slice (.int .i64))), (1, .fn 133 [.ptr 0 0])], [.box [.p (.int .i64)] 3]⟩
def slices_ContainsFunc___int_int_.to : Tm := ⟨[(0, .p .bool)], [.box [.p (.int .i64)] 3]⟩
def slices_ContainsFunc___int_int_.rs (r : Bool × Int) : List Dat := [⟨.bool, r.1⟩, ⟨(.int .i64), r.2⟩]
def slices_ContainsFunc___int_int_.out (ds : List Dat) : Option (Bool × Int) := pop .bool ds fun x0 ds => pop (.int .i64) ds fun x1 ds => popN ds (some (x0, x1))
def slices_ContainsFunc___int_int_.c (k : Nat) (ds : List Dat) : Option (Bool × Int) := pop (.slice (.int .i64)) ds fun x0 ds => pop (.int .i64) ds fun x1 ds => popN ds (slices_ContainsFunc___int_int_.f k x0 x1)
def slices_ContainsFunc___int_int_.g : Nat → List Dat → Option (Bool × Int)
 | 0, _ => none
 | k + 1, ds => slices_ContainsFunc___int_int_.c k ds
def slices_ContainsFunc___int_int_.env (k : Nat) : Nat → List SV → List Chunk → KT (Bool × Int) → Option (Bool × Int) := (envC 159 2 slices_IndexFunc___int_int_.ti slices_IndexFunc___int_int_.to (fun ds K => pop (.slice (.int .i64)) ds fun x0 ds => pop (.int .i64) ds fun x1 ds => popN ds ((slices_IndexFunc___int_int_.f k x0 x1).bind fun r => K (slices_IndexFunc___int_int_.rs r))) env0)
def slices_ContainsFunc___int_int_.tbl : List (Nat × Tm × (Nat → List Dat → Option (Bool × Int))) := []
theorem slices_ContainsFunc___int_int_.e (k : Nat) (x0 : (List Int)) (x1 : Int) : slices_ContainsFunc___int_int_.f k x0 x1 = run T (slices_ContainsFunc___int_int_.env k) Try.f115.ntmps (cutE 1 slices_ContainsFunc___int_int_.tbl k) (finE 1 slices_ContainsFunc___int_int_.to slices_ContainsFunc___int_int_.out) (fnRes Try.f115) [] 100000 true ([.code slices_ContainsFunc___int_int_.body]) (slices_ContainsFunc___int_int_.ti.fill [⟨(.slice (.int .i64)), x0⟩, ⟨(.int .i64), x1⟩]) := by kernel_rfl
theorem slices_ContainsFunc___int_int_.h (k : Nat) (ds : List Dat) (r : Bool × Int) (h : slices_ContainsFunc___int_int_.g k ds = some r) : ∃ k', k' < k ∧ run T (slices_ContainsFunc___int_int_.env k') Try.f115.ntmps (cutE 1 slices_ContainsFunc___int_int_.tbl k') (finE 1 slices_ContainsFunc___int_int_.to slices_ContainsFunc___int_int_.out) (fnRes Try.f115) [] 100000 true ([.code slices_ContainsFunc___int_int_.body]) (slices_ContainsFunc___int_int_.ti.fill ds) = some r := by
  cases k with
  | zero => cases (show none = some r from h)
  | succ k =>
  replace h : slices_ContainsFunc___int_int_.c k ds = some r := h
  unfold slices_ContainsFunc___int_int_.c at h
  obtain ⟨x0, d0, e0, h0⟩ := pop_some h; clear h; subst e0; have h := h0; clear h0
  obtain ⟨x1, d1, e1, h1⟩ := pop_some h; clear h; subst e1; have h := h1; clear h1
  obtain ⟨eN, hN⟩ := popN_some h; clear h; subst eN; have h := hN; clear hN
  exact ⟨k, Nat.lt_succ_self k, (slices_ContainsFunc___int_int_.e k x0 x1).symm.trans h⟩
theorem slices_ContainsFunc___int_int_.o (ds : List Dat) (r : Bool × Int) (h : slices_ContainsFunc___int_int_.out ds = some r) : ds = slices_ContainsFunc___int_int_.rs r := by
  unfold slices_ContainsFunc___int_int_.out at h
  obtain ⟨x0, d0, e0, h0⟩ := pop_some h; clear h; subst e0; have h := h0; clear h0
  obtain ⟨x1, d1, e1, h1⟩ := pop_some h; clear h; subst e1; have h := h1; clear h1
  obtain ⟨eN, hN⟩ := popN_some h; clear h; subst eN; have h := hN; clear hN
  cases h
  rfl
theorem slices_ContainsFunc___int_int_.fn : FnOk Try.prog 115 Try.f115 slices_ContainsFunc___int_int_.body Try.f115.ntmps 2 (fnRes Try.f115) :=
  fnOk_of (by kernel_rfl) (by kernel_rfl) (by kernel_rfl) (by kernel_rfl)
theorem slices_ContainsFunc___int_int_.con' : ∀ k ds r, slices_ContainsFunc___int_int_.g k ds = some r → Con Try.prog 115 2 slices_ContainsFunc___int_int_.ti slices_ContainsFunc___int_int_.to ds (slices_ContainsFunc___int_int_.rs r) :=
  fun_ok (T := T) T_ok mixed slices_ContainsFunc___int_int_.fn (env := slices_ContainsFunc___int_int_.env) (tbl := slices_ContainsFunc___int_int_.tbl) (gOut := slices_ContainsFunc___int_int_.out) (nin := 1) (cuts := []) (fuel := 100000) rfl (by kernel_rfl) (by kernel_rfl) (by kernel_rfl) (fun x hx => by simp [slices_ContainsFunc___int_int_.tbl] at hx) slices_ContainsFunc___int_int_.o slices_ContainsFunc___int_int_.h (fun k _ => by unfold slices_ContainsFunc___int_int_.env; exact (envC_ok (fun ds K r h => by
    obtain ⟨x0, d0, e0, h0⟩ := pop_some h; clear h; subst e0; have h := h0; clear h0
    obtain ⟨x1, d1, e1, h1⟩ := pop_some h; clear h; subst e1; have h := h1; clear h1
    obtain ⟨eN, hN⟩ := popN_some h; clear h; subst eN; have h := hN; clear hN
    obtain ⟨r1, h1, h2⟩ := bind_some h
    exact ⟨_, h2, slices_IndexFunc___int_int_.con k _ h1⟩) env0_ok))
theorem slices_ContainsFunc___int_int_.con (k : Nat) {x0 : (List Int)} {x1 : Int} (r : Bool × Int) (h : slices_ContainsFunc___int_int_.f k x0 x1 = some r) : Con Try.prog 115 2 slices_ContainsFunc___int_int_.ti slices_ContainsFunc___int_int_.to [⟨(.slice (.int .i64)), x0⟩, ⟨(.int .i64), x1⟩] (slices_ContainsFunc___int_int_.rs r) :=
  slices_ContainsFunc___int_int_.con' (k + 1) _ r (by show slices_ContainsFunc___int_int_.c k _ = some r; unfold slices_ContainsFunc___int_int_.c; simp only [pop_self, popN]; exact h)
mutual
def seqs_Check.l9 : Nat → List (List (Int)) → Int → Int → Int → List (List (Int)) → List (Int) → Int → Option (Int)
 | 0, _, _, _, _, _, _, _ => none
 | k + 1, x35, x36, x37, m1_0, m1_1, m1_2, n3_0 =>
  if x37 < x36 then
   if 0 ≤ x37 then
   if x37 < (↑x35.length : Int) then
    (slices_ContainsFunc___int_int_.f k (Go.Proofs.YtklkcdphcmimoaaSx.rd [] x35 x37) n3_0).bind fun r5 =>
      if r5.fst = true then
       some (2)
      else
       if 0 ≤ x37 then
       if x37 < (↑m1_2.length : Int) then
        if Go.Proofs.YtklkcdphcmimoaaSx.rd (Int.ofNat 0) m1_2 x37 < 0 then
          some (2)
         else
          if 0 ≤ x37 then
          if x37 < (↑m1_2.length : Int) then
           if 9 < Go.Proofs.YtklkcdphcmimoaaSx.rd (Int.ofNat 0) m1_2 x37 then
             some (2)
            else
             seqs_Check.l9 k x35 x36 (Go.IntKind.i64.wrap (x37 + 1)) m1_0 m1_1 m1_2 r5.snd
           else none
          else none
        else none
       else none
    else none
   else none
  else
   if 0 ≤ 0 then
   if 0 < (↑m1_1.length : Int) then
    if 0 ≤ 0 then
     if 0 < (↑(Go.Proofs.YtklkcdphcmimoaaSx.rd [] m1_1 0).length : Int) then
      if Go.Proofs.YtklkcdphcmimoaaSx.rd (Int.ofNat 0) (Go.Proofs.YtklkcdphcmimoaaSx.rd [] m1_1 0) 0 = 0 then
        some (0)
       else
        some (3)
      else none
     else none
    else none
   else none
end
def seqs_Check.f (k : Nat) (m0 : (Int × (List (List (Int)) × (List (Int) × Unit)))) : Option (Int) :=
 if m0.fst < 2 then
  some (2)
 else
  if 4 < m0.fst then
   some (2)
  else
   if (↑m0.snd.fst.length : Int) < 1 then
    some (1)
   else
    if 4 < (↑m0.snd.fst.length : Int) then
     some (1)
    else
     if (↑m0.snd.snd.fst.length : Int) = (↑m0.snd.fst.length : Int) then
      (slices_ContainsFunc_____int___int_.f k m0.snd.fst m0.fst m0.snd.fst m0.snd.snd.fst).bind fun r6 =>
       if r6.fst = true then
        some (3)
       else
        seqs_Check.l9 k r6.snd.snd.fst ((↑r6.snd.snd.fst.length : Int)) 0 r6.snd.fst r6.snd.snd.fst r6.snd.snd.snd ((↑m0.snd.fst.length : Int))
     else
      some (3)

noncomputable def seqs_Check.body : Code := fnBody Try.f73
def seqs_Check.ti : Tm := ⟨[(0, .p (.pair (.int .i64) (.pair (.slice (.slice (.int .i64))) (.pair (.slice (.int .i64)) .unit))))], []⟩
def seqs_Check.to : Tm := ⟨[(0, .p (.int .i64))], []⟩
def seqs_Check.rs (r : Int) : List Dat := [⟨(.int .i64), r⟩]
def seqs_Check.out (ds : List Dat) : Option (Int) := pop (.int .i64) ds fun x0 ds => popN ds (some (x0))
def seqs_Check.c (k : Nat) (ds : List Dat) : Option (Int) := pop (.pair (.int .i64) (.pair (.slice (.slice (.int .i64))) (.pair (.slice (.int .i64)) .unit))) ds fun x0 ds => popN ds (seqs_Check.f k x0)
def seqs_Check.g : Nat → List Dat → Option (Int)
 | 0, _ => none
 | k + 1, ds => seqs_Check.c k ds
def seqs_Check.env (k : Nat) : Nat → List SV → List Chunk → KT (Int) → Option (Int) := (envC 115 2 slices_ContainsFunc___int_int_.ti slices_ContainsFunc___int_int_.to (fun ds K => pop (.slice (.int .i64)) ds fun x0 ds => pop (.int .i64) ds fun x1 ds => popN ds ((slices_ContainsFunc___int_int_.f k x0 x1).bind fun r => K (slices_ContainsFunc___int_int_.rs r))) (envC 92 2 slices_ContainsFunc_____int___int_.ti slices_ContainsFunc_____int___int_.to (fun ds K => pop (.slice (.slice (.int .i64))) ds fun x0 ds => pop (.int .i64) ds fun x1 ds => pop (.slice (.slice (.int .i64))) ds fun x2 ds => pop (.slice (.int .i64)) ds fun x3 ds => popN ds ((slices_ContainsFunc_____int___int_.f k x0 x1 x2 x3).bind fun r => K (slices_ContainsFunc_____int___int_.rs r))) env0))
def seqs_Check.t19 : Tm := ⟨[(1, .ptr 0 0), (3, .ptr 1 0), (35, .p (.slice (.slice (.int .i64)))), (36, .p (.int .i64)), (37, .p (.int .i64))], [.box [.p (.int .i64), .p (.slice (.slice (.int .i64))), .p (.slice (.int .i64))] 34, .box [.p (.int .i64)] 3]⟩
def seqs_Check.c19 (k : Nat) (ds : List Dat) : Option (Int) := pop (.slice (.slice (.int .i64))) ds fun x0 ds => pop (.int .i64) ds fun x1 ds => pop (.int .i64) ds fun x2 ds => pop (.int .i64) ds fun x3 ds => pop (.slice (.slice (.int .i64))) ds fun x4 ds => pop (.slice (.int .i64)) ds fun x5 ds => pop (.int .i64) ds fun x6 ds => popN ds (seqs_Check.l9 k x0 x1 x2 x3 x4 x5 x6)
def seqs_Check.tbl : List (Nat × Tm × (Nat → List Dat → Option (Int))) := [(19, seqs_Check.t19, seqs_Check.c19)]
theorem seqs_Check.e19 (k : Nat) (x0 : (List (List Int))) (x1 : Int) (x2 : Int) (x3 : Int) (x4 : (List (List Int))) (x5 : (List Int)) (x6 : Int) : seqs_Check.l9 (k + 1) x0 x1 x2 x3 x4 x5 x6 = run T (seqs_Check.env k) Try.f73.ntmps (cutE 0 seqs_Check.tbl k) (finE 0 seqs_Check.to seqs_Check.out) (fnRes Try.f73) [] 100000 true (start (stackOf 19 seqs_Check.body)) (seqs_Check.t19.fill [⟨(.slice (.slice (.int .i64))), x0⟩, ⟨(.int .i64), x1⟩, ⟨(.int .i64), x2⟩, ⟨(.int .i64), x3⟩, ⟨(.slice (.slice (.int .i64))), x4⟩, ⟨(.slice (.int .i64)), x5⟩, ⟨(.int .i64), x6⟩]) := by kernel_rfl
theorem seqs_Check.s19 : stackAt 19 seqs_Check.body [] = some (stackOf 19 seqs_Check.body) := by kernel_rfl
theorem seqs_Check.h19 (k : Nat) (ds : List Dat) (r : Int) (h : seqs_Check.c19 k ds = some r) : ∃ k', k' < k ∧ ∃ s, stackAt 19 seqs_Check.body [] = some s ∧ run T (seqs_Check.env k') Try.f73.ntmps (cutE 0 seqs_Check.tbl k') (finE 0 seqs_Check.to seqs_Check.out) (fnRes Try.f73) [] 100000 true (start s) (seqs_Check.t19.fill ds) = some r := by
  unfold seqs_Check.c19 at h
  obtain ⟨x0, d0, e0, h0⟩ := pop_some h; clear h; subst e0; have h := h0; clear h0
  obtain ⟨x1, d1, e1, h1⟩ := pop_some h; clear h; subst e1; have h := h1; clear h1
  obtain ⟨x2, d2, e2, h2⟩ := pop_some h; clear h; subst e2; have h := h2; clear h2
  obtain ⟨x3, d3, e3, h3⟩ := pop_some h; clear h; subst e3; have h := h3; clear h3
  obtain ⟨x4, d4, e4, h4⟩ := pop_some h; clear h; subst e4; have h := h4; clear h4
  obtain ⟨x5, d5, e5, h5⟩ := pop_some h; clear h; subst e5; have h := h5; clear h5
  obtain ⟨x6, d6, e6, h6⟩ := pop_some h; clear h; subst e6; have h := h6; clear h6
  obtain ⟨eN, hN⟩ := popN_some h; clear h; subst eN; have h := hN; clear hN
  cases k with
  | zero => cases (show none = some r from h)
  | succ k => exact ⟨k, Nat.lt_succ_self k, _, seqs_Check.s19, (seqs_Check.e19 k x0 x1 x2 x3 x4 x5 x6).symm.trans h⟩
theorem seqs_Check.e (k : Nat) (x0 : (Int × ((List (List Int)) × ((List Int) × Unit)))) : seqs_Check.f k x0 = run T (seqs_Check.env k) Try.f73.ntmps (cutE 0 seqs_Check.tbl k) (finE 0 seqs_Check.to seqs_Check.out) (fnRes Try.f73) [] 100000 true ([.code seqs_Check.body]) (seqs_Check.ti.fill [⟨(.pair (.int .i64) (.pair (.slice (.slice (.int .i64))) (.pair (.slice (.int .i64)) .unit))), x0⟩]) := by kernel_rfl
theorem seqs_Check.h (k : Nat) (ds : List Dat) (r : Int) (h : seqs_Check.g k ds = some r) : ∃ k', k' < k ∧ run T (seqs_Check.env k') Try.f73.ntmps (cutE 0 seqs_Check.tbl k') (finE 0 seqs_Check.to seqs_Check.out) (fnRes Try.f73) [] 100000 true ([.code seqs_Check.body]) (seqs_Check.ti.fill ds) = some r := by
  cases k with
  | zero => cases (show none = some r from h)
  | succ k =>
  replace h : seqs_Check.c k ds = some r := h
  unfold seqs_Check.c at h
  obtain ⟨x0, d0, e0, h0⟩ := pop_some h; clear h; subst e0; have h := h0; clear h0
  obtain ⟨eN, hN⟩ := popN_some h; clear h; subst eN; have h := hN; clear hN
  exact ⟨k, Nat.lt_succ_self k, (seqs_Check.e k x0).symm.trans h⟩
theorem seqs_Check.o (ds : List Dat) (r : Int) (h : seqs_Check.out ds = some r) : ds = seqs_Check.rs r := by
  unfold seqs_Check.out at h
  obtain ⟨x0, d0, e0, h0⟩ := pop_some h; clear h; subst e0; have h := h0; clear h0
  obtain ⟨eN, hN⟩ := popN_some h; clear h; subst eN; have h := hN; clear hN
  cases h
  rfl
theorem seqs_Check.fn : FnOk Try.prog 73 Try.f73 seqs_Check.body Try.f73.ntmps 1 (fnRes Try.f73) :=
  fnOk_of (by kernel_rfl) (by kernel_rfl) (by kernel_rfl) (by kernel_rfl)
theorem seqs_Check.con' : ∀ k ds r, seqs_Check.g k ds = some r → Con Try.prog 73 1 seqs_Check.ti seqs_Check.to ds (seqs_Check.rs r) :=
  fun_ok (T := T) T_ok mixed seqs_Check.fn (env := seqs_Check.env) (tbl := seqs_Check.tbl) (gOut := seqs_Check.out) (nin := 0) (cuts := []) (fuel := 100000) rfl (by kernel_rfl) (by kernel_rfl) (by kernel_rfl) (fun x hx => by
    simp only [seqs_Check.tbl, List.mem_cons, List.not_mem_nil, or_false] at hx
    subst hx
    · exact seqs_Check.h19
) seqs_Check.o seqs_Check.h (fun k _ => by unfold seqs_Check.env; exact (envC_ok (fun ds K r h => by
    obtain ⟨x0, d0, e0, h0⟩ := pop_some h; clear h; subst e0; have h := h0; clear h0
    obtain ⟨x1, d1, e1, h1⟩ := pop_some h; clear h; subst e1; have h := h1; clear h1
    obtain ⟨eN, hN⟩ := popN_some h; clear h; subst eN; have h := hN; clear hN
    obtain ⟨r1, h1, h2⟩ := bind_some h
    exact ⟨_, h2, slices_ContainsFunc___int_int_.con k _ h1⟩) (envC_ok (fun ds K r h => by
    obtain ⟨x0, d0, e0, h0⟩ := pop_some h; clear h; subst e0; have h := h0; clear h0
    obtain ⟨x1, d1, e1, h1⟩ := pop_some h; clear h; subst e1; have h := h1; clear h1
    obtain ⟨x2, d2, e2, h2⟩ := pop_some h; clear h; subst e2; have h := h2; clear h2
    obtain ⟨x3, d3, e3, h3⟩ := pop_some h; clear h; subst e3; have h := h3; clear h3
    obtain ⟨eN, hN⟩ := popN_some h; clear h; subst eN; have h := hN; clear hN
    obtain ⟨r1, h1, h2⟩ := bind_some h
    exact ⟨_, h2, slices_ContainsFunc_____int___int_.con k _ h1⟩) env0_ok)))
theorem seqs_Check.con (k : Nat) {x0 : (Int × ((List (List Int)) × ((List Int) × Unit)))} (r : Int) (h : seqs_Check.f k x0 = some r) : Con Try.prog 73 1 seqs_Check.ti seqs_Check.to [⟨(.pair (.int .i64) (.pair (.slice (.slice (.int .i64))) (.pair (.slice (.int .i64)) .unit))), x0⟩] (seqs_Check.rs r) :=
  seqs_Check.con' (k + 1) _ r (by show seqs_Check.c k _ = some r; unfold seqs_Check.c; simp only [pop_self, popN]; exact h)
mutual
def slices_Index___int_int_.l2 : Nat → List (Int) → Int → Int → Int → Option (Int)
 | 0, _, _, _, _ => none
 | k + 1, s0, v1, x7, x8 =>
  if x8 < x7 then
   if 0 ≤ x8 then
   if x8 < (↑s0.length : Int) then
    if v1 = Go.Proofs.YtklkcdphcmimoaaSx.rd (Int.ofNat 0) s0 x8 then
      some (x8)
     else
      slices_Index___int_int_.l2 k s0 v1 x7 (Go.IntKind.i64.wrap (x8 + 1))
    else none
   else none
  else
   some (-1)
end
def slices_Index___int_int_.f (k : Nat) (s0 : List (Int)) (v1 : Int) : Option (Int) :=
 slices_Index___int_int_.l2 k s0 v1 ((↑s0.length : Int)) 0

noncomputable def slices_Index___int_int_.body : Code := fnBody Try.f176
def slices_Index___int_int_.ti : Tm := ⟨[(0, .p (.slice (.int .i64))), (1, .p (.int .i64))], []⟩
def slices_Index___int_int_.to : Tm := ⟨[(0, .p (.int .i64))], []⟩
def slices_Index___int_int_.rs (r : Int) : List Dat := [⟨(.int .i64), r⟩]
def slices_Index___int_int_.out (ds : List Dat) : Option (Int) := pop (.int .i64) ds fun x0 ds => popN ds (some (x0))
def slices_Index___int_int_.c (k : Nat) (ds : List Dat) : Option (Int) := pop (.slice (.int .i64)) ds fun x0 ds => pop (.int .i64) ds fun x1 ds => popN ds (slices_Index___int_int_.f k x0 x1)
def slices_Index___int_int_.g : Nat → List Dat → Option (Int)
 | 0, _ => none
 | k + 1, ds => slices_Index___int_int_.c k ds
def slices_Index___int_int_.env (k : Nat) : Nat → List SV → List Chunk → KT (Int) → Option (Int) := env0
def slices_Index___int_int_.t5 : Tm := ⟨[(0, .p (.slice (.int .i64))), (1, .p (.int .i64)), (7, .p (.int .i64)), (8, .p (.int .i64))], []⟩
def slices_Index___int_int_.c5 (k : Nat) (ds : List Dat) : Option (Int) := pop (.slice (.int .i64)) ds fun x0 ds => pop (.int .i64) ds fun x1 ds => pop (.int .i64) ds fun x2 ds => pop (.int .i64) ds fun x3 ds => popN ds (slices_Index___int_int_.l2 k x0 x1 x2 x3)
def slices_Index___int_int_.tbl : List (Nat × Tm × (Nat → List Dat → Option (Int))) := [(5, slices_Index___int_int_.t5, slices_Index___int_int_.c5)]
theorem slices_Index___int_int_.e5 (k : Nat) (x0 : (List Int)) (x1 : Int) (x2 : Int) (x3 : Int) : slices_Index___int_int_.l2 (k + 1) x0 x1 x2 x3 = run T (slices_Index___int_int_.env k) Try.f176.ntmps (cutE 0 slices_Index___int_int_.tbl k) (finE 0 slices_Index___int_int_.to slices_Index___int_int_.out) (fnRes Try.f176) [] 100000 true (start (stackOf 5 slices_Index___int_int_.body)) (slices_Index___int_int_.t5.fill [⟨(.slice (.int .i64)), x0⟩, ⟨(.int .i64), x1⟩, ⟨(.int .i64), x2⟩, ⟨(.int .i64), x3⟩]) := by kernel_rfl
theorem slices_Index___int_int_.s5 : stackAt 5 slices_Index___int_int_.body [] = some (stackOf 5 slices_Index___int_int_.body) := by kernel_rfl
theorem slices_Index___int_int_.h5 (k : Nat) (ds : List Dat) (r : Int) (h : slices_Index___int_int_.c5 k ds = some r) : ∃ k', k' < k ∧ ∃ s, stackAt 5 slices_Index___int_int_.body [] = some s ∧ run T (slices_Index___int_int_.env k') Try.f176.ntmps (cutE 0 slices_Index___int_int_.tbl k') (finE 0 slices_Index___int_int_.to slices_Index___int_int_.out) (fnRes Try.f176) [] 100000 true (start s) (slices_Index___int_int_.t5.fill ds) = some r := by
  unfold slices_Index___int_int_.c5 at h
  obtain ⟨x0, d0, e0, h0⟩ := pop_some h; clear h; subst e0; have h := h0; clear h0
  obtain ⟨x1, d1, e1, h1⟩ := pop_some h; clear h; subst e1; have h := h1; clear h1
  obtain ⟨x2, d2, e2, h2⟩ := pop_some h; clear h; subst e2; have h := h2; clear h2
  obtain ⟨x3, d3, e3, h3⟩ := pop_some h; clear h; subst e3; have h := h3; clear h3
  obtain ⟨eN, hN⟩ := popN_some h; clear h; subst eN; have h := hN; clear hN
  cases k with
  | zero => cases (show none = some r from h)
  | succ k => exact ⟨k, Nat.lt_succ_self k, _, slices_Index___int_int_.s5, (slices_Index___int_int_.e5 k x0 x1 x2 x3).symm.trans h⟩
theorem slices_Index___int_int_.e (k : Nat) (x0 : (List Int)) (x1 : Int) : slices_Index___int_int_.f k x0 x1 = run T (slices_Index___int_int_.env k) Try.f176.ntmps (cutE 0 slices_Index___int_int_.tbl k) (finE 0 slices_Index___int_int_.to slices_Index___int_int_.out) (fnRes Try.f176) [] 100000 true ([.code slices_Index___int_int_.body]) (slices_Index___int_int_.ti.fill [⟨(.slice (.int .i64)), x0⟩, ⟨(.int .i64), x1⟩]) := by kernel_rfl
theorem slices_Index___int_int_.h (k : Nat) (ds : List Dat) (r : Int) (h : slices_Index___int_int_.g k ds = some r) : ∃ k', k' < k ∧ run T (slices_Index___int_int_.env k') Try.f176.ntmps (cutE 0 slices_Index___int_int_.tbl k') (finE 0 slices_Index___int_int_.to slices_Index___int_int_.out) (fnRes Try.f176) [] 100000 true ([.code slices_Index___int_int_.body]) (slices_Index___int_int_.ti.fill ds) = some r := by
  cases k with
  | zero => cases (show none = some r from h)
  | succ k =>
  replace h : slices_Index___int_int_.c k ds = some r := h
  unfold slices_Index___int_int_.c at h
  obtain ⟨x0, d0, e0, h0⟩ := pop_some h; clear h; subst e0; have h := h0; clear h0
  obtain ⟨x1, d1, e1, h1⟩ := pop_some h; clear h; subst e1; have h := h1; clear h1
  obtain ⟨eN, hN⟩ := popN_some h; clear h; subst eN; have h := hN; clear hN
  exact ⟨k, Nat.lt_succ_self k, (slices_Index___int_int_.e k x0 x1).symm.trans h⟩
theorem slices_Index___int_int_.o (ds : List Dat) (r : Int) (h : slices_Index___int_int_.out ds = some r) : ds = slices_Index___int_int_.rs r := by
  unfold slices_Index___int_int_.out at h
  obtain ⟨x0, d0, e0, h0⟩ := pop_some h; clear h; subst e0; have h := h0; clear h0
  obtain ⟨eN, hN⟩ := popN_some h; clear h; subst eN; have h := hN; clear hN
  cases h
  rfl
theorem slices_Index___int_int_.fn : FnOk Try.prog 176 Try.f176 slices_Index___int_int_.body Try.f176.ntmps 2 (fnRes Try.f176) :=
  fnOk_of (by kernel_rfl) (by kernel_rfl) (by kernel_rfl) (by kernel_rfl)
theorem slices_Index___int_int_.con' : ∀ k ds r, slices_Index___int_int_.g k ds = some r → Con Try.prog 176 2 slices_Index___int_int_.ti slices_Index___int_int_.to ds (slices_Index___int_int_.rs r) :=
  fun_ok (T := T) T_ok mixed slices_Index___int_int_.fn (env := slices_Index___int_int_.env) (tbl := slices_Index___int_int_.tbl) (gOut := slices_Index___int_int_.out) (nin := 0) (cuts := []) (fuel := 100000) rfl (by kernel_rfl) (by kernel_rfl) (by kernel_rfl) (fun x hx => by
    simp only [slices_Index___int_int_.tbl, List.mem_cons, List.not_mem_nil, or_false] at hx
    subst hx
    · exact slices_Index___int_int_.h5
) slices_Index___int_int_.o slices_Index___int_int_.h (fun k _ => by unfold slices_Index___int_int_.env; exact env0_ok)
theorem slices_Index___int_int_.con (k : Nat) {x0 : (List Int)} {x1 : Int} (r : Int) (h : slices_Index___int_int_.f k x0 x1 = some r) : Con Try.prog 176 2 slices_Index___int_int_.ti slices_Index___int_int_.to [⟨(.slice (.int .i64)), x0⟩, ⟨(.int .i64), x1⟩] (slices_Index___int_int_.rs r) :=
  slices_Index___int_int_.con' (k + 1) _ r (by show slices_Index___int_int_.c k _ = some r; unfold slices_Index___int_int_.c; simp only [pop_self, popN]; exact h)
def slices_Contains___int_int_.f (k : Nat) (s0 : List (Int)) (v1 : Int) : Option (Bool) :=
 (slices_Index___int_int_.f k s0 v1).bind fun r1 =>
  some (decide (0 ≤ r1))

noncomputable def slices_Contains___int_int_.body : Code := fnBody Try.f134
def slices_Contains___int_int_.ti : Tm := ⟨[(0, .p (.slice (.int .i64))), (1, .p (.int .i64))], []⟩
def slices_Contains___int_int_.to : Tm := ⟨[(0, .p .bool)], []⟩
def slices_Contains___int_int_.rs (r : Bool) : List Dat := [⟨.bool, r⟩]
def slices_Contains___int_int_.out (ds : List Dat) : Option (Bool) := pop .bool ds fun x0 ds => popN ds (some (x0))
def slices_Contains___int_int_.c (k : Nat) (ds : List Dat) : Option (Bool) := pop (.slice (.int .i64)) ds fun x0 ds => pop (.int .i64) ds fun x1 ds => popN ds (slices_Contains___int_int_.f k x0 x1)
def slices_Contains___int_int_.g : Nat → List Dat → Option (Bool)
 | 0, _ => none
 | k + 1, ds => slices_Contains___int_int_.c k ds
def slices_Contains___int_int_.env (k : Nat) : Nat → List SV → List Chunk → KT (Bool) → Option (Bool) := (envC 176 2 slices_Index___int_int_.ti slices_Index___int_int_.to (fun ds K => pop (.slice (.int .i64)) ds fun x0 ds => pop (.int .i64) ds fun x1 ds => popN ds ((slices_Index___int_int_.f k x0 x1).bind fun r => K (slices_Index___int_int_.rs r))) env0)
def slices_Contains___int_int_.tbl : List (Nat × Tm × (Nat → List Dat → Option (Bool))) := []
theorem slices_Contains___int_int_.e (k : Nat) (x0 : (List Int)) (x1 : Int) : slices_Contains___int_int_.f k x0 x1 = run T (slices_Contains___int_int_.env k) Try.f134.ntmps (cutE 0 slices_Contains___int_int_.tbl k) (finE 0 slices_Contains___int_int_.to slices_Contains___int_int_.out) (fnRes Try.f134) [] 100000 true ([.code slices_Contains___int_int_.body]) (slices_Contains___int_int_.ti.fill [⟨(.slice (.int .i64)), x0⟩, ⟨(.int .i64), x1⟩]) := by kernel_rfl
theorem slices_Contains___int_int_.h (k : Nat) (ds : List Dat) (r : Bool) (h : slices_Contains___int_int_.g k ds = some r) : ∃ k', k' < k ∧ run T (slices_Contains___int_int_.env k') Try.f134.ntmps (cutE 0 slices_Contains___int_int_.tbl k') (finE 0 slices_Contains___int_int_.to slices_Contains___int_int_.out) (fnRes Try.f134) [] 100000 true ([.code slices_Contains___int_int_.body]) (slices_Contains___int_int_.ti.fill ds) = some r := by
  cases k with
  | zero => cases (show none = some r from h)
  | succ k =>
  replace h : slices_Contains___int_int_.c k ds = some r := h
  unfold slices_Contains___int_int_.c at h
  obtain ⟨x0, d0, e0, h0⟩ := pop_some h; clear h; subst e0; have h := h0; clear h0
  obtain ⟨x1, d1, e1, h1⟩ := pop_some h; clear h; subst e1; have h := h1; clear h1
  obtain ⟨eN, hN⟩ := popN_some h; clear h; subst eN; have h := hN; clear hN
  exact ⟨k, Nat.lt_succ_self k, (slices_Contains___int_int_.e k x0 x1).symm.trans h⟩
theorem slices_Contains___int_int_.o (ds : List Dat) (r : Bool) (h : slices_Contains___int_int_.out ds = some r) : ds = slices_Contains___int_int_.rs r := by
  unfold slices_Contains___int_int_.out at h
  obtain ⟨x0, d0, e0, h0⟩ := pop_some h; clear h; subst e0; have h := h0; clear h0
  obtain ⟨eN, hN⟩ := popN_some h; clear h; subst eN; have h := hN; clear hN
  cases h
  rfl
theorem slices_Contains___int_int_.fn : FnOk Try.prog 134 Try.f134 slices_Contains___int_int_.body Try.f134.ntmps 2 (fnRes Try.f134) :=
  fnOk_of (by kernel_rfl) (by kernel_rfl) (by kernel_rfl) (by kernel_rfl)
theorem slices_Contains___int_int_.con' : ∀ k ds r, slices_Contains___int_int_.g k ds = some r → Con Try.prog 134 2 slices_Contains___int_int_.ti slices_Contains___int_int_.to ds (slices_Contains___int_int_.rs r) :=
  fun_ok (T := T) T_ok mixed slices_Contains___int_int_.fn (env := slices_Contains___int_int_.env) (tbl := slices_Contains___int_int_.tbl) (gOut := slices_Contains___int_int_.out) (nin := 0) (cuts := []) (fuel := 100000) rfl (by kernel_rfl) (by kernel_rfl) (by kernel_rfl) (fun x hx => by simp [slices_Contains___int_int_.tbl] at hx) slices_Contains___int_int_.o slices_Contains___int_int_.h (fun k _ => by unfold slices_Contains___int_int_.env; exact (envC_ok (fun ds K r h => by
    obtain ⟨x0, d0, e0, h0⟩ := pop_some h; clear h; subst e0; have h := h0; clear h0
    obtain ⟨x1, d1, e1, h1⟩ := pop_some h; clear h; subst e1; have h := h1; clear h1
    obtain ⟨eN, hN⟩ := popN_some h; clear h; subst eN; have h := hN; clear hN
    obtain ⟨r1, h1, h2⟩ := bind_some h
    exact ⟨_, h2, slices_Index___int_int_.con k _ h1⟩) env0_ok))
theorem slices_Contains___int_int_.con (k : Nat) {x0 : (List Int)} {x1 : Int} (r : Bool) (h : slices_Contains___int_int_.f k x0 x1 = some r) : Con Try.prog 134 2 slices_Contains___int_int_.ti slices_Contains___int_int_.to [⟨(.slice (.int .i64)), x0⟩, ⟨(.int .i64), x1⟩] (slices_Contains___int_int_.rs r) :=
  slices_Contains___int_int_.con' (k + 1) _ r (by show slices_Contains___int_int_.c k _ = some r; unfold slices_Contains___int_int_.c; simp only [pop_self, popN]; exact h)
mutual
def seqs_met.l3 : Nat → Int → Int → List (List (Int)) → List (Int) → List (Int) → Option (List Int)
 | 0, _, _, _, _, _ => none
 | k + 1, i4, m1_0, m1_1, m1_2, l3 =>
  if i4 < (↑l3.length : Int) then
   if 0 ≤ i4 then
   if i4 < (↑l3.length : Int) then
    if 0 ≤ l3.getD i4.toNat (Int.ofNat 0) then
     if l3.getD i4.toNat (Int.ofNat 0) < (↑m1_1.length : Int) then
      seqs_met.l6 k i4 (Go.Proofs.YtklkcdphcmimoaaSx.rd [] m1_1 (l3.getD i4.toNat (Int.ofNat 0))) ((↑(Go.Proofs.YtklkcdphcmimoaaSx.rd [] m1_1 (l3.getD i4.toNat (Int.ofNat 0))).length : Int)) 0 m1_0 m1_1 m1_2 l3
      else none
     else none
    else none
   else none
  else
   some (l3)
def seqs_met.l6 : Nat → Int → List (Int) → Int → Int → Int → List (List (Int)) → List (Int) → List (Int) → Option (List Int)
 | 0, _, _, _, _, _, _, _, _ => none
 | k + 1, i4, x21, x22, x23, m1_0, m1_1, m1_2, l3 =>
  if x23 < x22 then
   if 0 ≤ x23 then
   if x23 < (↑x21.length : Int) then
    (slices_Contains___int_int_.f k l3 (Go.Proofs.YtklkcdphcmimoaaSx.rd (Int.ofNat 0) x21 x23)).bind fun r5 =>
      if r5 = true then
       seqs_met.j10 k i4 x21 x22 x23 m1_0 m1_1 m1_2 l3
      else
       if (l3 ++ [Go.Proofs.YtklkcdphcmimoaaSx.rd (Int.ofNat 0) x21 x23]).length.blt 1000000000 = true then
       seqs_met.j10 k i4 x21 x22 x23 m1_0 m1_1 m1_2 (l3 ++ [Go.Proofs.YtklkcdphcmimoaaSx.rd (Int.ofNat 0) x21 x23])
       else none
    else none
   else none
  else
   seqs_met.l3 k (Go.IntKind.i64.wrap (i4 + 1)) m1_0 m1_1 m1_2 l3
def seqs_met.j10 : Nat → Int → List (Int) → Int → Int → Int → List (List (Int)) → List (Int) → List (Int) → Option (List Int)
 | 0, _, _, _, _, _, _, _, _ => none
 | k + 1, i4, x21, x22, x23, m1_0, m1_1, m1_2, l3 =>
  seqs_met.l6 k i4 x21 x22 (Go.IntKind.i64.wrap (x23 + 1)) m1_0 m1_1 m1_2 l3
end
def seqs_met.f (k : Nat) (m0 : (Int × (List (List (Int)) × (List (Int) × Unit)))) : Option (List Int) :=
 seqs_met.l3 k 0 m0.fst m0.snd.fst m0.snd.snd.fst ([Int.ofNat 0])

noncomputable def seqs_met.body : Code := fnBody Try.f74
def seqs_met.ti : Tm := ⟨[(0, .p (.pair (.int .i64) (.pair (.slice (.slice (.int .i64))) (.pair (.slice (.int .i64)) .unit))))], []⟩
def seqs_met.to : Tm := ⟨[(0, .own 0)], [.own (.int .i64)]⟩
def seqs_met.rs (r : (List Int)) : List Dat := [⟨(.slice (.int .i64)), r⟩]
def seqs_met.out (ds : List Dat) : Option ((List Int)) := pop (.slice (.int .i64)) ds fun x0 ds => popN ds (some (x0))
def seqs_met.c (k : Nat) (ds : List Dat) : Option ((List Int)) := pop (.pair (.int .i64) (.pair (.slice (.slice (.int .i64))) (.pair (.slice (.int .i64)) .unit))) ds fun x0 ds => popN ds (seqs_met.f k x0)
def seqs_met.g : Nat → List Dat → Option ((List Int))
 | 0, _ => none
 | k + 1, ds => seqs_met.c k ds
def seqs_met.env (k : Nat) : Nat → List SV → List Chunk → KT ((List Int)) → Option ((List Int)) := (envC 134 2 slices_Contains___int_int_.ti slices_Contains___int_int_.to (fun ds K => pop (.slice (.int .i64)) ds fun x0 ds => pop (.int .i64) ds fun x1 ds => popN ds ((slices_Contains___int_int_.f k x0 x1).bind fun r => K (slices_Contains___int_int_.rs r))) env0)
def seqs_met.t7 : Tm := ⟨[(1, .ptr 0 0), (3, .own 1), (4, .p (.int .i64))], [.box [.p (.int .i64), .p (.slice (.slice (.int .i64))), .p (.slice (.int .i64))] 34, .own (.int .i64)]⟩
def seqs_met.c7 (k : Nat) (ds : List Dat) : Option ((List Int)) := pop (.int .i64) ds fun x0 ds => pop (.int .i64) ds fun x1 ds => pop (.slice (.slice (.int .i64))) ds fun x2 ds => pop (.slice (.int .i64)) ds fun x3 ds => pop (.slice (.int .i64)) ds fun x4 ds => popN ds (seqs_met.l3 k x0 x1 x2 x3 x4)
def seqs_met.t13 : Tm := ⟨[(1, .ptr 0 0), (3, .own 1), (4, .p (.int .i64)), (21, .p (.slice (.int .i64))), (22, .p (.int .i64)), (23, .p (.int .i64))], [.box [.p (.int .i64), .p (.slice (.slice (.int .i64))), .p (.slice (.int .i64))] 34, .own (.int .i64)]⟩
def seqs_met.c13 (k : Nat) (ds : List Dat) : Option ((List Int)) := pop (.int .i64) ds fun x0 ds => pop (.slice (.int .i64)) ds fun x1 ds => pop (.int .i64) ds fun x2 ds => pop (.int .i64) ds fun x3 ds => pop (.int .i64) ds fun x4 ds => pop (.slice (.slice (.int .i64))) ds fun x5 ds => pop (.slice (.int .i64)) ds fun x6 ds => pop (.slice (.int .i64)) ds fun x7 ds => popN ds (seqs_met.l6 k x0 x1 x2 x3 x4 x5 x6 x7)
def seqs_met.t20 : Tm := ⟨[(1, .ptr 0 0), (3, .own 1), (4, .p (.int .i64)), (21, .p (.slice (.int .i64))), (22, .p (.int .i64)), (23, .p (.int .i64))], [.box [.p (.int .i64), .p (.slice (.slice (.int .i64))), .p (.slice (.int .i64))] 34, .own (.int .i64)]⟩
def seqs_met.c20 (k : Nat) (ds : List Dat) : Option ((List Int)) := pop (.int .i64) ds fun x0 ds => pop (.slice (.int .i64)) ds fun x1 ds => pop (.int .i64) ds fun x2 ds => pop (.int .i64) ds fun x3 ds => pop (.int .i64) ds fun x4 ds => pop (.slice (.slice (.int .i64))) ds fun x5 ds => pop (.slice (.int .i64)) ds fun x6 ds => pop (.slice (.int .i64)) ds fun x7 ds => popN ds (seqs_met.j10 k x0 x1 x2 x3 x4 x5 x6 x7)
def seqs_met.tbl : List (Nat × Tm × (Nat → List Dat → Option ((List Int)))) := [(7, seqs_met.t7, seqs_met.c7), (13, seqs_met.t13, seqs_met.c13), (20, seqs_met.t20, seqs_met.c20)]
theorem seqs_met.e7 (k : Nat) (x0 : Int) (x1 : Int) (x2 : (List (List Int))) (x3 : (List Int)) (x4 : (List Int)) : seqs_met.l3 (k + 1) x0 x1 x2 x3 x4 = run T (seqs_met.env k) Try.f74.ntmps (cutE 0 seqs_met.tbl k) (finE 0 seqs_met.to seqs_met.out) (fnRes Try.f74) [10] 100000 true (start (stackOf 7 seqs_met.body)) (seqs_met.t7.fill [⟨(.int .i64), x0⟩, ⟨(.int .i64), x1⟩, ⟨(.slice (.slice (.int .i64))), x2⟩, ⟨(.slice (.int .i64)), x3⟩, ⟨(.slice (.int .i64)), x4⟩]) := by kernel_rfl
theorem seqs_met.s7 : stackAt 7 seqs_met.body [] = some (stackOf 7 seqs_met.body) := by kernel_rfl
theorem seqs_met.h7 (k : Nat) (ds : List Dat) (r : (List Int)) (h : seqs_met.c7 k ds = some r) : ∃ k', k' < k ∧ ∃ s, stackAt 7 seqs_met.body [] = some s ∧ run T (seqs_met.env k') Try.f74.ntmps (cutE 0 seqs_met.tbl k') (finE 0 seqs_met.to seqs_met.out) (fnRes Try.f74) [10] 100000 true (start s) (seqs_met.t7.fill ds) = some r := by
  unfold seqs_met.c7 at h
  obtain ⟨x0, d0, e0, h0⟩ := pop_some h; clear h; subst e0; have h := h0; clear h0
  obtain ⟨x1, d1, e1, h1⟩ := pop_some h; clear h; subst e1; have h := h1; clear h1
  obtain ⟨x2, d2, e2, h2⟩ := pop_some h; clear h; subst e2; have h := h2; clear h2
  obtain ⟨x3, d3, e3, h3⟩ := pop_some h; clear h; subst e3; have h := h3; clear h3
  obtain ⟨x4, d4, e4, h4⟩ := pop_some h; clear h; subst e4; have h := h4; clear h4
  obtain ⟨eN, hN⟩ := popN_some h; clear h; subst eN; have h := hN; clear hN
  cases k with
  | zero => cases (show none = some r from h)
  | succ k => exact ⟨k, Nat.lt_succ_self k, _, seqs_met.s7, (seqs_met.e7 k x0 x1 x2 x3 x4).symm.trans h⟩
theorem seqs_met.e13 (k : Nat) (x0 : Int) (x1 : (List Int)) (x2 : Int) (x3 : Int) (x4 : Int) (x5 : (List (List Int))) (x6 : (List Int)) (x7 : (List Int)) : seqs_met.l6 (k + 1) x0 x1 x2 x3 x4 x5 x6 x7 = run T (seqs_met.env k) Try.f74.ntmps (cutE 0 seqs_met.tbl k) (finE 0 seqs_met.to seqs_met.out) (fnRes Try.f74) [10] 100000 true (start (stackOf 13 seqs_met.body)) (seqs_met.t13.fill [⟨(.int .i64), x0⟩, ⟨(.slice (.int .i64)), x1⟩, ⟨(.int .i64), x2⟩, ⟨(.int .i64), x3⟩, ⟨(.int .i64), x4⟩, ⟨(.slice (.slice (.int .i64))), x5⟩, ⟨(.slice (.int .i64)), x6⟩, ⟨(.slice (.int .i64)), x7⟩]) := by kernel_rfl
theorem seqs_met.s13 : stackAt 13 seqs_met.body [] = some (stackOf 13 seqs_met.body) := by kernel_rfl
theorem seqs_met.h13 (k : Nat) (ds : List Dat) (r : (List Int)) (h : seqs_met.c13 k ds = some r) : ∃ k', k' < k ∧ ∃ s, stackAt 13 seqs_met.body [] = some s ∧ run T (seqs_met.env k') Try.f74.ntmps (cutE 0 seqs_met.tbl k') (finE 0 seqs_met.to seqs_met.out) (fnRes Try.f74) [10] 100000 true (start s) (seqs_met.t13.fill ds) = some r := by
  unfold seqs_met.c13 at h
  obtain ⟨x0, d0, e0, h0⟩ := pop_some h; clear h; subst e0; have h := h0; clear h0
  obtain ⟨x1, d1, e1, h1⟩ := pop_some h; clear h; subst e1; have h := h1; clear h1
  obtain ⟨x2, d2, e2, h2⟩ := pop_some h; clear h; subst e2; have h := h2; clear h2
  obtain ⟨x3, d3, e3, h3⟩ := pop_some h; clear h; subst e3; have h := h3; clear h3
  obtain ⟨x4, d4, e4, h4⟩ := pop_some h; clear h; subst e4; have h := h4; clear h4
  obtain ⟨x5, d5, e5, h5⟩ := pop_some h; clear h; subst e5; have h := h5; clear h5
  obtain ⟨x6, d6, e6, h6⟩ := pop_some h; clear h; subst e6; have h := h6; clear h6
  obtain ⟨x7, d7, e7, h7⟩ := pop_some h; clear h; subst e7; have h := h7; clear h7
  obtain ⟨eN, hN⟩ := popN_some h; clear h; subst eN; have h := hN; clear hN
  cases k with
  | zero => cases (show none = some r from h)
  | succ k => exact ⟨k, Nat.lt_succ_self k, _, seqs_met.s13, (seqs_met.e13 k x0 x1 x2 x3 x4 x5 x6 x7).symm.trans h⟩
theorem seqs_met.e20 (k : Nat) (x0 : Int) (x1 : (List Int)) (x2 : Int) (x3 : Int) (x4 : Int) (x5 : (List (List Int))) (x6 : (List Int)) (x7 : (List Int)) : seqs_met.j10 (k + 1) x0 x1 x2 x3 x4 x5 x6 x7 = run T (seqs_met.env k) Try.f74.ntmps (cutE 0 seqs_met.tbl k) (finE 0 seqs_met.to seqs_met.out) (fnRes Try.f74) [10] 100000 true (start (stackOf 20 seqs_met.body)) (seqs_met.t20.fill [⟨(.int .i64), x0⟩, ⟨(.slice (.int .i64)), x1⟩, ⟨(.int .i64), x2⟩, ⟨(.int .i64), x3⟩, ⟨(.int .i64), x4⟩, ⟨(.slice (.slice (.int .i64))), x5⟩, ⟨(.slice (.int .i64)), x6⟩, ⟨(.slice (.int .i64)), x7⟩]) := by kernel_rfl
theorem seqs_met.s20 : stackAt 20 seqs_met.body [] = some (stackOf 20 seqs_met.body) := by kernel_rfl
theorem seqs_met.h20 (k : Nat) (ds : List Dat) (r : (List Int)) (h : seqs_met.c20 k ds = some r) : ∃ k', k' < k ∧ ∃ s, stackAt 20 seqs_met.body [] = some s ∧ run T (seqs_met.env k') Try.f74.ntmps (cutE 0 seqs_met.tbl k') (finE 0 seqs_met.to seqs_met.out) (fnRes Try.f74) [10] 100000 true (start s) (seqs_met.t20.fill ds) = some r := by
  unfold seqs_met.c20 at h
  obtain ⟨x0, d0, e0, h0⟩ := pop_some h; clear h; subst e0; have h := h0; clear h0
  obtain ⟨x1, d1, e1, h1⟩ := pop_some h; clear h; subst e1; have h := h1; clear h1
  obtain ⟨x2, d2, e2, h2⟩ := pop_some h; clear h; subst e2; have h := h2; clear h2
  obtain ⟨x3, d3, e3, h3⟩ := pop_some h; clear h; subst e3; have h := h3; clear h3
  obtain ⟨x4, d4, e4, h4⟩ := pop_some h; clear h; subst e4; have h := h4; clear h4
  obtain ⟨x5, d5, e5, h5⟩ := pop_some h; clear h; subst e5; have h := h5; clear h5
  obtain ⟨x6, d6, e6, h6⟩ := pop_some h; clear h; subst e6; have h := h6; clear h6
  obtain ⟨x7, d7, e7, h7⟩ := pop_some h; clear h; subst e7; have h := h7; clear h7
  obtain ⟨eN, hN⟩ := popN_some h; clear h; subst eN; have h := hN; clear hN
  cases k with
  | zero => cases (show none = some r from h)
  | succ k => exact ⟨k, Nat.lt_succ_self k, _, seqs_met.s20, (seqs_met.e20 k x0 x1 x2 x3 x4 x5 x6 x7).symm.trans h⟩
theorem seqs_met.e (k : Nat) (x0 : (Int × ((List (List Int)) × ((List Int) × Unit)))) : seqs_met.f k x0 = run T (seqs_met.env k) Try.f74.ntmps (cutE 0 seqs_met.tbl k) (finE 0 seqs_met.to seqs_met.out) (fnRes Try.f74) [10] 100000 true ([.code seqs_met.body]) (seqs_met.ti.fill [⟨(.pair (.int .i64) (.pair (.slice (.slice (.int .i64))) (.pair (.slice (.int .i64)) .unit))), x0⟩]) := by kernel_rfl
theorem seqs_met.h (k : Nat) (ds : List Dat) (r : (List Int)) (h : seqs_met.g k ds = some r) : ∃ k', k' < k ∧ run T (seqs_met.env k') Try.f74.ntmps (cutE 0 seqs_met.tbl k') (finE 0 seqs_met.to seqs_met.out) (fnRes Try.f74) [10] 100000 true ([.code seqs_met.body]) (seqs_met.ti.fill ds) = some r := by
  cases k with
  | zero => cases (show none = some r from h)
  | succ k =>
  replace h : seqs_met.c k ds = some r := h
  unfold seqs_met.c at h
  obtain ⟨x0, d0, e0, h0⟩ := pop_some h; clear h; subst e0; have h := h0; clear h0
  obtain ⟨eN, hN⟩ := popN_some h; clear h; subst eN; have h := hN; clear hN
  exact ⟨k, Nat.lt_succ_self k, (seqs_met.e k x0).symm.trans h⟩
theorem seqs_met.o (ds : List Dat) (r : (List Int)) (h : seqs_met.out ds = some r) : ds = seqs_met.rs r := by
  unfold seqs_met.out at h
  obtain ⟨x0, d0, e0, h0⟩ := pop_some h; clear h; subst e0; have h := h0; clear h0
  obtain ⟨eN, hN⟩ := popN_some h; clear h; subst eN; have h := hN; clear hN
  cases h
  rfl
theorem seqs_met.fn : FnOk Try.prog 74 Try.f74 seqs_met.body Try.f74.ntmps 1 (fnRes Try.f74) :=
  fnOk_of (by kernel_rfl) (by kernel_rfl) (by kernel_rfl) (by kernel_rfl)
theorem seqs_met.con' : ∀ k ds r, seqs_met.g k ds = some r → Con Try.prog 74 1 seqs_met.ti seqs_met.to ds (seqs_met.rs r) :=
  fun_ok (T := T) T_ok mixed seqs_met.fn (env := seqs_met.env) (tbl := seqs_met.tbl) (gOut := seqs_met.out) (nin := 0) (cuts := [10]) (fuel := 100000) rfl (by kernel_rfl) (by kernel_rfl) (by kernel_rfl) (fun x hx => by
    simp only [seqs_met.tbl, List.mem_cons, List.not_mem_nil, or_false] at hx
    rcases hx with rfl | rfl | rfl
    · exact seqs_met.h7
    · exact seqs_met.h13
    · exact seqs_met.h20
) seqs_met.o seqs_met.h (fun k _ => by unfold seqs_met.env; exact (envC_ok (fun ds K r h => by
    obtain ⟨x0, d0, e0, h0⟩ := pop_some h; clear h; subst e0; have h := h0; clear h0
    obtain ⟨x1, d1, e1, h1⟩ := pop_some h; clear h; subst e1; have h := h1; clear h1
    obtain ⟨eN, hN⟩ := popN_some h; clear h; subst eN; have h := hN; clear hN
    obtain ⟨r1, h1, h2⟩ := bind_some h
    exact ⟨_, h2, slices_Contains___int_int_.con k _ h1⟩) env0_ok))
theorem seqs_met.con (k : Nat) {x0 : (Int × ((List (List Int)) × ((List Int) × Unit)))} (r : (List Int)) (h : seqs_met.f k x0 = some r) : Con Try.prog 74 1 seqs_met.ti seqs_met.to [⟨(.pair (.int .i64) (.pair (.slice (.slice (.int .i64))) (.pair (.slice (.int .i64)) .unit))), x0⟩] (seqs_met.rs r) :=
  seqs_met.con' (k + 1) _ r (by show seqs_met.c k _ = some r; unfold seqs_met.c; simp only [pop_self, popN]; exact h)
def slices_Clone___int_int_.f (k : Nat) (x0 : List (Int)) : Option (List (Int)) := if Short x0.length then some x0 else none
def slices_Clone___int_int_.ti : Tm := cloneIn (.int .i64)
def slices_Clone___int_int_.to : Tm := cloneOut (.int .i64)
def slices_Clone___int_int_.rs (r : List Int) : List Dat := [⟨.slice (.int .i64), r⟩]
theorem slices_Clone___int_int_.fn : FnOk Try.prog 68 Try.f68 (fnBody Try.f68) Try.f68.ntmps 1 (fnRes Try.f68) :=
  fnOk_of (by kernel_rfl) (by kernel_rfl) (by kernel_rfl) (by kernel_rfl)
theorem slices_Clone___int_int_.con (k : Nat) {x0 : List Int} (r : List Int) (h : slices_Clone___int_int_.f k x0 = some r) : Con Try.prog 68 1 slices_Clone___int_int_.ti slices_Clone___int_int_.to [⟨.slice (.int .i64), x0⟩] (slices_Clone___int_int_.rs r) := by
  unfold slices_Clone___int_int_.f at h
  split at h
  · rename_i hs
    cases h
    exact clone_con (u := (.int .i64)) (t := 32) (t' := 32) (k := restOf (stackOf 2 (fnBody Try.f68))) (ops := opsAt 1 (fnBody Try.f68)) (o1 := opAt 0 (opsAt 1 (fnBody Try.f68))) (o2 := opAt 1 (opsAt 1 (fnBody Try.f68))) T_ok mixed slices_Clone___int_int_.fn (by kernel_rfl) ⟨by kernel_rfl, by kernel_rfl, by kernel_rfl, by kernel_rfl, by kernel_rfl, by kernel_rfl, by kernel_rfl, ⟨3, by kernel_rfl⟩⟩ (Nat.le_of_ble_eq_true (by kernel_rfl)) (by kernel_rfl) (by kernel_rfl) (fun L => by kernel_rfl) (by kernel_rfl) (fun L => by kernel_rfl) x0 hs
  · cases h
mutual
def det_Key.l3 : Nat → List (Int) → Int → Int → List (Int) → Option (ByteArray)
 | 0, _, _, _, _ => none
 | k + 1, x6, x7, x8, b3 =>
  if x8 < x7 then
   if 0 ≤ x8 then
   if x8 < (↑x6.length : Int) then
    if 0 ≤ 8 then
     if (b3 ++ [Go.IntKind.u8.wrap (Go.Proofs.YtklkcdphcmimoaaSx.rd (Int.ofNat 0) x6 x8), Go.IntKind.u8.wrap ((Go.Proofs.YtklkcdphcmimoaaSx.rd (Int.ofNat 0) x6 x8).fdiv (2 ^ min (Int.toNat 8) Go.IntKind.i64.bits))]).length.blt 1000000000 = true then
      det_Key.l3 k x6 x7 (Go.IntKind.i64.wrap (x8 + 1)) (b3 ++ [Go.IntKind.u8.wrap (Go.Proofs.YtklkcdphcmimoaaSx.rd (Int.ofNat 0) x6 x8), Go.IntKind.u8.wrap ((Go.Proofs.YtklkcdphcmimoaaSx.rd (Int.ofNat 0) x6 x8).fdiv (2 ^ min (Int.toNat 8) Go.IntKind.i64.bits))])
      else none
     else none
    else none
   else none
  else
   some (Go.Proofs.YtklkcdphcmimoaaSx.strOf b3)
end
def det_Key.f (k : Nat) (l0 : List (Int)) : Option (ByteArray) :=
 det_Key.l3 k l0 ((↑l0.length : Int)) 0 []

noncomputable def det_Key.body : Code := fnBody Try.f76
def det_Key.ti : Tm := ⟨[(0, .p (.slice (.int .i64)))], []⟩
def det_Key.to : Tm := ⟨[(0, .p .str)], []⟩
def det_Key.rs (r : ByteArray) : List Dat := [⟨.str, r⟩]
def det_Key.out (ds : List Dat) : Option (ByteArray) := pop .str ds fun x0 ds => popN ds (some (x0))
def det_Key.c (k : Nat) (ds : List Dat) : Option (ByteArray) := pop (.slice (.int .i64)) ds fun x0 ds => popN ds (det_Key.f k x0)
def det_Key.g : Nat → List Dat → Option (ByteArray)
 | 0, _ => none
 | k + 1, ds => det_Key.c k ds
def det_Key.env (k : Nat) : Nat → List SV → List Chunk → KT (ByteArray) → Option (ByteArray) := env0
def det_Key.t7 : Tm := ⟨[(3, .own 0), (6, .p (.slice (.int .i64))), (7, .p (.int .i64)), (8, .p (.int .i64))], [.own (.int .u8)]⟩
def det_Key.c7 (k : Nat) (ds : List Dat) : Option (ByteArray) := pop (.slice (.int .i64)) ds fun x0 ds => pop (.int .i64) ds fun x1 ds => pop (.int .i64) ds fun x2 ds => pop (.slice (.int .u8)) ds fun x3 ds => popN ds (det_Key.l3 k x0 x1 x2 x3)
def det_Key.tbl : List (Nat × Tm × (Nat → List Dat → Option (ByteArray))) := [(7, det_Key.t7, det_Key.c7)]
theorem det_Key.e7 (k : Nat) (x0 : (List Int)) (x1 : Int) (x2 : Int) (x3 : (List Int)) : det_Key.l3 (k + 1) x0 x1 x2 x3 = run T (det_Key.env k) Try.f76.ntmps (cutE 0 det_Key.tbl k) (finE 0 det_Key.to det_Key.out) (fnRes Try.f76) [] 100000 true (start (stackOf 7 det_Key.body)) (det_Key.t7.fill [⟨(.slice (.int .i64)), x0⟩, ⟨(.int .i64), x1⟩, ⟨(.int .i64), x2⟩, ⟨(.slice (.int .u8)), x3⟩]) := by kernel_rfl
theorem det_Key.s7 : stackAt 7 det_Key.body [] = some (stackOf 7 det_Key.body) := by kernel_rfl
theorem det_Key.h7 (k : Nat) (ds : List Dat) (r : ByteArray) (h : det_Key.c7 k ds = some r) : ∃ k', k' < k ∧ ∃ s, stackAt 7 det_Key.body [] = some s ∧ run T (det_Key.env k') Try.f76.ntmps (cutE 0 det_Key.tbl k') (finE 0 det_Key.to det_Key.out) (fnRes Try.f76) [] 100000 true (start s) (det_Key.t7.fill ds) = some r := by
  unfold det_Key.c7 at h
  obtain ⟨x0, d0, e0, h0⟩ := pop_some h; clear h; subst e0; have h := h0; clear h0
  obtain ⟨x1, d1, e1, h1⟩ := pop_some h; clear h; subst e1; have h := h1; clear h1
  obtain ⟨x2, d2, e2, h2⟩ := pop_some h; clear h; subst e2; have h := h2; clear h2
  obtain ⟨x3, d3, e3, h3⟩ := pop_some h; clear h; subst e3; have h := h3; clear h3
  obtain ⟨eN, hN⟩ := popN_some h; clear h; subst eN; have h := hN; clear hN
  cases k with
  | zero => cases (show none = some r from h)
  | succ k => exact ⟨k, Nat.lt_succ_self k, _, det_Key.s7, (det_Key.e7 k x0 x1 x2 x3).symm.trans h⟩
theorem det_Key.e (k : Nat) (x0 : (List Int)) : det_Key.f k x0 = run T (det_Key.env k) Try.f76.ntmps (cutE 0 det_Key.tbl k) (finE 0 det_Key.to det_Key.out) (fnRes Try.f76) [] 100000 true ([.code det_Key.body]) (det_Key.ti.fill [⟨(.slice (.int .i64)), x0⟩]) := by kernel_rfl
theorem det_Key.h (k : Nat) (ds : List Dat) (r : ByteArray) (h : det_Key.g k ds = some r) : ∃ k', k' < k ∧ run T (det_Key.env k') Try.f76.ntmps (cutE 0 det_Key.tbl k') (finE 0 det_Key.to det_Key.out) (fnRes Try.f76) [] 100000 true ([.code det_Key.body]) (det_Key.ti.fill ds) = some r := by
  cases k with
  | zero => cases (show none = some r from h)
  | succ k =>
  replace h : det_Key.c k ds = some r := h
  unfold det_Key.c at h
  obtain ⟨x0, d0, e0, h0⟩ := pop_some h; clear h; subst e0; have h := h0; clear h0
  obtain ⟨eN, hN⟩ := popN_some h; clear h; subst eN; have h := hN; clear hN
  exact ⟨k, Nat.lt_succ_self k, (det_Key.e k x0).symm.trans h⟩
theorem det_Key.o (ds : List Dat) (r : ByteArray) (h : det_Key.out ds = some r) : ds = det_Key.rs r := by
  unfold det_Key.out at h
  obtain ⟨x0, d0, e0, h0⟩ := pop_some h; clear h; subst e0; have h := h0; clear h0
  obtain ⟨eN, hN⟩ := popN_some h; clear h; subst eN; have h := hN; clear hN
  cases h
  rfl
theorem det_Key.fn : FnOk Try.prog 76 Try.f76 det_Key.body Try.f76.ntmps 1 (fnRes Try.f76) :=
  fnOk_of (by kernel_rfl) (by kernel_rfl) (by kernel_rfl) (by kernel_rfl)
theorem det_Key.con' : ∀ k ds r, det_Key.g k ds = some r → Con Try.prog 76 1 det_Key.ti det_Key.to ds (det_Key.rs r) :=
  fun_ok (T := T) T_ok mixed det_Key.fn (env := det_Key.env) (tbl := det_Key.tbl) (gOut := det_Key.out) (nin := 0) (cuts := []) (fuel := 100000) rfl (by kernel_rfl) (by kernel_rfl) (by kernel_rfl) (fun x hx => by
    simp only [det_Key.tbl, List.mem_cons, List.not_mem_nil, or_false] at hx
    subst hx
    · exact det_Key.h7
) det_Key.o det_Key.h (fun k _ => by unfold det_Key.env; exact env0_ok)
theorem det_Key.con (k : Nat) {x0 : (List Int)} (r : ByteArray) (h : det_Key.f k x0 = some r) : Con Try.prog 76 1 det_Key.ti det_Key.to [⟨(.slice (.int .i64)), x0⟩] (det_Key.rs r) :=
  det_Key.con' (k + 1) _ r (by show det_Key.c k _ = some r; unfold det_Key.c; simp only [pop_self, popN]; exact h)
mutual
def seqs_Kernel_1.l3 : Nat → List (Int) → Int → Int → List (Int) → List (Int) → Option (ByteArray × List Int)
 | 0, _, _, _, _, _ => none
 | k + 1, f0, x8, x9, x7, l4 =>
  if x9 < x8 then
   if 0 ≤ x9 then
   if x9 < (↑x7.length : Int) then
    if 0 ≤ x7.getD x9.toNat (Int.ofNat 0) then
     if x7.getD x9.toNat (Int.ofNat 0) < (↑f0.length : Int) then
      if (l4 ++ [Go.Proofs.YtklkcdphcmimoaaSx.rd (Int.ofNat 0) f0 (x7.getD x9.toNat (Int.ofNat 0))]).length.blt 1000000000 = true then
       seqs_Kernel_1.l3 k f0 x8 (Go.IntKind.i64.wrap (x9 + 1)) x7 (l4 ++ [Go.Proofs.YtklkcdphcmimoaaSx.rd (Int.ofNat 0) f0 (x7.getD x9.toNat (Int.ofNat 0))])
       else none
      else none
     else none
    else none
   else none
  else
   (det_Key.f k l4).bind fun r3 =>
    some (r3, x7)
end
def seqs_Kernel_1.f (k : Nat) (f0 : List (Int)) (c1 : List (Int)) : Option (ByteArray × List Int) :=
 seqs_Kernel_1.l3 k f0 ((↑c1.length : Int)) 0 c1 []

noncomputable def seqs_Kernel_1.body : Code := fnBody Try.f75
def seqs_Kernel_1.ti : Tm := ⟨[(0, .p (.slice (.int .i64))), (1, .ptr 0 0)], [.box [.own 1] 32, .own (.int .i64)]⟩
def seqs_Kernel_1.to : Tm := ⟨[(0, .p .str)], [.box [.own 1] 32, .own (.int .i64)]⟩
def seqs_Kernel_1.rs (r : ByteArray × (List Int)) : List Dat := [⟨.str, r.1⟩, ⟨(.slice (.int .i64)), r.2⟩]
def seqs_Kernel_1.out (ds : List Dat) : Option (ByteArray × (List Int)) := pop .str ds fun x0 ds => pop (.slice (.int .i64)) ds fun x1 ds => popN ds (some (x0, x1))
def seqs_Kernel_1.c (k : Nat) (ds : List Dat) : Option (ByteArray × (List Int)) := pop (.slice (.int .i64)) ds fun x0 ds => pop (.slice (.int .i64)) ds fun x1 ds => popN ds (seqs_Kernel_1.f k x0 x1)
def seqs_Kernel_1.g : Nat → List Dat → Option (ByteArray × (List Int))
 | 0, _ => none
 | k + 1, ds => seqs_Kernel_1.c k ds
def seqs_Kernel_1.env (k : Nat) : Nat → List SV → List Chunk → KT (ByteArray × (List Int)) → Option (ByteArray × (List Int)) := (envC 76 1 det_Key.ti det_Key.to (fun ds K => pop (.slice (.int .i64)) ds fun x0 ds => popN ds ((det_Key.f k x0).bind fun r => K (det_Key.rs r))) env0)
def seqs_Kernel_1.t7 : Tm := ⟨[(0, .p (.slice (.int .i64))), (4, .own 2), (7, .own 1), (8, .p (.int .i64)), (9, .p (.int .i64))], [.box [.own 1] 32, .own (.int .i64), .own (.int .i64)]⟩
def seqs_Kernel_1.c7 (k : Nat) (ds : List Dat) : Option (ByteArray × (List Int)) := pop (.slice (.int .i64)) ds fun x0 ds => pop (.int .i64) ds fun x1 ds => pop (.int .i64) ds fun x2 ds => pop (.slice (.int .i64)) ds fun x3 ds => pop (.slice (.int .i64)) ds fun x4 ds => popN ds (seqs_Kernel_1.l3 k x0 x1 x2 x3 x4)
def seqs_Kernel_1.tbl : List (Nat × Tm × (Nat → List Dat → Option (ByteArray × (List Int)))) := [(7, seqs_Kernel_1.t7, seqs_Kernel_1.c7)]
theorem seqs_Kernel_1.e7 (k : Nat) (x0 : (List Int)) (x1 : Int) (x2 : Int) (x3 : (List Int)) (x4 : (List Int)) : seqs_Kernel_1.l3 (k + 1) x0 x1 x2 x3 x4 = run T (seqs_Kernel_1.env k) Try.f75.ntmps (cutE 2 seqs_Kernel_1.tbl k) (finE 2 seqs_Kernel_1.to seqs_Kernel_1.out) (fnRes Try.f75) [] 100000 true (start (stackOf 7 seqs_Kernel_1.body)) (seqs_Kernel_1.t7.fill [⟨(.slice (.int .i64)), x0⟩, ⟨(.int .i64), x1⟩, ⟨(.int .i64), x2⟩, ⟨(.slice (.int .i64)), x3⟩, ⟨(.slice (.int .i64)), x4⟩]) := by kernel_rfl
theorem seqs_Kernel_1.s7 : stackAt 7 seqs_Kernel_1.body [] = some (stackOf 7 seqs_Kernel_1.body) := by kernel_rfl
theorem seqs_Kernel_1.h7 (k : Nat) (ds : List Dat) (r : ByteArray × (List Int)) (h : seqs_Kernel_1.c7 k ds = some r) : ∃ k', k' < k ∧ ∃ s, stackAt 7 seqs_Kernel_1.body [] = some s ∧ run T (seqs_Kernel_1.env k') Try.f75.ntmps (cutE 2 seqs_Kernel_1.tbl k') (finE 2 seqs_Kernel_1.to seqs_Kernel_1.out) (fnRes Try.f75) [] 100000 true (start s) (seqs_Kernel_1.t7.fill ds) = some r := by
  unfold seqs_Kernel_1.c7 at h
  obtain ⟨x0, d0, e0, h0⟩ := pop_some h; clear h; subst e0; have h := h0; clear h0
  obtain ⟨x1, d1, e1, h1⟩ := pop_some h; clear h; subst e1; have h := h1; clear h1
  obtain ⟨x2, d2, e2, h2⟩ := pop_some h; clear h; subst e2; have h := h2; clear h2
  obtain ⟨x3, d3, e3, h3⟩ := pop_some h; clear h; subst e3; have h := h3; clear h3
  obtain ⟨x4, d4, e4, h4⟩ := pop_some h; clear h; subst e4; have h := h4; clear h4
  obtain ⟨eN, hN⟩ := popN_some h; clear h; subst eN; have h := hN; clear hN
  cases k with
  | zero => cases (show none = some r from h)
  | succ k => exact ⟨k, Nat.lt_succ_self k, _, seqs_Kernel_1.s7, (seqs_Kernel_1.e7 k x0 x1 x2 x3 x4).symm.trans h⟩
theorem seqs_Kernel_1.e (k : Nat) (x0 : (List Int)) (x1 : (List Int)) : seqs_Kernel_1.f k x0 x1 = run T (seqs_Kernel_1.env k) Try.f75.ntmps (cutE 2 seqs_Kernel_1.tbl k) (finE 2 seqs_Kernel_1.to seqs_Kernel_1.out) (fnRes Try.f75) [] 100000 true ([.code seqs_Kernel_1.body]) (seqs_Kernel_1.ti.fill [⟨(.slice (.int .i64)), x0⟩, ⟨(.slice (.int .i64)), x1⟩]) := by kernel_rfl
theorem seqs_Kernel_1.h (k : Nat) (ds : List Dat) (r : ByteArray × (List Int)) (h : seqs_Kernel_1.g k ds = some r) : ∃ k', k' < k ∧ run T (seqs_Kernel_1.env k') Try.f75.ntmps (cutE 2 seqs_Kernel_1.tbl k') (finE 2 seqs_Kernel_1.to seqs_Kernel_1.out) (fnRes Try.f75) [] 100000 true ([.code seqs_Kernel_1.body]) (seqs_Kernel_1.ti.fill ds) = some r := by
  cases k with
  | zero => cases (show none = some r from h)
  | succ k =>
  replace h : seqs_Kernel_1.c k ds = some r := h
  unfold seqs_Kernel_1.c at h
  obtain ⟨x0, d0, e0, h0⟩ := pop_some h; clear h; subst e0; have h := h0; clear h0
  obtain ⟨x1, d1, e1, h1⟩ := pop_some h; clear h; subst e1; have h := h1; clear h1
  obtain ⟨eN, hN⟩ := popN_some h; clear h; subst eN; have h := hN; clear hN
  exact ⟨k, Nat.lt_succ_self k, (seqs_Kernel_1.e k x0 x1).symm.trans h⟩
theorem seqs_Kernel_1.o (ds : List Dat) (r : ByteArray × (List Int)) (h : seqs_Kernel_1.out ds = some r) : ds = seqs_Kernel_1.rs r := by
  unfold seqs_Kernel_1.out at h
  obtain ⟨x0, d0, e0, h0⟩ := pop_some h; clear h; subst e0; have h := h0; clear h0
  obtain ⟨x1, d1, e1, h1⟩ := pop_some h; clear h; subst e1; have h := h1; clear h1
  obtain ⟨eN, hN⟩ := popN_some h; clear h; subst eN; have h := hN; clear hN
  cases h
  rfl
theorem seqs_Kernel_1.fn : FnOk Try.prog 75 Try.f75 seqs_Kernel_1.body Try.f75.ntmps 2 (fnRes Try.f75) :=
  fnOk_of (by kernel_rfl) (by kernel_rfl) (by kernel_rfl) (by kernel_rfl)
theorem seqs_Kernel_1.con' : ∀ k ds r, seqs_Kernel_1.g k ds = some r → Con Try.prog 75 2 seqs_Kernel_1.ti seqs_Kernel_1.to ds (seqs_Kernel_1.rs r) :=
  fun_ok (T := T) T_ok mixed seqs_Kernel_1.fn (env := seqs_Kernel_1.env) (tbl := seqs_Kernel_1.tbl) (gOut := seqs_Kernel_1.out) (nin := 2) (cuts := []) (fuel := 100000) rfl (by kernel_rfl) (by kernel_rfl) (by kernel_rfl) (fun x hx => by
    simp only [seqs_Kernel_1.tbl, List.mem_cons, List.not_mem_nil, or_false] at hx
    subst hx
    · exact seqs_Kernel_1.h7
) seqs_Kernel_1.o seqs_Kernel_1.h (fun k _ => by unfold seqs_Kernel_1.env; exact (envC_ok (fun ds K r h => by
    obtain ⟨x0, d0, e0, h0⟩ := pop_some h; clear h; subst e0; have h := h0; clear h0
    obtain ⟨eN, hN⟩ := popN_some h; clear h; subst eN; have h := hN; clear hN
    obtain ⟨r1, h1, h2⟩ := bind_some h
    exact ⟨_, h2, det_Key.con k _ h1⟩) env0_ok))
theorem seqs_Kernel_1.con (k : Nat) {x0 : (List Int)} {x1 : (List Int)} (r : ByteArray × (List Int)) (h : seqs_Kernel_1.f k x0 x1 = some r) : Con Try.prog 75 2 seqs_Kernel_1.ti seqs_Kernel_1.to [⟨(.slice (.int .i64)), x0⟩, ⟨(.slice (.int .i64)), x1⟩] (seqs_Kernel_1.rs r) :=
  seqs_Kernel_1.con' (k + 1) _ r (by show seqs_Kernel_1.c k _ = some r; unfold seqs_Kernel_1.c; simp only [pop_self, popN]; exact h)
mutual
def seqs_Kernel.l10 : Nat → List (Int) → Int → List (List (Int)) → List (Int) → List ((ByteArray × Int)) → List (List (Int)) → List (Int) → Option (Int × Int)
 | 0, _, _, _, _, _, _, _ => none
 | k + 1, first6, m1_0, m1_1, m1_2, seen7, l9, c4 =>
  if 0 < (↑l9.length : Int) then
   seqs_Kernel.l13 k first6 m1_0 0 m1_0 m1_1 m1_2 seen7 l9 c4
  else
   some ((↑seen7.length : Int), 0)
def seqs_Kernel.l13 : Nat → List (Int) → Int → Int → Int → List (List (Int)) → List (Int) → List ((ByteArray × Int)) → List (List (Int)) → List (Int) → Option (Int × Int)
 | 0, _, _, _, _, _, _, _, _, _ => none
 | k + 1, first6, x39, x40, m1_0, m1_1, m1_2, seen7, l9, c4 =>
  if x40 < x39 then
   if 0 ≤ (↑first6.length : Int) then
   if (↑first6.length : Int) ≤ (↑first6.length : Int) then
    if (↑first6.length : Int) * ((↑8 : Int) + 1) ≤ 1099511627776 then
     seqs_Kernel.l17 k first6 x40 x39 x40 m1_1 ((↑m1_1.length : Int)) 0 m1_0 m1_1 m1_2 seen7 l9 (List.replicate (↑first6.length : Int).toNat (Int.ofNat 0)) c4
     else none
    else none
   else none
  else
   if 0 ≤ 1 then
   if 1 ≤ (↑l9.length : Int) then
    if (↑l9.length : Int) ≤ (↑l9.length : Int) then
     seqs_Kernel.l10 k first6 m1_0 m1_1 m1_2 seen7 (List.take ((↑l9.length : Int).toNat - Int.toNat 1) (List.drop (Int.toNat 1) l9)) c4
     else none
    else none
   else none
def seqs_Kernel.l17 : Nat → List (Int) → Int → Int → Int → List (List (Int)) → Int → Int → Int → List (List (Int)) → List (Int) → List ((ByteArray × Int)) → List (List (Int)) → List (Int) → List (Int) → Option (Int × Int)
 | 0, _, _, _, _, _, _, _, _, _, _, _, _, _, _ => none
 | k + 1, first6, d10, x39, x40, x47, x48, x49, m1_0, m1_1, m1_2, seen7, l9, next11, c5 =>
  if x49 < x48 then
   if 0 ≤ x49 then
   if x49 < (↑x47.length : Int) then
    if 0 ≤ 0 then
     if 0 < (↑l9.length : Int) then
      if 0 ≤ d10 then
       if d10 < (↑(Go.Proofs.YtklkcdphcmimoaaSx.rd [] x47 x49).length : Int) then
        if 0 ≤ Go.Proofs.YtklkcdphcmimoaaSx.rd (Int.ofNat 0) (Go.Proofs.YtklkcdphcmimoaaSx.rd [] x47 x49) d10 then
         if Go.Proofs.YtklkcdphcmimoaaSx.rd (Int.ofNat 0) (Go.Proofs.YtklkcdphcmimoaaSx.rd [] x47 x49) d10 < (↑(l9.getD (Int.toNat 0) []).length : Int) then
          if 0 ≤ x49 then
           if x49 < (↑next11.length : Int) then
            seqs_Kernel.l17 k first6 d10 x39 x40 x47 x48 (Go.IntKind.i64.wrap (x49 + 1)) m1_0 m1_1 m1_2 seen7 l9 (next11.set x49.toNat (Go.Proofs.YtklkcdphcmimoaaSx.rd (Int.ofNat 0) (l9.getD (Int.toNat 0) []) (Go.Proofs.YtklkcdphcmimoaaSx.rd (Int.ofNat 0) (Go.Proofs.YtklkcdphcmimoaaSx.rd [] x47 x49) d10))) c5
            else none
           else none
          else none
         else none
        else none
       else none
      else none
     else none
    else none
   else none
  else
   (seqs_Kernel_1.f k next11 c5).bind fun r3 =>
    if Go.Proofs.YtklkcdphcmimoaaSx.mget Go.Proofs.YtklkcdphcmimoaaSx.Ty.str (Go.Proofs.YtklkcdphcmimoaaSx.Ty.int Go.IntKind.i64) seen7 r3.fst = 0 then
     if (l9 ++ [next11]).length.blt 1000000000 = true then
     seqs_Kernel.j25 k first6 x39 x40 m1_0 m1_1 m1_2 (Go.Proofs.YtklkcdphcmimoaaSx.mput Go.Proofs.YtklkcdphcmimoaaSx.Ty.str (Go.Proofs.YtklkcdphcmimoaaSx.Ty.int Go.IntKind.i64) seen7 r3.fst (Int.ofNat 1)) (l9 ++ [next11]) r3.snd
     else none
    else
     seqs_Kernel.j25 k first6 x39 x40 m1_0 m1_1 m1_2 seen7 l9 r3.snd
def seqs_Kernel.j25 : Nat → List (Int) → Int → Int → Int → List (List (Int)) → List (Int) → List ((ByteArray × Int)) → List (List (Int)) → List (Int) → Option (Int × Int)
 | 0, _, _, _, _, _, _, _, _, _ => none
 | k + 1, first6, x39, x40, m1_0, m1_1, m1_2, seen7, l9, c4 =>
  seqs_Kernel.l13 k first6 x39 (Go.IntKind.i64.wrap (x40 + 1)) m1_0 m1_1 m1_2 seen7 l9 c4
end
def seqs_Kernel.f (k : Nat) (m0 : (Int × (List (List (Int)) × (List (Int) × Unit)))) : Option (Int × Int) :=
 (seqs_Check.f k (m0.fst, m0.snd.fst, m0.snd.snd.fst, ())).bind fun r1 =>
  if r1 = 0 then
   (seqs_met.f k (m0.fst, m0.snd.fst, m0.snd.snd.fst, ())).bind fun r3 =>
    (slices_Clone___int_int_.f k m0.snd.snd.fst).bind fun r4 =>
     (seqs_Kernel_1.f k r4 r3).bind fun r5 =>
      seqs_Kernel.l10 k r4 m0.fst m0.snd.fst m0.snd.snd.fst (Go.Proofs.YtklkcdphcmimoaaSx.mput Go.Proofs.YtklkcdphcmimoaaSx.Ty.str (Go.Proofs.YtklkcdphcmimoaaSx.Ty.int Go.IntKind.i64) [] r5.fst (Int.ofNat 1)) [r4] r5.snd
  else
   some (0, r1)

noncomputable def seqs_Kernel.body : Code := fnBody Try.f18
def seqs_Kernel.ti : Tm := ⟨[(0, .p (.pair (.int .i64) (.pair (.slice (.slice (.int .i64))) (.pair (.slice (.int .i64)) .unit))))], []⟩
def seqs_Kernel.to : Tm := ⟨[(0, .p (.int .i64)), (1, .p (.int .i64))], []⟩
def seqs_Kernel.rs (r : Int × Int) : List Dat := [⟨(.int .i64), r.1⟩, ⟨(.int .i64), r.2⟩]
def seqs_Kernel.out (ds : List Dat) : Option (Int × Int) := pop (.int .i64) ds fun x0 ds => pop (.int .i64) ds fun x1 ds => popN ds (some (x0, x1))
def seqs_Kernel.c (k : Nat) (ds : List Dat) : Option (Int × Int) := pop (.pair (.int .i64) (.pair (.slice (.slice (.int .i64))) (.pair (.slice (.int .i64)) .unit))) ds fun x0 ds => popN ds (seqs_Kernel.f k x0)
def seqs_Kernel.g : Nat → List Dat → Option (Int × Int)
 | 0, _ => none
 | k + 1, ds => seqs_Kernel.c k ds
def seqs_Kernel.env (k : Nat) : Nat → List SV → List Chunk → KT (Int × Int) → Option (Int × Int) := (envC 75 2 seqs_Kernel_1.ti seqs_Kernel_1.to (fun ds K => pop (.slice (.int .i64)) ds fun x0 ds => pop (.slice (.int .i64)) ds fun x1 ds => popN ds ((seqs_Kernel_1.f k x0 x1).bind fun r => K (seqs_Kernel_1.rs r))) (envC 73 1 seqs_Check.ti seqs_Check.to (fun ds K => pop (.pair (.int .i64) (.pair (.slice (.slice (.int .i64))) (.pair (.slice (.int .i64)) .unit))) ds fun x0 ds => popN ds ((seqs_Check.f k x0).bind fun r => K (seqs_Check.rs r))) (envC 74 1 seqs_met.ti seqs_met.to (fun ds K => pop (.pair (.int .i64) (.pair (.slice (.slice (.int .i64))) (.pair (.slice (.int .i64)) .unit))) ds fun x0 ds => popN ds ((seqs_met.f k x0).bind fun r => K (seqs_met.rs r))) (envC 68 1 slices_Clone___int_int_.ti slices_Clone___int_int_.to (fun ds K => pop (.slice (.int .i64)) ds fun x0 ds => popN ds ((slices_Clone___int_int_.f k x0).bind fun r => K (slices_Clone___int_int_.rs r))) env0))))
def seqs_Kernel.t21 : Tm := ⟨[(1, .ptr 0 0), (6, .p (.slice (.int .i64))), (7, .map 1), (8, .fn 75 [.ptr 2 0]), (9, .own 3)], [.box [.p (.int .i64), .p (.slice (.slice (.int .i64))), .p (.slice (.int .i64))] 34, .map .str (.int .i64), .box [.own 4] 32, .own (.slice (.int .i64)), .own (.int .i64)]⟩
def seqs_Kernel.c21 (k : Nat) (ds : List Dat) : Option (Int × Int) := pop (.slice (.int .i64)) ds fun x0 ds => pop (.int .i64) ds fun x1 ds => pop (.slice (.slice (.int .i64))) ds fun x2 ds => pop (.slice (.int .i64)) ds fun x3 ds => pop (.slice (.pair .str (.int .i64))) ds fun x4 ds => pop (.slice (.slice (.int .i64))) ds fun x5 ds => pop (.slice (.int .i64)) ds fun x6 ds => popN ds (seqs_Kernel.l10 k x0 x1 x2 x3 x4 x5 x6)
def seqs_Kernel.t27 : Tm := ⟨[(1, .ptr 0 0), (6, .p (.slice (.int .i64))), (7, .map 1), (8, .fn 75 [.ptr 2 0]), (9, .own 3), (39, .p (.int .i64)), (40, .p (.int .i64))], [.box [.p (.int .i64), .p (.slice (.slice (.int .i64))), .p (.slice (.int .i64))] 34, .map .str (.int .i64), .box [.own 4] 32, .own (.slice (.int .i64)), .own (.int .i64)]⟩
def seqs_Kernel.c27 (k : Nat) (ds : List Dat) : Option (Int × Int) := pop (.slice (.int .i64)) ds fun x0 ds => pop (.int .i64) ds fun x1 ds => pop (.int .i64) ds fun x2 ds => pop (.int .i64) ds fun x3 ds => pop (.slice (.slice (.int .i64))) ds fun x4 ds => pop (.slice (.int .i64)) ds fun x5 ds => pop (.slice (.pair .str (.int .i64))) ds fun x6 ds => pop (.slice (.slice (.int .i64))) ds fun x7 ds => pop (.slice (.int .i64)) ds fun x8 ds => popN ds (seqs_Kernel.l13 k x0 x1 x2 x3 x4 x5 x6 x7 x8)
def seqs_Kernel.t35 : Tm := ⟨[(1, .ptr 0 0), (6, .p (.slice (.int .i64))), (7, .map 1), (8, .fn 75 [.ptr 2 0]), (9, .own 3), (10, .p (.int .i64)), (11, .own 4), (39, .p (.int .i64)), (40, .p (.int .i64)), (47, .p (.slice (.slice (.int .i64)))), (48, .p (.int .i64)), (49, .p (.int .i64))], [.box [.p (.int .i64), .p (.slice (.slice (.int .i64))), .p (.slice (.int .i64))] 34, .map .str (.int .i64), .box [.own 5] 32, .own (.slice (.int .i64)), .own (.int .i64), .own (.int .i64)]⟩
def seqs_Kernel.c35 (k : Nat) (ds : List Dat) : Option (Int × Int) := pop (.slice (.int .i64)) ds fun x0 ds => pop (.int .i64) ds fun x1 ds => pop (.int .i64) ds fun x2 ds => pop (.int .i64) ds fun x3 ds => pop (.slice (.slice (.int .i64))) ds fun x4 ds => pop (.int .i64) ds fun x5 ds => pop (.int .i64) ds fun x6 ds => pop (.int .i64) ds fun x7 ds => pop (.slice (.slice (.int .i64))) ds fun x8 ds => pop (.slice (.int .i64)) ds fun x9 ds => pop (.slice (.pair .str (.int .i64))) ds fun x10 ds => pop (.slice (.slice (.int .i64))) ds fun x11 ds => pop (.slice (.int .i64)) ds fun x12 ds => pop (.slice (.int .i64)) ds fun x13 ds => popN ds (seqs_Kernel.l17 k x0 x1 x2 x3 x4 x5 x6 x7 x8 x9 x10 x11 x12 x13)
def seqs_Kernel.t50 : Tm := ⟨[(1, .ptr 0 0), (6, .p (.slice (.int .i64))), (7, .map 1), (8, .fn 75 [.ptr 2 0]), (9, .own 3), (39, .p (.int .i64)), (40, .p (.int .i64))], [.box [.p (.int .i64), .p (.slice (.slice (.int .i64))), .p (.slice (.int .i64))] 34, .map .str (.int .i64), .box [.own 4] 32, .own (.slice (.int .i64)), .own (.int .i64)]⟩
def seqs_Kernel.c50 (k : Nat) (ds : List Dat) : Option (Int × Int) := pop (.slice (.int .i64)) ds fun x0 ds => pop (.int .i64) ds fun x1 ds => pop (.int .i64) ds fun x2 ds => pop (.int .i64) ds fun x3 ds => pop (.slice (.slice (.int .i64))) ds fun x4 ds => pop (.slice (.int .i64)) ds fun x5 ds => pop (.slice (.pair .str (.int .i64))) ds fun x6 ds => pop (.slice (.slice (.int .i64))) ds fun x7 ds => pop (.slice (.int .i64)) ds fun x8 ds => popN ds (seqs_Kernel.j25 k x0 x1 x2 x3 x4 x5 x6 x7 x8)
def seqs_Kernel.tbl : List (Nat × Tm × (Nat → List Dat → Option (Int × Int))) := [(21, seqs_Kernel.t21, seqs_Kernel.c21), (27, seqs_Kernel.t27, seqs_Kernel.c27), (35, seqs_Kernel.t35, seqs_Kernel.c35), (50, seqs_Kernel.t50, seqs_Kernel.c50)]
theorem seqs_Kernel.e21 (k : Nat) (x0 : (List Int)) (x1 : Int) (x2 : (List (List Int))) (x3 : (List Int)) (x4 : (List (ByteArray × Int))) (x5 : (List (List Int))) (x6 : (List Int)) : seqs_Kernel.l10 (k + 1) x0 x1 x2 x3 x4 x5 x6 = run T (seqs_Kernel.env k) Try.f18.ntmps (cutE 0 seqs_Kernel.tbl k) (finE 0 seqs_Kernel.to seqs_Kernel.out) (fnRes Try.f18) [25] 100000 true (start (stackOf 21 seqs_Kernel.body)) (seqs_Kernel.t21.fill [⟨(.slice (.int .i64)), x0⟩, ⟨(.int .i64), x1⟩, ⟨(.slice (.slice (.int .i64))), x2⟩, ⟨(.slice (.int .i64)), x3⟩, ⟨(.slice (.pair .str (.int .i64))), x4⟩, ⟨(.slice (.slice (.int .i64))), x5⟩, ⟨(.slice (.int .i64)), x6⟩]) := by kernel_rfl
theorem seqs_Kernel.s21 : stackAt 21 seqs_Kernel.body [] = some (stackOf 21 seqs_Kernel.body) := by kernel_rfl
theorem seqs_Kernel.h21 (k : Nat) (ds : List Dat) (r : Int × Int) (h : seqs_Kernel.c21 k ds = some r) : ∃ k', k' < k ∧ ∃ s, stackAt 21 seqs_Kernel.body [] = some s ∧ run T (seqs_Kernel.env k') Try.f18.ntmps (cutE 0 seqs_Kernel.tbl k') (finE 0 seqs_Kernel.to seqs_Kernel.out) (fnRes Try.f18) [25] 100000 true (start s) (seqs_Kernel.t21.fill ds) = some r := by
  unfold seqs_Kernel.c21 at h
  obtain ⟨x0, d0, e0, h0⟩ := pop_some h; clear h; subst e0; have h := h0; clear h0
  obtain ⟨x1, d1, e1, h1⟩ := pop_some h; clear h; subst e1; have h := h1; clear h1
  obtain ⟨x2, d2, e2, h2⟩ := pop_some h; clear h; subst e2; have h := h2; clear h2
  obtain ⟨x3, d3, e3, h3⟩ := pop_some h; clear h; subst e3; have h := h3; clear h3
  obtain ⟨x4, d4, e4, h4⟩ := pop_some h; clear h; subst e4; have h := h4; clear h4
  obtain ⟨x5, d5, e5, h5⟩ := pop_some h; clear h; subst e5; have h := h5; clear h5
  obtain ⟨x6, d6, e6, h6⟩ := pop_some h; clear h; subst e6; have h := h6; clear h6
  obtain ⟨eN, hN⟩ := popN_some h; clear h; subst eN; have h := hN; clear hN
  cases k with
  | zero => cases (show none = some r from h)
  | succ k => exact ⟨k, Nat.lt_succ_self k, _, seqs_Kernel.s21, (seqs_Kernel.e21 k x0 x1 x2 x3 x4 x5 x6).symm.trans h⟩
theorem seqs_Kernel.e27 (k : Nat) (x0 : (List Int)) (x1 : Int) (x2 : Int) (x3 : Int) (x4 : (List (List Int))) (x5 : (List Int)) (x6 : (List (ByteArray × Int))) (x7 : (List (List Int))) (x8 : (List Int)) : seqs_Kernel.l13 (k + 1) x0 x1 x2 x3 x4 x5 x6 x7 x8 = run T (seqs_Kernel.env k) Try.f18.ntmps (cutE 0 seqs_Kernel.tbl k) (finE 0 seqs_Kernel.to seqs_Kernel.out) (fnRes Try.f18) [25] 100000 true (start (stackOf 27 seqs_Kernel.body)) (seqs_Kernel.t27.fill [⟨(.slice (.int .i64)), x0⟩, ⟨(.int .i64), x1⟩, ⟨(.int .i64), x2⟩, ⟨(.int .i64), x3⟩, ⟨(.slice (.slice (.int .i64))), x4⟩, ⟨(.slice (.int .i64)), x5⟩, ⟨(.slice (.pair .str (.int .i64))), x6⟩, ⟨(.slice (.slice (.int .i64))), x7⟩, ⟨(.slice (.int .i64)), x8⟩]) := by kernel_rfl
theorem seqs_Kernel.s27 : stackAt 27 seqs_Kernel.body [] = some (stackOf 27 seqs_Kernel.body) := by kernel_rfl
theorem seqs_Kernel.h27 (k : Nat) (ds : List Dat) (r : Int × Int) (h : seqs_Kernel.c27 k ds = some r) : ∃ k', k' < k ∧ ∃ s, stackAt 27 seqs_Kernel.body [] = some s ∧ run T (seqs_Kernel.env k') Try.f18.ntmps (cutE 0 seqs_Kernel.tbl k') (finE 0 seqs_Kernel.to seqs_Kernel.out) (fnRes Try.f18) [25] 100000 true (start s) (seqs_Kernel.t27.fill ds) = some r := by
  unfold seqs_Kernel.c27 at h
  obtain ⟨x0, d0, e0, h0⟩ := pop_some h; clear h; subst e0; have h := h0; clear h0
  obtain ⟨x1, d1, e1, h1⟩ := pop_some h; clear h; subst e1; have h := h1; clear h1
  obtain ⟨x2, d2, e2, h2⟩ := pop_some h; clear h; subst e2; have h := h2; clear h2
  obtain ⟨x3, d3, e3, h3⟩ := pop_some h; clear h; subst e3; have h := h3; clear h3
  obtain ⟨x4, d4, e4, h4⟩ := pop_some h; clear h; subst e4; have h := h4; clear h4
  obtain ⟨x5, d5, e5, h5⟩ := pop_some h; clear h; subst e5; have h := h5; clear h5
  obtain ⟨x6, d6, e6, h6⟩ := pop_some h; clear h; subst e6; have h := h6; clear h6
  obtain ⟨x7, d7, e7, h7⟩ := pop_some h; clear h; subst e7; have h := h7; clear h7
  obtain ⟨x8, d8, e8, h8⟩ := pop_some h; clear h; subst e8; have h := h8; clear h8
  obtain ⟨eN, hN⟩ := popN_some h; clear h; subst eN; have h := hN; clear hN
  cases k with
  | zero => cases (show none = some r from h)
  | succ k => exact ⟨k, Nat.lt_succ_self k, _, seqs_Kernel.s27, (seqs_Kernel.e27 k x0 x1 x2 x3 x4 x5 x6 x7 x8).symm.trans h⟩
theorem seqs_Kernel.e35 (k : Nat) (x0 : (List Int)) (x1 : Int) (x2 : Int) (x3 : Int) (x4 : (List (List Int))) (x5 : Int) (x6 : Int) (x7 : Int) (x8 : (List (List Int))) (x9 : (List Int)) (x10 : (List (ByteArray × Int))) (x11 : (List (List Int))) (x12 : (List Int)) (x13 : (List Int)) : seqs_Kernel.l17 (k + 1) x0 x1 x2 x3 x4 x5 x6 x7 x8 x9 x10 x11 x12 x13 = run T (seqs_Kernel.env k) Try.f18.ntmps (cutE 0 seqs_Kernel.tbl k) (finE 0 seqs_Kernel.to seqs_Kernel.out) (fnRes Try.f18) [25] 100000 true (start (stackOf 35 seqs_Kernel.body)) (seqs_Kernel.t35.fill [⟨(.slice (.int .i64)), x0⟩, ⟨(.int .i64), x1⟩, ⟨(.int .i64), x2⟩, ⟨(.int .i64), x3⟩, ⟨(.slice (.slice (.int .i64))), x4⟩, ⟨(.int .i64), x5⟩, ⟨(.int .i64), x6⟩, ⟨(.int .i64), x7⟩, ⟨(.slice (.slice (.int .i64))), x8⟩, ⟨(.slice (.int .i64)), x9⟩, ⟨(.slice (.pair .str (.int .i64))), x10⟩, ⟨(.slice (.slice (.int .i64))), x11⟩, ⟨(.slice (.int .i64)), x12⟩, ⟨(.slice (.int .i64)), x13⟩]) := by kernel_rfl
theorem seqs_Kernel.s35 : stackAt 35 seqs_Kernel.body [] = some (stackOf 35 seqs_Kernel.body) := by kernel_rfl
theorem seqs_Kernel.h35 (k : Nat) (ds : List Dat) (r : Int × Int) (h : seqs_Kernel.c35 k ds = some r) : ∃ k', k' < k ∧ ∃ s, stackAt 35 seqs_Kernel.body [] = some s ∧ run T (seqs_Kernel.env k') Try.f18.ntmps (cutE 0 seqs_Kernel.tbl k') (finE 0 seqs_Kernel.to seqs_Kernel.out) (fnRes Try.f18) [25] 100000 true (start s) (seqs_Kernel.t35.fill ds) = some r := by
  unfold seqs_Kernel.c35 at h
  obtain ⟨x0, d0, e0, h0⟩ := pop_some h; clear h; subst e0; have h := h0; clear h0
  obtain ⟨x1, d1, e1, h1⟩ := pop_some h; clear h; subst e1; have h := h1; clear h1
  obtain ⟨x2, d2, e2, h2⟩ := pop_some h; clear h; subst e2; have h := h2; clear h2
  obtain ⟨x3, d3, e3, h3⟩ := pop_some h; clear h; subst e3; have h := h3; clear h3
  obtain ⟨x4, d4, e4, h4⟩ := pop_some h; clear h; subst e4; have h := h4; clear h4
  obtain ⟨x5, d5, e5, h5⟩ := pop_some h; clear h; subst e5; have h := h5; clear h5
  obtain ⟨x6, d6, e6, h6⟩ := pop_some h; clear h; subst e6; have h := h6; clear h6
  obtain ⟨x7, d7, e7, h7⟩ := pop_some h; clear h; subst e7; have h := h7; clear h7
  obtain ⟨x8, d8, e8, h8⟩ := pop_some h; clear h; subst e8; have h := h8; clear h8
  obtain ⟨x9, d9, e9, h9⟩ := pop_some h; clear h; subst e9; have h := h9; clear h9
  obtain ⟨x10, d10, e10, h10⟩ := pop_some h; clear h; subst e10; have h := h10; clear h10
  obtain ⟨x11, d11, e11, h11⟩ := pop_some h; clear h; subst e11; have h := h11; clear h11
  obtain ⟨x12, d12, e12, h12⟩ := pop_some h; clear h; subst e12; have h := h12; clear h12
  obtain ⟨x13, d13, e13, h13⟩ := pop_some h; clear h; subst e13; have h := h13; clear h13
  obtain ⟨eN, hN⟩ := popN_some h; clear h; subst eN; have h := hN; clear hN
  cases k with
  | zero => cases (show none = some r from h)
  | succ k => exact ⟨k, Nat.lt_succ_self k, _, seqs_Kernel.s35, (seqs_Kernel.e35 k x0 x1 x2 x3 x4 x5 x6 x7 x8 x9 x10 x11 x12 x13).symm.trans h⟩
theorem seqs_Kernel.e50 (k : Nat) (x0 : (List Int)) (x1 : Int) (x2 : Int) (x3 : Int) (x4 : (List (List Int))) (x5 : (List Int)) (x6 : (List (ByteArray × Int))) (x7 : (List (List Int))) (x8 : (List Int)) : seqs_Kernel.j25 (k + 1) x0 x1 x2 x3 x4 x5 x6 x7 x8 = run T (seqs_Kernel.env k) Try.f18.ntmps (cutE 0 seqs_Kernel.tbl k) (finE 0 seqs_Kernel.to seqs_Kernel.out) (fnRes Try.f18) [25] 100000 true (start (stackOf 50 seqs_Kernel.body)) (seqs_Kernel.t50.fill [⟨(.slice (.int .i64)), x0⟩, ⟨(.int .i64), x1⟩, ⟨(.int .i64), x2⟩, ⟨(.int .i64), x3⟩, ⟨(.slice (.slice (.int .i64))), x4⟩, ⟨(.slice (.int .i64)), x5⟩, ⟨(.slice (.pair .str (.int .i64))), x6⟩, ⟨(.slice (.slice (.int .i64))), x7⟩, ⟨(.slice (.int .i64)), x8⟩]) := by kernel_rfl
theorem seqs_Kernel.s50 : stackAt 50 seqs_Kernel.body [] = some (stackOf 50 seqs_Kernel.body) := by kernel_rfl
theorem seqs_Kernel.h50 (k : Nat) (ds : List Dat) (r : Int × Int) (h : seqs_Kernel.c50 k ds = some r) : ∃ k', k' < k ∧ ∃ s, stackAt 50 seqs_Kernel.body [] = some s ∧ run T (seqs_Kernel.env k') Try.f18.ntmps (cutE 0 seqs_Kernel.tbl k') (finE 0 seqs_Kernel.to seqs_Kernel.out) (fnRes Try.f18) [25] 100000 true (start s) (seqs_Kernel.t50.fill ds) = some r := by
  unfold seqs_Kernel.c50 at h
  obtain ⟨x0, d0, e0, h0⟩ := pop_some h; clear h; subst e0; have h := h0; clear h0
  obtain ⟨x1, d1, e1, h1⟩ := pop_some h; clear h; subst e1; have h := h1; clear h1
  obtain ⟨x2, d2, e2, h2⟩ := pop_some h; clear h; subst e2; have h := h2; clear h2
  obtain ⟨x3, d3, e3, h3⟩ := pop_some h; clear h; subst e3; have h := h3; clear h3
  obtain ⟨x4, d4, e4, h4⟩ := pop_some h; clear h; subst e4; have h := h4; clear h4
  obtain ⟨x5, d5, e5, h5⟩ := pop_some h; clear h; subst e5; have h := h5; clear h5
  obtain ⟨x6, d6, e6, h6⟩ := pop_some h; clear h; subst e6; have h := h6; clear h6
  obtain ⟨x7, d7, e7, h7⟩ := pop_some h; clear h; subst e7; have h := h7; clear h7
  obtain ⟨x8, d8, e8, h8⟩ := pop_some h; clear h; subst e8; have h := h8; clear h8
  obtain ⟨eN, hN⟩ := popN_some h; clear h; subst eN; have h := hN; clear hN
  cases k with
  | zero => cases (show none = some r from h)
  | succ k => exact ⟨k, Nat.lt_succ_self k, _, seqs_Kernel.s50, (seqs_Kernel.e50 k x0 x1 x2 x3 x4 x5 x6 x7 x8).symm.trans h⟩
theorem seqs_Kernel.e (k : Nat) (x0 : (Int × ((List (List Int)) × ((List Int) × Unit)))) : seqs_Kernel.f k x0 = run T (seqs_Kernel.env k) Try.f18.ntmps (cutE 0 seqs_Kernel.tbl k) (finE 0 seqs_Kernel.to seqs_Kernel.out) (fnRes Try.f18) [25] 100000 true ([.code seqs_Kernel.body]) (seqs_Kernel.ti.fill [⟨(.pair (.int .i64) (.pair (.slice (.slice (.int .i64))) (.pair (.slice (.int .i64)) .unit))), x0⟩]) := by kernel_rfl
theorem seqs_Kernel.h (k : Nat) (ds : List Dat) (r : Int × Int) (h : seqs_Kernel.g k ds = some r) : ∃ k', k' < k ∧ run T (seqs_Kernel.env k') Try.f18.ntmps (cutE 0 seqs_Kernel.tbl k') (finE 0 seqs_Kernel.to seqs_Kernel.out) (fnRes Try.f18) [25] 100000 true ([.code seqs_Kernel.body]) (seqs_Kernel.ti.fill ds) = some r := by
  cases k with
  | zero => cases (show none = some r from h)
  | succ k =>
  replace h : seqs_Kernel.c k ds = some r := h
  unfold seqs_Kernel.c at h
  obtain ⟨x0, d0, e0, h0⟩ := pop_some h; clear h; subst e0; have h := h0; clear h0
  obtain ⟨eN, hN⟩ := popN_some h; clear h; subst eN; have h := hN; clear hN
  exact ⟨k, Nat.lt_succ_self k, (seqs_Kernel.e k x0).symm.trans h⟩
theorem seqs_Kernel.o (ds : List Dat) (r : Int × Int) (h : seqs_Kernel.out ds = some r) : ds = seqs_Kernel.rs r := by
  unfold seqs_Kernel.out at h
  obtain ⟨x0, d0, e0, h0⟩ := pop_some h; clear h; subst e0; have h := h0; clear h0
  obtain ⟨x1, d1, e1, h1⟩ := pop_some h; clear h; subst e1; have h := h1; clear h1
  obtain ⟨eN, hN⟩ := popN_some h; clear h; subst eN; have h := hN; clear hN
  cases h
  rfl
theorem seqs_Kernel.fn : FnOk Try.prog 18 Try.f18 seqs_Kernel.body Try.f18.ntmps 1 (fnRes Try.f18) :=
  fnOk_of (by kernel_rfl) (by kernel_rfl) (by kernel_rfl) (by kernel_rfl)
theorem seqs_Kernel.con' : ∀ k ds r, seqs_Kernel.g k ds = some r → Con Try.prog 18 1 seqs_Kernel.ti seqs_Kernel.to ds (seqs_Kernel.rs r) :=
  fun_ok (T := T) T_ok mixed seqs_Kernel.fn (env := seqs_Kernel.env) (tbl := seqs_Kernel.tbl) (gOut := seqs_Kernel.out) (nin := 0) (cuts := [25]) (fuel := 100000) rfl (by kernel_rfl) (by kernel_rfl) (by kernel_rfl) (fun x hx => by
    simp only [seqs_Kernel.tbl, List.mem_cons, List.not_mem_nil, or_false] at hx
    rcases hx with rfl | rfl | rfl | rfl
    · exact seqs_Kernel.h21
    · exact seqs_Kernel.h27
    · exact seqs_Kernel.h35
    · exact seqs_Kernel.h50
) seqs_Kernel.o seqs_Kernel.h (fun k _ => by unfold seqs_Kernel.env; exact (envC_ok (fun ds K r h => by
    obtain ⟨x0, d0, e0, h0⟩ := pop_some h; clear h; subst e0; have h := h0; clear h0
    obtain ⟨x1, d1, e1, h1⟩ := pop_some h; clear h; subst e1; have h := h1; clear h1
    obtain ⟨eN, hN⟩ := popN_some h; clear h; subst eN; have h := hN; clear hN
    obtain ⟨r1, h1, h2⟩ := bind_some h
    exact ⟨_, h2, seqs_Kernel_1.con k _ h1⟩) (envC_ok (fun ds K r h => by
    obtain ⟨x0, d0, e0, h0⟩ := pop_some h; clear h; subst e0; have h := h0; clear h0
    obtain ⟨eN, hN⟩ := popN_some h; clear h; subst eN; have h := hN; clear hN
    obtain ⟨r1, h1, h2⟩ := bind_some h
    exact ⟨_, h2, seqs_Check.con k _ h1⟩) (envC_ok (fun ds K r h => by
    obtain ⟨x0, d0, e0, h0⟩ := pop_some h; clear h; subst e0; have h := h0; clear h0
    obtain ⟨eN, hN⟩ := popN_some h; clear h; subst eN; have h := hN; clear hN
    obtain ⟨r1, h1, h2⟩ := bind_some h
    exact ⟨_, h2, seqs_met.con k _ h1⟩) (envC_ok (fun ds K r h => by
    obtain ⟨x0, d0, e0, h0⟩ := pop_some h; clear h; subst e0; have h := h0; clear h0
    obtain ⟨eN, hN⟩ := popN_some h; clear h; subst eN; have h := hN; clear hN
    obtain ⟨r1, h1, h2⟩ := bind_some h
    exact ⟨_, h2, slices_Clone___int_int_.con k _ h1⟩) env0_ok)))))
theorem seqs_Kernel.con (k : Nat) {x0 : (Int × ((List (List Int)) × ((List Int) × Unit)))} (r : Int × Int) (h : seqs_Kernel.f k x0 = some r) : Con Try.prog 18 1 seqs_Kernel.ti seqs_Kernel.to [⟨(.pair (.int .i64) (.pair (.slice (.slice (.int .i64))) (.pair (.slice (.int .i64)) .unit))), x0⟩] (seqs_Kernel.rs r) :=
  seqs_Kernel.con' (k + 1) _ r (by show seqs_Kernel.c k _ = some r; unfold seqs_Kernel.c; simp only [pop_self, popN]; exact h)
mutual
def evermoreref23_Check.l9 : Nat → Int → Int → Int → List (List (Int)) → List (Int) → Option (Int)
 | 0, _, _, _, _, _ => none
 | k + 1, n3, a4, m1_0, m1_1, m1_2 =>
  if a4 < n3 then
   if 0 ≤ a4 then
   if a4 < (↑m1_1.length : Int) then
    if (↑(Go.Proofs.YtklkcdphcmimoaaSx.rd [] m1_1 a4).length : Int) = m1_0 then
      evermoreref23_Check.l9 k n3 (Go.IntKind.i64.wrap (a4 + 1)) m1_0 m1_1 m1_2
     else
      some (3)
    else none
   else none
  else
   evermoreref23_Check.l14 k n3 0 m1_0 m1_1 m1_2
def evermoreref23_Check.l14 : Nat → Int → Int → Int → List (List (Int)) → List (Int) → Option (Int)
 | 0, _, _, _, _, _ => none
 | k + 1, n3, a5, m1_0, m1_1, m1_2 =>
  if a5 < n3 then
   evermoreref23_Check.l17 k n3 a5 0 m1_0 m1_1 m1_2
  else
   if 0 ≤ 0 then
   if 0 < (↑m1_1.length : Int) then
    if 0 ≤ 0 then
     if 0 < (↑(Go.Proofs.YtklkcdphcmimoaaSx.rd [] m1_1 0).length : Int) then
      if Go.Proofs.YtklkcdphcmimoaaSx.rd (Int.ofNat 0) (Go.Proofs.YtklkcdphcmimoaaSx.rd [] m1_1 0) 0 = 0 then
        some (0)
       else
        some (3)
      else none
     else none
    else none
   else none
def evermoreref23_Check.l17 : Nat → Int → Int → Int → Int → List (List (Int)) → List (Int) → Option (Int)
 | 0, _, _, _, _, _, _ => none
 | k + 1, n3, a5, k6, m1_0, m1_1, m1_2 =>
  if k6 < m1_0 then
   if 0 ≤ a5 then
   if a5 < (↑m1_1.length : Int) then
    if 0 ≤ k6 then
     if k6 < (↑(Go.Proofs.YtklkcdphcmimoaaSx.rd [] m1_1 a5).length : Int) then
      if Go.Proofs.YtklkcdphcmimoaaSx.rd (Int.ofNat 0) (Go.Proofs.YtklkcdphcmimoaaSx.rd [] m1_1 a5) k6 < 0 then
        some (2)
       else
        if 0 ≤ a5 then
        if a5 < (↑m1_1.length : Int) then
         if 0 ≤ k6 then
          if k6 < (↑(Go.Proofs.YtklkcdphcmimoaaSx.rd [] m1_1 a5).length : Int) then
           if n3 ≤ Go.Proofs.YtklkcdphcmimoaaSx.rd (Int.ofNat 0) (Go.Proofs.YtklkcdphcmimoaaSx.rd [] m1_1 a5) k6 then
             some (2)
            else
             evermoreref23_Check.l17 k n3 a5 (Go.IntKind.i64.wrap (k6 + 1)) m1_0 m1_1 m1_2
           else none
          else none
         else none
        else none
      else none
     else none
    else none
   else none
  else
   if 0 ≤ a5 then
   if a5 < (↑m1_2.length : Int) then
    if Go.Proofs.YtklkcdphcmimoaaSx.rd (Int.ofNat 0) m1_2 a5 < 0 then
      some (2)
     else
      if 0 ≤ a5 then
      if a5 < (↑m1_2.length : Int) then
       if 9 < Go.Proofs.YtklkcdphcmimoaaSx.rd (Int.ofNat 0) m1_2 a5 then
         some (2)
        else
         evermoreref23_Check.l14 k n3 (Go.IntKind.i64.wrap (a5 + 1)) m1_0 m1_1 m1_2
       else none
      else none
    else none
   else none
end
def evermoreref23_Check.f (k : Nat) (m0 : (Int × (List (List (Int)) × (List (Int) × Unit)))) : Option (Int) :=
 if m0.fst < 2 then
  some (2)
 else
  if 4 < m0.fst then
   some (2)
  else
   if (↑m0.snd.fst.length : Int) < 1 then
    some (1)
   else
    if 4 < (↑m0.snd.fst.length : Int) then
     some (1)
    else
     if (↑m0.snd.snd.fst.length : Int) = (↑m0.snd.fst.length : Int) then
      evermoreref23_Check.l9 k ((↑m0.snd.fst.length : Int)) 0 m0.fst m0.snd.fst m0.snd.snd.fst
     else
      some (3)

noncomputable def evermoreref23_Check.body : Code := fnBody Try.f19
def evermoreref23_Check.ti : Tm := ⟨[(0, .p (.pair (.int .i64) (.pair (.slice (.slice (.int .i64))) (.pair (.slice (.int .i64)) .unit))))], []⟩
def evermoreref23_Check.to : Tm := ⟨[(0, .p (.int .i64))], []⟩
def evermoreref23_Check.rs (r : Int) : List Dat := [⟨(.int .i64), r⟩]
def evermoreref23_Check.out (ds : List Dat) : Option (Int) := pop (.int .i64) ds fun x0 ds => popN ds (some (x0))
def evermoreref23_Check.c (k : Nat) (ds : List Dat) : Option (Int) := pop (.pair (.int .i64) (.pair (.slice (.slice (.int .i64))) (.pair (.slice (.int .i64)) .unit))) ds fun x0 ds => popN ds (evermoreref23_Check.f k x0)
def evermoreref23_Check.g : Nat → List Dat → Option (Int)
 | 0, _ => none
 | k + 1, ds => evermoreref23_Check.c k ds
def evermoreref23_Check.env (k : Nat) : Nat → List SV → List Chunk → KT (Int) → Option (Int) := env0
def evermoreref23_Check.t19 : Tm := ⟨[(1, .ptr 0 0), (3, .p (.int .i64)), (4, .p (.int .i64))], [.box [.p (.int .i64), .p (.slice (.slice (.int .i64))), .p (.slice (.int .i64))] 34]⟩
def evermoreref23_Check.c19 (k : Nat) (ds : List Dat) : Option (Int) := pop (.int .i64) ds fun x0 ds => pop (.int .i64) ds fun x1 ds => pop (.int .i64) ds fun x2 ds => pop (.slice (.slice (.int .i64))) ds fun x3 ds => pop (.slice (.int .i64)) ds fun x4 ds => popN ds (evermoreref23_Check.l9 k x0 x1 x2 x3 x4)
def evermoreref23_Check.t29 : Tm := ⟨[(1, .ptr 0 0), (3, .p (.int .i64)), (5, .p (.int .i64))], [.box [.p (.int .i64), .p (.slice (.slice (.int .i64))), .p (.slice (.int .i64))] 34]⟩
def evermoreref23_Check.c29 (k : Nat) (ds : List Dat) : Option (Int) := pop (.int .i64) ds fun x0 ds => pop (.int .i64) ds fun x1 ds => pop (.int .i64) ds fun x2 ds => pop (.slice (.slice (.int .i64))) ds fun x3 ds => pop (.slice (.int .i64)) ds fun x4 ds => popN ds (evermoreref23_Check.l14 k x0 x1 x2 x3 x4)
def evermoreref23_Check.t35 : Tm := ⟨[(1, .ptr 0 0), (3, .p (.int .i64)), (5, .p (.int .i64)), (6, .p (.int .i64))], [.box [.p (.int .i64), .p (.slice (.slice (.int .i64))), .p (.slice (.int .i64))] 34]⟩
def evermoreref23_Check.c35 (k : Nat) (ds : List Dat) : Option (Int) := pop (.int .i64) ds fun x0 ds => pop (.int .i64) ds fun x1 ds => pop (.int .i64) ds fun x2 ds => pop (.int .i64) ds fun x3 ds => pop (.slice (.slice (.int .i64))) ds fun x4 ds => pop (.slice (.int .i64)) ds fun x5 ds => popN ds (evermoreref23_Check.l17 k x0 x1 x2 x3 x4 x5)
def evermoreref23_Check.tbl : List (Nat × Tm × (Nat → List Dat → Option (Int))) := [(19, evermoreref23_Check.t19, evermoreref23_Check.c19), (29, evermoreref23_Check.t29, evermoreref23_Check.c29), (35, evermoreref23_Check.t35, evermoreref23_Check.c35)]
theorem evermoreref23_Check.e19 (k : Nat) (x0 : Int) (x1 : Int) (x2 : Int) (x3 : (List (List Int))) (x4 : (List Int)) : evermoreref23_Check.l9 (k + 1) x0 x1 x2 x3 x4 = run T (evermoreref23_Check.env k) Try.f19.ntmps (cutE 0 evermoreref23_Check.tbl k) (finE 0 evermoreref23_Check.to evermoreref23_Check.out) (fnRes Try.f19) [] 100000 true (start (stackOf 19 evermoreref23_Check.body)) (evermoreref23_Check.t19.fill [⟨(.int .i64), x0⟩, ⟨(.int .i64), x1⟩, ⟨(.int .i64), x2⟩, ⟨(.slice (.slice (.int .i64))), x3⟩, ⟨(.slice (.int .i64)), x4⟩]) := by kernel_rfl
theorem evermoreref23_Check.s19 : stackAt 19 evermoreref23_Check.body [] = some (stackOf 19 evermoreref23_Check.body) := by kernel_rfl
theorem evermoreref23_Check.h19 (k : Nat) (ds : List Dat) (r : Int) (h : evermoreref23_Check.c19 k ds = some r) : ∃ k', k' < k ∧ ∃ s, stackAt 19 evermoreref23_Check.body [] = some s ∧ run T (evermoreref23_Check.env k') Try.f19.ntmps (cutE 0 evermoreref23_Check.tbl k') (finE 0 evermoreref23_Check.to evermoreref23_Check.out) (fnRes Try.f19) [] 100000 true (start s) (evermoreref23_Check.t19.fill ds) = some r := by
  unfold evermoreref23_Check.c19 at h
  obtain ⟨x0, d0, e0, h0⟩ := pop_some h; clear h; subst e0; have h := h0; clear h0
  obtain ⟨x1, d1, e1, h1⟩ := pop_some h; clear h; subst e1; have h := h1; clear h1
  obtain ⟨x2, d2, e2, h2⟩ := pop_some h; clear h; subst e2; have h := h2; clear h2
  obtain ⟨x3, d3, e3, h3⟩ := pop_some h; clear h; subst e3; have h := h3; clear h3
  obtain ⟨x4, d4, e4, h4⟩ := pop_some h; clear h; subst e4; have h := h4; clear h4
  obtain ⟨eN, hN⟩ := popN_some h; clear h; subst eN; have h := hN; clear hN
  cases k with
  | zero => cases (show none = some r from h)
  | succ k => exact ⟨k, Nat.lt_succ_self k, _, evermoreref23_Check.s19, (evermoreref23_Check.e19 k x0 x1 x2 x3 x4).symm.trans h⟩
theorem evermoreref23_Check.e29 (k : Nat) (x0 : Int) (x1 : Int) (x2 : Int) (x3 : (List (List Int))) (x4 : (List Int)) : evermoreref23_Check.l14 (k + 1) x0 x1 x2 x3 x4 = run T (evermoreref23_Check.env k) Try.f19.ntmps (cutE 0 evermoreref23_Check.tbl k) (finE 0 evermoreref23_Check.to evermoreref23_Check.out) (fnRes Try.f19) [] 100000 true (start (stackOf 29 evermoreref23_Check.body)) (evermoreref23_Check.t29.fill [⟨(.int .i64), x0⟩, ⟨(.int .i64), x1⟩, ⟨(.int .i64), x2⟩, ⟨(.slice (.slice (.int .i64))), x3⟩, ⟨(.slice (.int .i64)), x4⟩]) := by kernel_rfl
theorem evermoreref23_Check.s29 : stackAt 29 evermoreref23_Check.body [] = some (stackOf 29 evermoreref23_Check.body) := by kernel_rfl
theorem evermoreref23_Check.h29 (k : Nat) (ds : List Dat) (r : Int) (h : evermoreref23_Check.c29 k ds = some r) : ∃ k', k' < k ∧ ∃ s, stackAt 29 evermoreref23_Check.body [] = some s ∧ run T (evermoreref23_Check.env k') Try.f19.ntmps (cutE 0 evermoreref23_Check.tbl k') (finE 0 evermoreref23_Check.to evermoreref23_Check.out) (fnRes Try.f19) [] 100000 true (start s) (evermoreref23_Check.t29.fill ds) = some r := by
  unfold evermoreref23_Check.c29 at h
  obtain ⟨x0, d0, e0, h0⟩ := pop_some h; clear h; subst e0; have h := h0; clear h0
  obtain ⟨x1, d1, e1, h1⟩ := pop_some h; clear h; subst e1; have h := h1; clear h1
  obtain ⟨x2, d2, e2, h2⟩ := pop_some h; clear h; subst e2; have h := h2; clear h2
  obtain ⟨x3, d3, e3, h3⟩ := pop_some h; clear h; subst e3; have h := h3; clear h3
  obtain ⟨x4, d4, e4, h4⟩ := pop_some h; clear h; subst e4; have h := h4; clear h4
  obtain ⟨eN, hN⟩ := popN_some h; clear h; subst eN; have h := hN; clear hN
  cases k with
  | zero => cases (show none = some r from h)
  | succ k => exact ⟨k, Nat.lt_succ_self k, _, evermoreref23_Check.s29, (evermoreref23_Check.e29 k x0 x1 x2 x3 x4).symm.trans h⟩
theorem evermoreref23_Check.e35 (k : Nat) (x0 : Int) (x1 : Int) (x2 : Int) (x3 : Int) (x4 : (List (List Int))) (x5 : (List Int)) : evermoreref23_Check.l17 (k + 1) x0 x1 x2 x3 x4 x5 = run T (evermoreref23_Check.env k) Try.f19.ntmps (cutE 0 evermoreref23_Check.tbl k) (finE 0 evermoreref23_Check.to evermoreref23_Check.out) (fnRes Try.f19) [] 100000 true (start (stackOf 35 evermoreref23_Check.body)) (evermoreref23_Check.t35.fill [⟨(.int .i64), x0⟩, ⟨(.int .i64), x1⟩, ⟨(.int .i64), x2⟩, ⟨(.int .i64), x3⟩, ⟨(.slice (.slice (.int .i64))), x4⟩, ⟨(.slice (.int .i64)), x5⟩]) := by kernel_rfl
theorem evermoreref23_Check.s35 : stackAt 35 evermoreref23_Check.body [] = some (stackOf 35 evermoreref23_Check.body) := by kernel_rfl
theorem evermoreref23_Check.h35 (k : Nat) (ds : List Dat) (r : Int) (h : evermoreref23_Check.c35 k ds = some r) : ∃ k', k' < k ∧ ∃ s, stackAt 35 evermoreref23_Check.body [] = some s ∧ run T (evermoreref23_Check.env k') Try.f19.ntmps (cutE 0 evermoreref23_Check.tbl k') (finE 0 evermoreref23_Check.to evermoreref23_Check.out) (fnRes Try.f19) [] 100000 true (start s) (evermoreref23_Check.t35.fill ds) = some r := by
  unfold evermoreref23_Check.c35 at h
  obtain ⟨x0, d0, e0, h0⟩ := pop_some h; clear h; subst e0; have h := h0; clear h0
  obtain ⟨x1, d1, e1, h1⟩ := pop_some h; clear h; subst e1; have h := h1; clear h1
  obtain ⟨x2, d2, e2, h2⟩ := pop_some h; clear h; subst e2; have h := h2; clear h2
  obtain ⟨x3, d3, e3, h3⟩ := pop_some h; clear h; subst e3; have h := h3; clear h3
  obtain ⟨x4, d4, e4, h4⟩ := pop_some h; clear h; subst e4; have h := h4; clear h4
  obtain ⟨x5, d5, e5, h5⟩ := pop_some h; clear h; subst e5; have h := h5; clear h5
  obtain ⟨eN, hN⟩ := popN_some h; clear h; subst eN; have h := hN; clear hN
  cases k with
  | zero => cases (show none = some r from h)
  | succ k => exact ⟨k, Nat.lt_succ_self k, _, evermoreref23_Check.s35, (evermoreref23_Check.e35 k x0 x1 x2 x3 x4 x5).symm.trans h⟩
theorem evermoreref23_Check.e (k : Nat) (x0 : (Int × ((List (List Int)) × ((List Int) × Unit)))) : evermoreref23_Check.f k x0 = run T (evermoreref23_Check.env k) Try.f19.ntmps (cutE 0 evermoreref23_Check.tbl k) (finE 0 evermoreref23_Check.to evermoreref23_Check.out) (fnRes Try.f19) [] 100000 true ([.code evermoreref23_Check.body]) (evermoreref23_Check.ti.fill [⟨(.pair (.int .i64) (.pair (.slice (.slice (.int .i64))) (.pair (.slice (.int .i64)) .unit))), x0⟩]) := by kernel_rfl
theorem evermoreref23_Check.h (k : Nat) (ds : List Dat) (r : Int) (h : evermoreref23_Check.g k ds = some r) : ∃ k', k' < k ∧ run T (evermoreref23_Check.env k') Try.f19.ntmps (cutE 0 evermoreref23_Check.tbl k') (finE 0 evermoreref23_Check.to evermoreref23_Check.out) (fnRes Try.f19) [] 100000 true ([.code evermoreref23_Check.body]) (evermoreref23_Check.ti.fill ds) = some r := by
  cases k with
  | zero => cases (show none = some r from h)
  | succ k =>
  replace h : evermoreref23_Check.c k ds = some r := h
  unfold evermoreref23_Check.c at h
  obtain ⟨x0, d0, e0, h0⟩ := pop_some h; clear h; subst e0; have h := h0; clear h0
  obtain ⟨eN, hN⟩ := popN_some h; clear h; subst eN; have h := hN; clear hN
  exact ⟨k, Nat.lt_succ_self k, (evermoreref23_Check.e k x0).symm.trans h⟩
theorem evermoreref23_Check.o (ds : List Dat) (r : Int) (h : evermoreref23_Check.out ds = some r) : ds = evermoreref23_Check.rs r := by
  unfold evermoreref23_Check.out at h
  obtain ⟨x0, d0, e0, h0⟩ := pop_some h; clear h; subst e0; have h := h0; clear h0
  obtain ⟨eN, hN⟩ := popN_some h; clear h; subst eN; have h := hN; clear hN
  cases h
  rfl
theorem evermoreref23_Check.fn : FnOk Try.prog 19 Try.f19 evermoreref23_Check.body Try.f19.ntmps 1 (fnRes Try.f19) :=
  fnOk_of (by kernel_rfl) (by kernel_rfl) (by kernel_rfl) (by kernel_rfl)
theorem evermoreref23_Check.con' : ∀ k ds r, evermoreref23_Check.g k ds = some r → Con Try.prog 19 1 evermoreref23_Check.ti evermoreref23_Check.to ds (evermoreref23_Check.rs r) :=
  fun_ok (T := T) T_ok mixed evermoreref23_Check.fn (env := evermoreref23_Check.env) (tbl := evermoreref23_Check.tbl) (gOut := evermoreref23_Check.out) (nin := 0) (cuts := []) (fuel := 100000) rfl (by kernel_rfl) (by kernel_rfl) (by kernel_rfl) (fun x hx => by
    simp only [evermoreref23_Check.tbl, List.mem_cons, List.not_mem_nil, or_false] at hx
    rcases hx with rfl | rfl | rfl
    · exact evermoreref23_Check.h19
    · exact evermoreref23_Check.h29
    · exact evermoreref23_Check.h35
) evermoreref23_Check.o evermoreref23_Check.h (fun k _ => by unfold evermoreref23_Check.env; exact env0_ok)
theorem evermoreref23_Check.con (k : Nat) {x0 : (Int × ((List (List Int)) × ((List Int) × Unit)))} (r : Int) (h : evermoreref23_Check.f k x0 = some r) : Con Try.prog 19 1 evermoreref23_Check.ti evermoreref23_Check.to [⟨(.pair (.int .i64) (.pair (.slice (.slice (.int .i64))) (.pair (.slice (.int .i64)) .unit))), x0⟩] (evermoreref23_Check.rs r) :=
  evermoreref23_Check.con' (k + 1) _ r (by show evermoreref23_Check.c k _ = some r; unfold evermoreref23_Check.c; simp only [pop_self, popN]; exact h)
mutual
def evermoreref23_kept.l3 : Nat → List (Int) → List (Bool) → Int → List (Int) → Option (List Int)
 | 0, _, _, _, _ => none
 | k + 1, l0, met1, a6, out5 =>
  if a6 < (↑l0.length : Int) then
   if 0 ≤ a6 then
   if a6 < (↑l0.length : Int) then
    if 0 ≤ a6 then
     if a6 < (↑met1.length : Int) then
      if Go.Proofs.YtklkcdphcmimoaaSx.rd false met1 a6 = true then
        evermoreref23_kept.j8 k l0 met1 a6 (Go.Proofs.YtklkcdphcmimoaaSx.rd (Int.ofNat 0) l0 a6) out5
       else
        evermoreref23_kept.j8 k l0 met1 a6 0 out5
      else none
     else none
    else none
   else none
  else
   some (out5)
def evermoreref23_kept.j8 : Nat → List (Int) → List (Bool) → Int → Int → List (Int) → Option (List Int)
 | 0, _, _, _, _, _ => none
 | k + 1, l0, met1, a6, x7, out5 =>
  if (out5 ++ [x7]).length.blt 1000000000 = true then
  evermoreref23_kept.l3 k l0 met1 (Go.IntKind.i64.wrap (a6 + 1)) (out5 ++ [x7])
  else none
end
def evermoreref23_kept.f (k : Nat) (l0 : List (Int)) (met1 : List (Bool)) : Option (List Int) :=
 evermoreref23_kept.l3 k l0 met1 0 []

noncomputable def evermoreref23_kept.body : Code := fnBody Try.f77
def evermoreref23_kept.ti : Tm := ⟨[(0, .p (.slice (.int .i64))), (1, .p (.slice .bool))], []⟩
def evermoreref23_kept.to : Tm := ⟨[(0, .own 0)], [.own (.int .i64)]⟩
def evermoreref23_kept.rs (r : (List Int)) : List Dat := [⟨(.slice (.int .i64)), r⟩]
def evermoreref23_kept.out (ds : List Dat) : Option ((List Int)) := pop (.slice (.int .i64)) ds fun x0 ds => popN ds (some (x0))
def evermoreref23_kept.c (k : Nat) (ds : List Dat) : Option ((List Int)) := pop (.slice (.int .i64)) ds fun x0 ds => pop (.slice .bool) ds fun x1 ds => popN ds (evermoreref23_kept.f k x0 x1)
def evermoreref23_kept.g : Nat → List Dat → Option ((List Int))
 | 0, _ => none
 | k + 1, ds => evermoreref23_kept.c k ds
def evermoreref23_kept.env (k : Nat) : Nat → List SV → List Chunk → KT ((List Int)) → Option ((List Int)) := env0
def evermoreref23_kept.t7 : Tm := ⟨[(0, .p (.slice (.int .i64))), (1, .p (.slice .bool)), (5, .own 0), (6, .p (.int .i64))], [.own (.int .i64)]⟩
def evermoreref23_kept.c7 (k : Nat) (ds : List Dat) : Option ((List Int)) := pop (.slice (.int .i64)) ds fun x0 ds => pop (.slice .bool) ds fun x1 ds => pop (.int .i64) ds fun x2 ds => pop (.slice (.int .i64)) ds fun x3 ds => popN ds (evermoreref23_kept.l3 k x0 x1 x2 x3)
def evermoreref23_kept.t16 : Tm := ⟨[(0, .p (.slice (.int .i64))), (1, .p (.slice .bool)), (5, .own 0), (6, .p (.int .i64)), (7, .p (.int .i64))], [.own (.int .i64)]⟩
def evermoreref23_kept.c16 (k : Nat) (ds : List Dat) : Option ((List Int)) := pop (.slice (.int .i64)) ds fun x0 ds => pop (.slice .bool) ds fun x1 ds => pop (.int .i64) ds fun x2 ds => pop (.int .i64) ds fun x3 ds => pop (.slice (.int .i64)) ds fun x4 ds => popN ds (evermoreref23_kept.j8 k x0 x1 x2 x3 x4)
def evermoreref23_kept.tbl : List (Nat × Tm × (Nat → List Dat → Option ((List Int)))) := [(7, evermoreref23_kept.t7, evermoreref23_kept.c7), (16, evermoreref23_kept.t16, evermoreref23_kept.c16)]
theorem evermoreref23_kept.e7 (k : Nat) (x0 : (List Int)) (x1 : (List Bool)) (x2 : Int) (x3 : (List Int)) : evermoreref23_kept.l3 (k + 1) x0 x1 x2 x3 = run T (evermoreref23_kept.env k) Try.f77.ntmps (cutE 0 evermoreref23_kept.tbl k) (finE 0 evermoreref23_kept.to evermoreref23_kept.out) (fnRes Try.f77) [8] 100000 true (start (stackOf 7 evermoreref23_kept.body)) (evermoreref23_kept.t7.fill [⟨(.slice (.int .i64)), x0⟩, ⟨(.slice .bool), x1⟩, ⟨(.int .i64), x2⟩, ⟨(.slice (.int .i64)), x3⟩]) := by kernel_rfl
theorem evermoreref23_kept.s7 : stackAt 7 evermoreref23_kept.body [] = some (stackOf 7 evermoreref23_kept.body) := by kernel_rfl
theorem evermoreref23_kept.h7 (k : Nat) (ds : List Dat) (r : (List Int)) (h : evermoreref23_kept.c7 k ds = some r) : ∃ k', k' < k ∧ ∃ s, stackAt 7 evermoreref23_kept.body [] = some s ∧ run T (evermoreref23_kept.env k') Try.f77.ntmps (cutE 0 evermoreref23_kept.tbl k') (finE 0 evermoreref23_kept.to evermoreref23_kept.out) (fnRes Try.f77) [8] 100000 true (start s) (evermoreref23_kept.t7.fill ds) = some r := by
  unfold evermoreref23_kept.c7 at h
  obtain ⟨x0, d0, e0, h0⟩ := pop_some h; clear h; subst e0; have h := h0; clear h0
  obtain ⟨x1, d1, e1, h1⟩ := pop_some h; clear h; subst e1; have h := h1; clear h1
  obtain ⟨x2, d2, e2, h2⟩ := pop_some h; clear h; subst e2; have h := h2; clear h2
  obtain ⟨x3, d3, e3, h3⟩ := pop_some h; clear h; subst e3; have h := h3; clear h3
  obtain ⟨eN, hN⟩ := popN_some h; clear h; subst eN; have h := hN; clear hN
  cases k with
  | zero => cases (show none = some r from h)
  | succ k => exact ⟨k, Nat.lt_succ_self k, _, evermoreref23_kept.s7, (evermoreref23_kept.e7 k x0 x1 x2 x3).symm.trans h⟩
theorem evermoreref23_kept.e16 (k : Nat) (x0 : (List Int)) (x1 : (List Bool)) (x2 : Int) (x3 : Int) (x4 : (List Int)) : evermoreref23_kept.j8 (k + 1) x0 x1 x2 x3 x4 = run T (evermoreref23_kept.env k) Try.f77.ntmps (cutE 0 evermoreref23_kept.tbl k) (finE 0 evermoreref23_kept.to evermoreref23_kept.out) (fnRes Try.f77) [8] 100000 true (start (stackOf 16 evermoreref23_kept.body)) (evermoreref23_kept.t16.fill [⟨(.slice (.int .i64)), x0⟩, ⟨(.slice .bool), x1⟩, ⟨(.int .i64), x2⟩, ⟨(.int .i64), x3⟩, ⟨(.slice (.int .i64)), x4⟩]) := by kernel_rfl
theorem evermoreref23_kept.s16 : stackAt 16 evermoreref23_kept.body [] = some (stackOf 16 evermoreref23_kept.body) := by kernel_rfl
theorem evermoreref23_kept.h16 (k : Nat) (ds : List Dat) (r : (List Int)) (h : evermoreref23_kept.c16 k ds = some r) : ∃ k', k' < k ∧ ∃ s, stackAt 16 evermoreref23_kept.body [] = some s ∧ run T (evermoreref23_kept.env k') Try.f77.ntmps (cutE 0 evermoreref23_kept.tbl k') (finE 0 evermoreref23_kept.to evermoreref23_kept.out) (fnRes Try.f77) [8] 100000 true (start s) (evermoreref23_kept.t16.fill ds) = some r := by
  unfold evermoreref23_kept.c16 at h
  obtain ⟨x0, d0, e0, h0⟩ := pop_some h; clear h; subst e0; have h := h0; clear h0
  obtain ⟨x1, d1, e1, h1⟩ := pop_some h; clear h; subst e1; have h := h1; clear h1
  obtain ⟨x2, d2, e2, h2⟩ := pop_some h; clear h; subst e2; have h := h2; clear h2
  obtain ⟨x3, d3, e3, h3⟩ := pop_some h; clear h; subst e3; have h := h3; clear h3
  obtain ⟨x4, d4, e4, h4⟩ := pop_some h; clear h; subst e4; have h := h4; clear h4
  obtain ⟨eN, hN⟩ := popN_some h; clear h; subst eN; have h := hN; clear hN
  cases k with
  | zero => cases (show none = some r from h)
  | succ k => exact ⟨k, Nat.lt_succ_self k, _, evermoreref23_kept.s16, (evermoreref23_kept.e16 k x0 x1 x2 x3 x4).symm.trans h⟩
theorem evermoreref23_kept.e (k : Nat) (x0 : (List Int)) (x1 : (List Bool)) : evermoreref23_kept.f k x0 x1 = run T (evermoreref23_kept.env k) Try.f77.ntmps (cutE 0 evermoreref23_kept.tbl k) (finE 0 evermoreref23_kept.to evermoreref23_kept.out) (fnRes Try.f77) [8] 100000 true ([.code evermoreref23_kept.body]) (evermoreref23_kept.ti.fill [⟨(.slice (.int .i64)), x0⟩, ⟨(.slice .bool), x1⟩]) := by kernel_rfl
theorem evermoreref23_kept.h (k : Nat) (ds : List Dat) (r : (List Int)) (h : evermoreref23_kept.g k ds = some r) : ∃ k', k' < k ∧ run T (evermoreref23_kept.env k') Try.f77.ntmps (cutE 0 evermoreref23_kept.tbl k') (finE 0 evermoreref23_kept.to evermoreref23_kept.out) (fnRes Try.f77) [8] 100000 true ([.code evermoreref23_kept.body]) (evermoreref23_kept.ti.fill ds) = some r := by
  cases k with
  | zero => cases (show none = some r from h)
  | succ k =>
  replace h : evermoreref23_kept.c k ds = some r := h
  unfold evermoreref23_kept.c at h
  obtain ⟨x0, d0, e0, h0⟩ := pop_some h; clear h; subst e0; have h := h0; clear h0
  obtain ⟨x1, d1, e1, h1⟩ := pop_some h; clear h; subst e1; have h := h1; clear h1
  obtain ⟨eN, hN⟩ := popN_some h; clear h; subst eN; have h := hN; clear hN
  exact ⟨k, Nat.lt_succ_self k, (evermoreref23_kept.e k x0 x1).symm.trans h⟩
theorem evermoreref23_kept.o (ds : List Dat) (r : (List Int)) (h : evermoreref23_kept.out ds = some r) : ds = evermoreref23_kept.rs r := by
  unfold evermoreref23_kept.out at h
  obtain ⟨x0, d0, e0, h0⟩ := pop_some h; clear h; subst e0; have h := h0; clear h0
  obtain ⟨eN, hN⟩ := popN_some h; clear h; subst eN; have h := hN; clear hN
  cases h
  rfl
theorem evermoreref23_kept.fn : FnOk Try.prog 77 Try.f77 evermoreref23_kept.body Try.f77.ntmps 2 (fnRes Try.f77) :=
  fnOk_of (by kernel_rfl) (by kernel_rfl) (by kernel_rfl) (by kernel_rfl)
theorem evermoreref23_kept.con' : ∀ k ds r, evermoreref23_kept.g k ds = some r → Con Try.prog 77 2 evermoreref23_kept.ti evermoreref23_kept.to ds (evermoreref23_kept.rs r) :=
  fun_ok (T := T) T_ok mixed evermoreref23_kept.fn (env := evermoreref23_kept.env) (tbl := evermoreref23_kept.tbl) (gOut := evermoreref23_kept.out) (nin := 0) (cuts := [8]) (fuel := 100000) rfl (by kernel_rfl) (by kernel_rfl) (by kernel_rfl) (fun x hx => by
    simp only [evermoreref23_kept.tbl, List.mem_cons, List.not_mem_nil, or_false] at hx
    rcases hx with rfl | rfl
    · exact evermoreref23_kept.h7
    · exact evermoreref23_kept.h16
) evermoreref23_kept.o evermoreref23_kept.h (fun k _ => by unfold evermoreref23_kept.env; exact env0_ok)
theorem evermoreref23_kept.con (k : Nat) {x0 : (List Int)} {x1 : (List Bool)} (r : (List Int)) (h : evermoreref23_kept.f k x0 x1 = some r) : Con Try.prog 77 2 evermoreref23_kept.ti evermoreref23_kept.to [⟨(.slice (.int .i64)), x0⟩, ⟨(.slice .bool), x1⟩] (evermoreref23_kept.rs r) :=
  evermoreref23_kept.con' (k + 1) _ r (by show evermoreref23_kept.c k _ = some r; unfold evermoreref23_kept.c; simp only [pop_self, popN]; exact h)
mutual
def evermoreref1_Words.l4 : Nat → List (Int) → List (Int) → Int → Option (Bool)
 | 0, _, _, _ => none
 | k + 1, a0, b1, i5 =>
  if i5 < (↑a0.length : Int) then
   if 0 ≤ i5 then
   if i5 < (↑a0.length : Int) then
    if 0 ≤ i5 then
     if i5 < (↑b1.length : Int) then
      if Go.Proofs.YtklkcdphcmimoaaSx.rd (Int.ofNat 0) a0 i5 = Go.Proofs.YtklkcdphcmimoaaSx.rd (Int.ofNat 0) b1 i5 then
        evermoreref1_Words.l4 k a0 b1 (Go.IntKind.i64.wrap (i5 + 1))
       else
        some (false)
      else none
     else none
    else none
   else none
  else
   some (true)
end
def evermoreref1_Words.f (k : Nat) (a0 : List (Int)) (b1 : List (Int)) : Option (Bool) :=
 if (↑a0.length : Int) = (↑b1.length : Int) then
  evermoreref1_Words.l4 k a0 b1 0
 else
  some (false)

noncomputable def evermoreref1_Words.body : Code := fnBody Try.f37
def evermoreref1_Words.ti : Tm := ⟨[(0, .p (.slice (.int .i64))), (1, .p (.slice (.int .i64)))], []⟩
def evermoreref1_Words.to : Tm := ⟨[(0, .p .bool)], []⟩
def evermoreref1_Words.rs (r : Bool) : List Dat := [⟨.bool, r⟩]
def evermoreref1_Words.out (ds : List Dat) : Option (Bool) := pop .bool ds fun x0 ds => popN ds (some (x0))
def evermoreref1_Words.c (k : Nat) (ds : List Dat) : Option (Bool) := pop (.slice (.int .i64)) ds fun x0 ds => pop (.slice (.int .i64)) ds fun x1 ds => popN ds (evermoreref1_Words.f k x0 x1)
def evermoreref1_Words.g : Nat → List Dat → Option (Bool)
 | 0, _ => none
 | k + 1, ds => evermoreref1_Words.c k ds
def evermoreref1_Words.env (k : Nat) : Nat → List SV → List Chunk → KT (Bool) → Option (Bool) := env0
def evermoreref1_Words.t9 : Tm := ⟨[(0, .p (.slice (.int .i64))), (1, .p (.slice (.int .i64))), (5, .p (.int .i64))], []⟩
def evermoreref1_Words.c9 (k : Nat) (ds : List Dat) : Option (Bool) := pop (.slice (.int .i64)) ds fun x0 ds => pop (.slice (.int .i64)) ds fun x1 ds => pop (.int .i64) ds fun x2 ds => popN ds (evermoreref1_Words.l4 k x0 x1 x2)
def evermoreref1_Words.tbl : List (Nat × Tm × (Nat → List Dat → Option (Bool))) := [(9, evermoreref1_Words.t9, evermoreref1_Words.c9)]
theorem evermoreref1_Words.e9 (k : Nat) (x0 : (List Int)) (x1 : (List Int)) (x2 : Int) : evermoreref1_Words.l4 (k + 1) x0 x1 x2 = run T (evermoreref1_Words.env k) Try.f37.ntmps (cutE 0 evermoreref1_Words.tbl k) (finE 0 evermoreref1_Words.to evermoreref1_Words.out) (fnRes Try.f37) [] 100000 true (start (stackOf 9 evermoreref1_Words.body)) (evermoreref1_Words.t9.fill [⟨(.slice (.int .i64)), x0⟩, ⟨(.slice (.int .i64)), x1⟩, ⟨(.int .i64), x2⟩]) := by kernel_rfl
theorem evermoreref1_Words.s9 : stackAt 9 evermoreref1_Words.body [] = some (stackOf 9 evermoreref1_Words.body) := by kernel_rfl
theorem evermoreref1_Words.h9 (k : Nat) (ds : List Dat) (r : Bool) (h : evermoreref1_Words.c9 k ds = some r) : ∃ k', k' < k ∧ ∃ s, stackAt 9 evermoreref1_Words.body [] = some s ∧ run T (evermoreref1_Words.env k') Try.f37.ntmps (cutE 0 evermoreref1_Words.tbl k') (finE 0 evermoreref1_Words.to evermoreref1_Words.out) (fnRes Try.f37) [] 100000 true (start s) (evermoreref1_Words.t9.fill ds) = some r := by
  unfold evermoreref1_Words.c9 at h
  obtain ⟨x0, d0, e0, h0⟩ := pop_some h; clear h; subst e0; have h := h0; clear h0
  obtain ⟨x1, d1, e1, h1⟩ := pop_some h; clear h; subst e1; have h := h1; clear h1
  obtain ⟨x2, d2, e2, h2⟩ := pop_some h; clear h; subst e2; have h := h2; clear h2
  obtain ⟨eN, hN⟩ := popN_some h; clear h; subst eN; have h := hN; clear hN
  cases k with
  | zero => cases (show none = some r from h)
  | succ k => exact ⟨k, Nat.lt_succ_self k, _, evermoreref1_Words.s9, (evermoreref1_Words.e9 k x0 x1 x2).symm.trans h⟩
theorem evermoreref1_Words.e (k : Nat) (x0 : (List Int)) (x1 : (List Int)) : evermoreref1_Words.f k x0 x1 = run T (evermoreref1_Words.env k) Try.f37.ntmps (cutE 0 evermoreref1_Words.tbl k) (finE 0 evermoreref1_Words.to evermoreref1_Words.out) (fnRes Try.f37) [] 100000 true ([.code evermoreref1_Words.body]) (evermoreref1_Words.ti.fill [⟨(.slice (.int .i64)), x0⟩, ⟨(.slice (.int .i64)), x1⟩]) := by kernel_rfl
theorem evermoreref1_Words.h (k : Nat) (ds : List Dat) (r : Bool) (h : evermoreref1_Words.g k ds = some r) : ∃ k', k' < k ∧ run T (evermoreref1_Words.env k') Try.f37.ntmps (cutE 0 evermoreref1_Words.tbl k') (finE 0 evermoreref1_Words.to evermoreref1_Words.out) (fnRes Try.f37) [] 100000 true ([.code evermoreref1_Words.body]) (evermoreref1_Words.ti.fill ds) = some r := by
  cases k with
  | zero => cases (show none = some r from h)
  | succ k =>
  replace h : evermoreref1_Words.c k ds = some r := h
  unfold evermoreref1_Words.c at h
  obtain ⟨x0, d0, e0, h0⟩ := pop_some h; clear h; subst e0; have h := h0; clear h0
  obtain ⟨x1, d1, e1, h1⟩ := pop_some h; clear h; subst e1; have h := h1; clear h1
  obtain ⟨eN, hN⟩ := popN_some h; clear h; subst eN; have h := hN; clear hN
  exact ⟨k, Nat.lt_succ_self k, (evermoreref1_Words.e k x0 x1).symm.trans h⟩
theorem evermoreref1_Words.o (ds : List Dat) (r : Bool) (h : evermoreref1_Words.out ds = some r) : ds = evermoreref1_Words.rs r := by
  unfold evermoreref1_Words.out at h
  obtain ⟨x0, d0, e0, h0⟩ := pop_some h; clear h; subst e0; have h := h0; clear h0
  obtain ⟨eN, hN⟩ := popN_some h; clear h; subst eN; have h := hN; clear hN
  cases h
  rfl
theorem evermoreref1_Words.fn : FnOk Try.prog 37 Try.f37 evermoreref1_Words.body Try.f37.ntmps 2 (fnRes Try.f37) :=
  fnOk_of (by kernel_rfl) (by kernel_rfl) (by kernel_rfl) (by kernel_rfl)
theorem evermoreref1_Words.con' : ∀ k ds r, evermoreref1_Words.g k ds = some r → Con Try.prog 37 2 evermoreref1_Words.ti evermoreref1_Words.to ds (evermoreref1_Words.rs r) :=
  fun_ok (T := T) T_ok mixed evermoreref1_Words.fn (env := evermoreref1_Words.env) (tbl := evermoreref1_Words.tbl) (gOut := evermoreref1_Words.out) (nin := 0) (cuts := []) (fuel := 100000) rfl (by kernel_rfl) (by kernel_rfl) (by kernel_rfl) (fun x hx => by
    simp only [evermoreref1_Words.tbl, List.mem_cons, List.not_mem_nil, or_false] at hx
    subst hx
    · exact evermoreref1_Words.h9
) evermoreref1_Words.o evermoreref1_Words.h (fun k _ => by unfold evermoreref1_Words.env; exact env0_ok)
theorem evermoreref1_Words.con (k : Nat) {x0 : (List Int)} {x1 : (List Int)} (r : Bool) (h : evermoreref1_Words.f k x0 x1 = some r) : Con Try.prog 37 2 evermoreref1_Words.ti evermoreref1_Words.to [⟨(.slice (.int .i64)), x0⟩, ⟨(.slice (.int .i64)), x1⟩] (evermoreref1_Words.rs r) :=
  evermoreref1_Words.con' (k + 1) _ r (by show evermoreref1_Words.c k _ = some r; unfold evermoreref1_Words.c; simp only [pop_self, popN]; exact h)
mutual
def evermoreref23_Kernel.l4 : Nat → Bool → Int → List (List (Int)) → List (Int) → List (Bool) → Option (Int)
 | 0, _, _, _, _, _ => none
 | k + 1, again4, m1_0, m1_1, m1_2, met3 =>
  if again4 = true then
   evermoreref23_Kernel.l7 k false 0 m1_0 m1_1 m1_2 met3
  else
   (evermoreref23_kept.f k m1_2 met3).bind fun r3 =>
    evermoreref23_Kernel.l18 k 0 m1_0 m1_1 m1_2 met3 [r3]
def evermoreref23_Kernel.l7 : Nat → Bool → Int → Int → List (List (Int)) → List (Int) → List (Bool) → Option (Int)
 | 0, _, _, _, _, _, _ => none
 | k + 1, again4, a5, m1_0, m1_1, m1_2, met3 =>
  if a5 < (↑m1_1.length : Int) then
   evermoreref23_Kernel.l10 k again4 a5 0 m1_0 m1_1 m1_2 met3
  else
   evermoreref23_Kernel.l4 k again4 m1_0 m1_1 m1_2 met3
def evermoreref23_Kernel.l18 : Nat → Int → Int → List (List (Int)) → List (Int) → List (Bool) → List (List (Int)) → Option (Int)
 | 0, _, _, _, _, _, _ => none
 | k + 1, i10, m1_0, m1_1, m1_2, met3, l9 =>
  if i10 < (↑l9.length : Int) then
   evermoreref23_Kernel.l21 k i10 0 m1_0 m1_1 m1_2 met3 l9
  else
   some ((↑l9.length : Int))
def evermoreref23_Kernel.l10 : Nat → Bool → Int → Int → Int → List (List (Int)) → List (Int) → List (Bool) → Option (Int)
 | 0, _, _, _, _, _, _, _ => none
 | k + 1, again4, a5, k6, m1_0, m1_1, m1_2, met3 =>
  if k6 < m1_0 then
   if 0 ≤ a5 then
   if a5 < (↑met3.length : Int) then
    if met3.getD a5.toNat false = true then
      if 0 ≤ a5 then
      if a5 < (↑m1_1.length : Int) then
       if 0 ≤ k6 then
        if k6 < (↑(Go.Proofs.YtklkcdphcmimoaaSx.rd [] m1_1 a5).length : Int) then
         if again4 = true then
           if 0 ≤ Go.Proofs.YtklkcdphcmimoaaSx.rd (Int.ofNat 0) (Go.Proofs.YtklkcdphcmimoaaSx.rd [] m1_1 a5) k6 then
           if Go.Proofs.YtklkcdphcmimoaaSx.rd (Int.ofNat 0) (Go.Proofs.YtklkcdphcmimoaaSx.rd [] m1_1 a5) k6 < (↑met3.length : Int) then
            evermoreref23_Kernel.l10 k true a5 (Go.IntKind.i64.wrap (k6 + 1)) m1_0 m1_1 m1_2 (met3.set (Go.Proofs.YtklkcdphcmimoaaSx.rd (Int.ofNat 0) (Go.Proofs.YtklkcdphcmimoaaSx.rd [] m1_1 a5) k6).toNat true)
            else none
           else none
          else
           if 0 ≤ Go.Proofs.YtklkcdphcmimoaaSx.rd (Int.ofNat 0) (Go.Proofs.YtklkcdphcmimoaaSx.rd [] m1_1 a5) k6 then
           if Go.Proofs.YtklkcdphcmimoaaSx.rd (Int.ofNat 0) (Go.Proofs.YtklkcdphcmimoaaSx.rd [] m1_1 a5) k6 < (↑met3.length : Int) then
            if 0 ≤ Go.Proofs.YtklkcdphcmimoaaSx.rd (Int.ofNat 0) (Go.Proofs.YtklkcdphcmimoaaSx.rd [] m1_1 a5) k6 then
             if Go.Proofs.YtklkcdphcmimoaaSx.rd (Int.ofNat 0) (Go.Proofs.YtklkcdphcmimoaaSx.rd [] m1_1 a5) k6 < (↑met3.length : Int) then
              evermoreref23_Kernel.l10 k (!met3.getD (Go.Proofs.YtklkcdphcmimoaaSx.rd (Int.ofNat 0) (Go.Proofs.YtklkcdphcmimoaaSx.rd [] m1_1 a5) k6).toNat false) a5 (Go.IntKind.i64.wrap (k6 + 1)) m1_0 m1_1 m1_2 (met3.set (Go.Proofs.YtklkcdphcmimoaaSx.rd (Int.ofNat 0) (Go.Proofs.YtklkcdphcmimoaaSx.rd [] m1_1 a5) k6).toNat true)
              else none
             else none
            else none
           else none
         else none
        else none
       else none
      else none
     else
      evermoreref23_Kernel.l7 k again4 (Go.IntKind.i64.wrap (a5 + 1)) m1_0 m1_1 m1_2 met3
    else none
   else none
  else
   evermoreref23_Kernel.l7 k again4 (Go.IntKind.i64.wrap (a5 + 1)) m1_0 m1_1 m1_2 met3
def evermoreref23_Kernel.l21 : Nat → Int → Int → Int → List (List (Int)) → List (Int) → List (Bool) → List (List (Int)) → Option (Int)
 | 0, _, _, _, _, _, _, _ => none
 | k + 1, i10, d11, m1_0, m1_1, m1_2, met3, l9 =>
  if d11 < m1_0 then
   evermoreref23_Kernel.l25 k i10 d11 0 m1_0 m1_1 m1_2 met3 l9 []
  else
   evermoreref23_Kernel.l18 k (Go.IntKind.i64.wrap (i10 + 1)) m1_0 m1_1 m1_2 met3 l9
def evermoreref23_Kernel.l25 : Nat → Int → Int → Int → Int → List (List (Int)) → List (Int) → List (Bool) → List (List (Int)) → List (Int) → Option (Int)
 | 0, _, _, _, _, _, _, _, _, _ => none
 | k + 1, i10, d11, a13, m1_0, m1_1, m1_2, met3, l9, next12 =>
  if a13 < (↑m1_1.length : Int) then
   if 0 ≤ i10 then
   if i10 < (↑l9.length : Int) then
    if 0 ≤ a13 then
     if a13 < (↑m1_1.length : Int) then
      if 0 ≤ d11 then
       if d11 < (↑(Go.Proofs.YtklkcdphcmimoaaSx.rd [] m1_1 a13).length : Int) then
        if 0 ≤ Go.Proofs.YtklkcdphcmimoaaSx.rd (Int.ofNat 0) (Go.Proofs.YtklkcdphcmimoaaSx.rd [] m1_1 a13) d11 then
         if Go.Proofs.YtklkcdphcmimoaaSx.rd (Int.ofNat 0) (Go.Proofs.YtklkcdphcmimoaaSx.rd [] m1_1 a13) d11 < (↑(l9.getD i10.toNat []).length : Int) then
          if (next12 ++ [Go.Proofs.YtklkcdphcmimoaaSx.rd (Int.ofNat 0) (l9.getD i10.toNat []) (Go.Proofs.YtklkcdphcmimoaaSx.rd (Int.ofNat 0) (Go.Proofs.YtklkcdphcmimoaaSx.rd [] m1_1 a13) d11)]).length.blt 1000000000 = true then
           evermoreref23_Kernel.l25 k i10 d11 (Go.IntKind.i64.wrap (a13 + 1)) m1_0 m1_1 m1_2 met3 l9 (next12 ++ [Go.Proofs.YtklkcdphcmimoaaSx.rd (Int.ofNat 0) (l9.getD i10.toNat []) (Go.Proofs.YtklkcdphcmimoaaSx.rd (Int.ofNat 0) (Go.Proofs.YtklkcdphcmimoaaSx.rd [] m1_1 a13) d11)])
           else none
          else none
         else none
        else none
       else none
      else none
     else none
    else none
   else none
  else
   (evermoreref23_kept.f k next12 met3).bind fun r3 =>
    evermoreref23_Kernel.l31 k i10 d11 false 0 m1_0 m1_1 m1_2 met3 l9 r3
def evermoreref23_Kernel.l31 : Nat → Int → Int → Bool → Int → Int → List (List (Int)) → List (Int) → List (Bool) → List (List (Int)) → List (Int) → Option (Int)
 | 0, _, _, _, _, _, _, _, _, _, _ => none
 | k + 1, i10, d11, known14, k15, m1_0, m1_1, m1_2, met3, l9, next12 =>
  if k15 < (↑l9.length : Int) then
   if known14 = true then
    if known14 = true then
     evermoreref23_Kernel.j22 k i10 d11 m1_0 m1_1 m1_2 met3 l9
    else
     if (l9 ++ [next12]).length.blt 1000000000 = true then
     evermoreref23_Kernel.j22 k i10 d11 m1_0 m1_1 m1_2 met3 (l9 ++ [next12])
     else none
   else
    if 0 ≤ k15 then
    if k15 < (↑l9.length : Int) then
     (evermoreref1_Words.f k (l9.getD k15.toNat []) next12).bind fun r6 =>
       evermoreref23_Kernel.l31 k i10 d11 r6 (Go.IntKind.i64.wrap (k15 + 1)) m1_0 m1_1 m1_2 met3 l9 next12
     else none
    else none
  else
   if known14 = true then
    evermoreref23_Kernel.j22 k i10 d11 m1_0 m1_1 m1_2 met3 l9
   else
    if (l9 ++ [next12]).length.blt 1000000000 = true then
    evermoreref23_Kernel.j22 k i10 d11 m1_0 m1_1 m1_2 met3 (l9 ++ [next12])
    else none
def evermoreref23_Kernel.j22 : Nat → Int → Int → Int → List (List (Int)) → List (Int) → List (Bool) → List (List (Int)) → Option (Int)
 | 0, _, _, _, _, _, _, _ => none
 | k + 1, i10, d11, m1_0, m1_1, m1_2, met3, l9 =>
  evermoreref23_Kernel.l21 k i10 (Go.IntKind.i64.wrap (d11 + 1)) m1_0 m1_1 m1_2 met3 l9
end
def evermoreref23_Kernel.f (k : Nat) (m0 : (Int × (List (List (Int)) × (List (Int) × Unit)))) : Option (Int) :=
 if 0 ≤ (↑m0.snd.fst.length : Int) then
 if (↑m0.snd.fst.length : Int) ≤ (↑m0.snd.fst.length : Int) then
  if (↑m0.snd.fst.length : Int) * ((↑1 : Int) + 1) ≤ 1099511627776 then
   if 0 ≤ 0 then
    if 0 < (↑(List.replicate (↑m0.snd.fst.length : Int).toNat false).length : Int) then
     evermoreref23_Kernel.l4 k true m0.fst m0.snd.fst m0.snd.snd.fst ((List.replicate (↑m0.snd.fst.length : Int).toNat false).set (Int.toNat 0) true)
     else none
    else none
   else none
  else none
 else none

noncomputable def evermoreref23_Kernel.body : Code := fnBody Try.f20
def evermoreref23_Kernel.ti : Tm := ⟨[(0, .p (.pair (.int .i64) (.pair (.slice (.slice (.int .i64))) (.pair (.slice (.int .i64)) .unit))))], []⟩
def evermoreref23_Kernel.to : Tm := ⟨[(0, .p (.int .i64))], []⟩
def evermoreref23_Kernel.rs (r : Int) : List Dat := [⟨(.int .i64), r⟩]
def evermoreref23_Kernel.out (ds : List Dat) : Option (Int) := pop (.int .i64) ds fun x0 ds => popN ds (some (x0))
def evermoreref23_Kernel.c (k : Nat) (ds : List Dat) : Option (Int) := pop (.pair (.int .i64) (.pair (.slice (.slice (.int .i64))) (.pair (.slice (.int .i64)) .unit))) ds fun x0 ds => popN ds (evermoreref23_Kernel.f k x0)
def evermoreref23_Kernel.g : Nat → List Dat → Option (Int)
 | 0, _ => none
 | k + 1, ds => evermoreref23_Kernel.c k ds
def evermoreref23_Kernel.env (k : Nat) : Nat → List SV → List Chunk → KT (Int) → Option (Int) := (envC 77 2 evermoreref23_kept.ti evermoreref23_kept.to (fun ds K => pop (.slice (.int .i64)) ds fun x0 ds => pop (.slice .bool) ds fun x1 ds => popN ds ((evermoreref23_kept.f k x0 x1).bind fun r => K (evermoreref23_kept.rs r))) (envC 37 2 evermoreref1_Words.ti evermoreref1_Words.to (fun ds K => pop (.slice (.int .i64)) ds fun x0 ds => pop (.slice (.int .i64)) ds fun x1 ds => popN ds ((evermoreref1_Words.f k x0 x1).bind fun r => K (evermoreref1_Words.rs r))) env0))
def evermoreref23_Kernel.t9 : Tm := ⟨[(1, .ptr 0 0), (3, .own 1), (4, .p .bool)], [.box [.p (.int .i64), .p (.slice (.slice (.int .i64))), .p (.slice (.int .i64))] 34, .own .bool]⟩
def evermoreref23_Kernel.c9 (k : Nat) (ds : List Dat) : Option (Int) := pop .bool ds fun x0 ds => pop (.int .i64) ds fun x1 ds => pop (.slice (.slice (.int .i64))) ds fun x2 ds => pop (.slice (.int .i64)) ds fun x3 ds => pop (.slice .bool) ds fun x4 ds => popN ds (evermoreref23_Kernel.l4 k x0 x1 x2 x3 x4)
def evermoreref23_Kernel.t15 : Tm := ⟨[(1, .ptr 0 0), (3, .own 1), (4, .p .bool), (5, .p (.int .i64))], [.box [.p (.int .i64), .p (.slice (.slice (.int .i64))), .p (.slice (.int .i64))] 34, .own .bool]⟩
def evermoreref23_Kernel.c15 (k : Nat) (ds : List Dat) : Option (Int) := pop .bool ds fun x0 ds => pop (.int .i64) ds fun x1 ds => pop (.int .i64) ds fun x2 ds => pop (.slice (.slice (.int .i64))) ds fun x3 ds => pop (.slice (.int .i64)) ds fun x4 ds => pop (.slice .bool) ds fun x5 ds => popN ds (evermoreref23_Kernel.l7 k x0 x1 x2 x3 x4 x5)
def evermoreref23_Kernel.t37 : Tm := ⟨[(1, .ptr 0 0), (3, .own 1), (9, .own 2), (10, .p (.int .i64))], [.box [.p (.int .i64), .p (.slice (.slice (.int .i64))), .p (.slice (.int .i64))] 34, .own .bool, .own (.slice (.int .i64))]⟩
def evermoreref23_Kernel.c37 (k : Nat) (ds : List Dat) : Option (Int) := pop (.int .i64) ds fun x0 ds => pop (.int .i64) ds fun x1 ds => pop (.slice (.slice (.int .i64))) ds fun x2 ds => pop (.slice (.int .i64)) ds fun x3 ds => pop (.slice .bool) ds fun x4 ds => pop (.slice (.slice (.int .i64))) ds fun x5 ds => popN ds (evermoreref23_Kernel.l18 k x0 x1 x2 x3 x4 x5)
def evermoreref23_Kernel.t21 : Tm := ⟨[(1, .ptr 0 0), (3, .own 1), (4, .p .bool), (5, .p (.int .i64)), (6, .p (.int .i64))], [.box [.p (.int .i64), .p (.slice (.slice (.int .i64))), .p (.slice (.int .i64))] 34, .own .bool]⟩
def evermoreref23_Kernel.c21 (k : Nat) (ds : List Dat) : Option (Int) := pop .bool ds fun x0 ds => pop (.int .i64) ds fun x1 ds => pop (.int .i64) ds fun x2 ds => pop (.int .i64) ds fun x3 ds => pop (.slice (.slice (.int .i64))) ds fun x4 ds => pop (.slice (.int .i64)) ds fun x5 ds => pop (.slice .bool) ds fun x6 ds => popN ds (evermoreref23_Kernel.l10 k x0 x1 x2 x3 x4 x5 x6)
def evermoreref23_Kernel.t43 : Tm := ⟨[(1, .ptr 0 0), (3, .own 1), (9, .own 2), (10, .p (.int .i64)), (11, .p (.int .i64))], [.box [.p (.int .i64), .p (.slice (.slice (.int .i64))), .p (.slice (.int .i64))] 34, .own .bool, .own (.slice (.int .i64))]⟩
def evermoreref23_Kernel.c43 (k : Nat) (ds : List Dat) : Option (Int) := pop (.int .i64) ds fun x0 ds => pop (.int .i64) ds fun x1 ds => pop (.int .i64) ds fun x2 ds => pop (.slice (.slice (.int .i64))) ds fun x3 ds => pop (.slice (.int .i64)) ds fun x4 ds => pop (.slice .bool) ds fun x5 ds => pop (.slice (.slice (.int .i64))) ds fun x6 ds => popN ds (evermoreref23_Kernel.l21 k x0 x1 x2 x3 x4 x5 x6)
def evermoreref23_Kernel.t51 : Tm := ⟨[(1, .ptr 0 0), (3, .own 1), (9, .own 2), (10, .p (.int .i64)), (11, .p (.int .i64)), (12, .own 3), (13, .p (.int .i64))], [.box [.p (.int .i64), .p (.slice (.slice (.int .i64))), .p (.slice (.int .i64))] 34, .own .bool, .own (.slice (.int .i64)), .own (.int .i64)]⟩
def evermoreref23_Kernel.c51 (k : Nat) (ds : List Dat) : Option (Int) := pop (.int .i64) ds fun x0 ds => pop (.int .i64) ds fun x1 ds => pop (.int .i64) ds fun x2 ds => pop (.int .i64) ds fun x3 ds => pop (.slice (.slice (.int .i64))) ds fun x4 ds => pop (.slice (.int .i64)) ds fun x5 ds => pop (.slice .bool) ds fun x6 ds => pop (.slice (.slice (.int .i64))) ds fun x7 ds => pop (.slice (.int .i64)) ds fun x8 ds => popN ds (evermoreref23_Kernel.l25 k x0 x1 x2 x3 x4 x5 x6 x7 x8)
def evermoreref23_Kernel.t63 : Tm := ⟨[(1, .ptr 0 0), (3, .own 1), (9, .own 2), (10, .p (.int .i64)), (11, .p (.int .i64)), (12, .own 3), (14, .p .bool), (15, .p (.int .i64))], [.box [.p (.int .i64), .p (.slice (.slice (.int .i64))), .p (.slice (.int .i64))] 34, .own .bool, .own (.slice (.int .i64)), .own (.int .i64)]⟩
def evermoreref23_Kernel.c63 (k : Nat) (ds : List Dat) : Option (Int) := pop (.int .i64) ds fun x0 ds => pop (.int .i64) ds fun x1 ds => pop .bool ds fun x2 ds => pop (.int .i64) ds fun x3 ds => pop (.int .i64) ds fun x4 ds => pop (.slice (.slice (.int .i64))) ds fun x5 ds => pop (.slice (.int .i64)) ds fun x6 ds => pop (.slice .bool) ds fun x7 ds => pop (.slice (.slice (.int .i64))) ds fun x8 ds => pop (.slice (.int .i64)) ds fun x9 ds => popN ds (evermoreref23_Kernel.l31 k x0 x1 x2 x3 x4 x5 x6 x7 x8 x9)
def evermoreref23_Kernel.t44 : Tm := ⟨[(1, .ptr 0 0), (3, .own 1), (9, .own 2), (10, .p (.int .i64)), (11, .p (.int .i64))], [.box [.p (.int .i64), .p (.slice (.slice (.int .i64))), .p (.slice (.int .i64))] 34, .own .bool, .own (.slice (.int .i64))]⟩
def evermoreref23_Kernel.c44 (k : Nat) (ds : List Dat) : Option (Int) := pop (.int .i64) ds fun x0 ds => pop (.int .i64) ds fun x1 ds => pop (.int .i64) ds fun x2 ds => pop (.slice (.slice (.int .i64))) ds fun x3 ds => pop (.slice (.int .i64)) ds fun x4 ds => pop (.slice .bool) ds fun x5 ds => pop (.slice (.slice (.int .i64))) ds fun x6 ds => popN ds (evermoreref23_Kernel.j22 k x0 x1 x2 x3 x4 x5 x6)
def evermoreref23_Kernel.tbl : List (Nat × Tm × (Nat → List Dat → Option (Int))) := [(9, evermoreref23_Kernel.t9, evermoreref23_Kernel.c9), (15, evermoreref23_Kernel.t15, evermoreref23_Kernel.c15), (37, evermoreref23_Kernel.t37, evermoreref23_Kernel.c37), (21, evermoreref23_Kernel.t21, evermoreref23_Kernel.c21), (43, evermoreref23_Kernel.t43, evermoreref23_Kernel.c43), (51, evermoreref23_Kernel.t51, evermoreref23_Kernel.c51), (63, evermoreref23_Kernel.t63, evermoreref23_Kernel.c63), (44, evermoreref23_Kernel.t44, evermoreref23_Kernel.c44)]
theorem evermoreref23_Kernel.e9 (k : Nat) (x0 : Bool) (x1 : Int) (x2 : (List (List Int))) (x3 : (List Int)) (x4 : (List Bool)) : evermoreref23_Kernel.l4 (k + 1) x0 x1 x2 x3 x4 = run T (evermoreref23_Kernel.env k) Try.f20.ntmps (cutE 0 evermoreref23_Kernel.tbl k) (finE 0 evermoreref23_Kernel.to evermoreref23_Kernel.out) (fnRes Try.f20) [22] 100000 true (start (stackOf 9 evermoreref23_Kernel.body)) (evermoreref23_Kernel.t9.fill [⟨.bool, x0⟩, ⟨(.int .i64), x1⟩, ⟨(.slice (.slice (.int .i64))), x2⟩, ⟨(.slice (.int .i64)), x3⟩, ⟨(.slice .bool), x4⟩]) := by kernel_rfl
theorem evermoreref23_Kernel.s9 : stackAt 9 evermoreref23_Kernel.body [] = some (stackOf 9 evermoreref23_Kernel.body) := by kernel_rfl
theorem evermoreref23_Kernel.h9 (k : Nat) (ds : List Dat) (r : Int) (h : evermoreref23_Kernel.c9 k ds = some r) : ∃ k', k' < k ∧ ∃ s, stackAt 9 evermoreref23_Kernel.body [] = some s ∧ run T (evermoreref23_Kernel.env k') Try.f20.ntmps (cutE 0 evermoreref23_Kernel.tbl k') (finE 0 evermoreref23_Kernel.to evermoreref23_Kernel.out) (fnRes Try.f20) [22] 100000 true (start s) (evermoreref23_Kernel.t9.fill ds) = some r := by
  unfold evermoreref23_Kernel.c9 at h
  obtain ⟨x0, d0, e0, h0⟩ := pop_some h; clear h; subst e0; have h := h0; clear h0
  obtain ⟨x1, d1, e1, h1⟩ := pop_some h; clear h; subst e1; have h := h1; clear h1
  obtain ⟨x2, d2, e2, h2⟩ := pop_some h; clear h; subst e2; have h := h2; clear h2
  obtain ⟨x3, d3, e3, h3⟩ := pop_some h; clear h; subst e3; have h := h3; clear h3
  obtain ⟨x4, d4, e4, h4⟩ := pop_some h; clear h; subst e4; have h := h4; clear h4
  obtain ⟨eN, hN⟩ := popN_some h; clear h; subst eN; have h := hN; clear hN
  cases k with
  | zero => cases (show none = some r from h)
  | succ k => exact ⟨k, Nat.lt_succ_self k, _, evermoreref23_Kernel.s9, (evermoreref23_Kernel.e9 k x0 x1 x2 x3 x4).symm.trans h⟩
theorem evermoreref23_Kernel.e15 (k : Nat) (x0 : Bool) (x1 : Int) (x2 : Int) (x3 : (List (List Int))) (x4 : (List Int)) (x5 : (List Bool)) : evermoreref23_Kernel.l7 (k + 1) x0 x1 x2 x3 x4 x5 = run T (evermoreref23_Kernel.env k) Try.f20.ntmps (cutE 0 evermoreref23_Kernel.tbl k) (finE 0 evermoreref23_Kernel.to evermoreref23_Kernel.out) (fnRes Try.f20) [22] 100000 true (start (stackOf 15 evermoreref23_Kernel.body)) (evermoreref23_Kernel.t15.fill [⟨.bool, x0⟩, ⟨(.int .i64), x1⟩, ⟨(.int .i64), x2⟩, ⟨(.slice (.slice (.int .i64))), x3⟩, ⟨(.slice (.int .i64)), x4⟩, ⟨(.slice .bool), x5⟩]) := by kernel_rfl
theorem evermoreref23_Kernel.s15 : stackAt 15 evermoreref23_Kernel.body [] = some (stackOf 15 evermoreref23_Kernel.body) := by kernel_rfl
theorem evermoreref23_Kernel.h15 (k : Nat) (ds : List Dat) (r : Int) (h : evermoreref23_Kernel.c15 k ds = some r) : ∃ k', k' < k ∧ ∃ s, stackAt 15 evermoreref23_Kernel.body [] = some s ∧ run T (evermoreref23_Kernel.env k') Try.f20.ntmps (cutE 0 evermoreref23_Kernel.tbl k') (finE 0 evermoreref23_Kernel.to evermoreref23_Kernel.out) (fnRes Try.f20) [22] 100000 true (start s) (evermoreref23_Kernel.t15.fill ds) = some r := by
  unfold evermoreref23_Kernel.c15 at h
  obtain ⟨x0, d0, e0, h0⟩ := pop_some h; clear h; subst e0; have h := h0; clear h0
  obtain ⟨x1, d1, e1, h1⟩ := pop_some h; clear h; subst e1; have h := h1; clear h1
  obtain ⟨x2, d2, e2, h2⟩ := pop_some h; clear h; subst e2; have h := h2; clear h2
  obtain ⟨x3, d3, e3, h3⟩ := pop_some h; clear h; subst e3; have h := h3; clear h3
  obtain ⟨x4, d4, e4, h4⟩ := pop_some h; clear h; subst e4; have h := h4; clear h4
  obtain ⟨x5, d5, e5, h5⟩ := pop_some h; clear h; subst e5; have h := h5; clear h5
  obtain ⟨eN, hN⟩ := popN_some h; clear h; subst eN; have h := hN; clear hN
  cases k with
  | zero => cases (show none = some r from h)
  | succ k => exact ⟨k, Nat.lt_succ_self k, _, evermoreref23_Kernel.s15, (evermoreref23_Kernel.e15 k x0 x1 x2 x3 x4 x5).symm.trans h⟩
theorem evermoreref23_Kernel.e37 (k : Nat) (x0 : Int) (x1 : Int) (x2 : (List (List Int))) (x3 : (List Int)) (x4 : (List Bool)) (x5 : (List (List Int))) : evermoreref23_Kernel.l18 (k + 1) x0 x1 x2 x3 x4 x5 = run T (evermoreref23_Kernel.env k) Try.f20.ntmps (cutE 0 evermoreref23_Kernel.tbl k) (finE 0 evermoreref23_Kernel.to evermoreref23_Kernel.out) (fnRes Try.f20) [22] 100000 true (start (stackOf 37 evermoreref23_Kernel.body)) (evermoreref23_Kernel.t37.fill [⟨(.int .i64), x0⟩, ⟨(.int .i64), x1⟩, ⟨(.slice (.slice (.int .i64))), x2⟩, ⟨(.slice (.int .i64)), x3⟩, ⟨(.slice .bool), x4⟩, ⟨(.slice (.slice (.int .i64))), x5⟩]) := by kernel_rfl
theorem evermoreref23_Kernel.s37 : stackAt 37 evermoreref23_Kernel.body [] = some (stackOf 37 evermoreref23_Kernel.body) := by kernel_rfl
theorem evermoreref23_Kernel.h37 (k : Nat) (ds : List Dat) (r : Int) (h : evermoreref23_Kernel.c37 k ds = some r) : ∃ k', k' < k ∧ ∃ s, stackAt 37 evermoreref23_Kernel.body [] = some s ∧ run T (evermoreref23_Kernel.env k') Try.f20.ntmps (cutE 0 evermoreref23_Kernel.tbl k') (finE 0 evermoreref23_Kernel.to evermoreref23_Kernel.out) (fnRes Try.f20) [22] 100000 true (start s) (evermoreref23_Kernel.t37.fill ds) = some r := by
  unfold evermoreref23_Kernel.c37 at h
  obtain ⟨x0, d0, e0, h0⟩ := pop_some h; clear h; subst e0; have h := h0; clear h0
  obtain ⟨x1, d1, e1, h1⟩ := pop_some h; clear h; subst e1; have h := h1; clear h1
  obtain ⟨x2, d2, e2, h2⟩ := pop_some h; clear h; subst e2; have h := h2; clear h2
  obtain ⟨x3, d3, e3, h3⟩ := pop_some h; clear h; subst e3; have h := h3; clear h3
  obtain ⟨x4, d4, e4, h4⟩ := pop_some h; clear h; subst e4; have h := h4; clear h4
  obtain ⟨x5, d5, e5, h5⟩ := pop_some h; clear h; subst e5; have h := h5; clear h5
  obtain ⟨eN, hN⟩ := popN_some h; clear h; subst eN; have h := hN; clear hN
  cases k with
  | zero => cases (show none = some r from h)
  | succ k => exact ⟨k, Nat.lt_succ_self k, _, evermoreref23_Kernel.s37, (evermoreref23_Kernel.e37 k x0 x1 x2 x3 x4 x5).symm.trans h⟩
theorem evermoreref23_Kernel.e21 (k : Nat) (x0 : Bool) (x1 : Int) (x2 : Int) (x3 : Int) (x4 : (List (List Int))) (x5 : (List Int)) (x6 : (List Bool)) : evermoreref23_Kernel.l10 (k + 1) x0 x1 x2 x3 x4 x5 x6 = run T (evermoreref23_Kernel.env k) Try.f20.ntmps (cutE 0 evermoreref23_Kernel.tbl k) (finE 0 evermoreref23_Kernel.to evermoreref23_Kernel.out) (fnRes Try.f20) [22] 100000 true (start (stackOf 21 evermoreref23_Kernel.body)) (evermoreref23_Kernel.t21.fill [⟨.bool, x0⟩, ⟨(.int .i64), x1⟩, ⟨(.int .i64), x2⟩, ⟨(.int .i64), x3⟩, ⟨(.slice (.slice (.int .i64))), x4⟩, ⟨(.slice (.int .i64)), x5⟩, ⟨(.slice .bool), x6⟩]) := by kernel_rfl
theorem evermoreref23_Kernel.s21 : stackAt 21 evermoreref23_Kernel.body [] = some (stackOf 21 evermoreref23_Kernel.body) := by kernel_rfl
theorem evermoreref23_Kernel.h21 (k : Nat) (ds : List Dat) (r : Int) (h : evermoreref23_Kernel.c21 k ds = some r) : ∃ k', k' < k ∧ ∃ s, stackAt 21 evermoreref23_Kernel.body [] = some s ∧ run T (evermoreref23_Kernel.env k') Try.f20.ntmps (cutE 0 evermoreref23_Kernel.tbl k') (finE 0 evermoreref23_Kernel.to evermoreref23_Kernel.out) (fnRes Try.f20) [22] 100000 true (start s) (evermoreref23_Kernel.t21.fill ds) = some r := by
  unfold evermoreref23_Kernel.c21 at h
  obtain ⟨x0, d0, e0, h0⟩ := pop_some h; clear h; subst e0; have h := h0; clear h0
  obtain ⟨x1, d1, e1, h1⟩ := pop_some h; clear h; subst e1; have h := h1; clear h1
  obtain ⟨x2, d2, e2, h2⟩ := pop_some h; clear h; subst e2; have h := h2; clear h2
  obtain ⟨x3, d3, e3, h3⟩ := pop_some h; clear h; subst e3; have h := h3; clear h3
  obtain ⟨x4, d4, e4, h4⟩ := pop_some h; clear h; subst e4; have h := h4; clear h4
  obtain ⟨x5, d5, e5, h5⟩ := pop_some h; clear h; subst e5; have h := h5; clear h5
  obtain ⟨x6, d6, e6, h6⟩ := pop_some h; clear h; subst e6; have h := h6; clear h6
  obtain ⟨eN, hN⟩ := popN_some h; clear h; subst eN; have h := hN; clear hN
  cases k with
  | zero => cases (show none = some r from h)
  | succ k => exact ⟨k, Nat.lt_succ_self k, _, evermoreref23_Kernel.s21, (evermoreref23_Kernel.e21 k x0 x1 x2 x3 x4 x5 x6).symm.trans h⟩
theorem evermoreref23_Kernel.e43 (k : Nat) (x0 : Int) (x1 : Int) (x2 : Int) (x3 : (List (List Int))) (x4 : (List Int)) (x5 : (List Bool)) (x6 : (List (List Int))) : evermoreref23_Kernel.l21 (k + 1) x0 x1 x2 x3 x4 x5 x6 = run T (evermoreref23_Kernel.env k) Try.f20.ntmps (cutE 0 evermoreref23_Kernel.tbl k) (finE 0 evermoreref23_Kernel.to evermoreref23_Kernel.out) (fnRes Try.f20) [22] 100000 true (start (stackOf 43 evermoreref23_Kernel.body)) (evermoreref23_Kernel.t43.fill [⟨(.int .i64), x0⟩, ⟨(.int .i64), x1⟩, ⟨(.int .i64), x2⟩, ⟨(.slice (.slice (.int .i64))), x3⟩, ⟨(.slice (.int .i64)), x4⟩, ⟨(.slice .bool), x5⟩, ⟨(.slice (.slice (.int .i64))), x6⟩]) := by kernel_rfl
theorem evermoreref23_Kernel.s43 : stackAt 43 evermoreref23_Kernel.body [] = some (stackOf 43 evermoreref23_Kernel.body) := by kernel_rfl
theorem evermoreref23_Kernel.h43 (k : Nat) (ds : List Dat) (r : Int) (h : evermoreref23_Kernel.c43 k ds = some r) : ∃ k', k' < k ∧ ∃ s, stackAt 43 evermoreref23_Kernel.body [] = some s ∧ run T (evermoreref23_Kernel.env k') Try.f20.ntmps (cutE 0 evermoreref23_Kernel.tbl k') (finE 0 evermoreref23_Kernel.to evermoreref23_Kernel.out) (fnRes Try.f20) [22] 100000 true (start s) (evermoreref23_Kernel.t43.fill ds) = some r := by
  unfold evermoreref23_Kernel.c43 at h
  obtain ⟨x0, d0, e0, h0⟩ := pop_some h; clear h; subst e0; have h := h0; clear h0
  obtain ⟨x1, d1, e1, h1⟩ := pop_some h; clear h; subst e1; have h := h1; clear h1
  obtain ⟨x2, d2, e2, h2⟩ := pop_some h; clear h; subst e2; have h := h2; clear h2
  obtain ⟨x3, d3, e3, h3⟩ := pop_some h; clear h; subst e3; have h := h3; clear h3
  obtain ⟨x4, d4, e4, h4⟩ := pop_some h; clear h; subst e4; have h := h4; clear h4
  obtain ⟨x5, d5, e5, h5⟩ := pop_some h; clear h; subst e5; have h := h5; clear h5
  obtain ⟨x6, d6, e6, h6⟩ := pop_some h; clear h; subst e6; have h := h6; clear h6
  obtain ⟨eN, hN⟩ := popN_some h; clear h; subst eN; have h := hN; clear hN
  cases k with
  | zero => cases (show none = some r from h)
  | succ k => exact ⟨k, Nat.lt_succ_self k, _, evermoreref23_Kernel.s43, (evermoreref23_Kernel.e43 k x0 x1 x2 x3 x4 x5 x6).symm.trans h⟩
theorem evermoreref23_Kernel.e51 (k : Nat) (x0 : Int) (x1 : Int) (x2 : Int) (x3 : Int) (x4 : (List (List Int))) (x5 : (List Int)) (x6 : (List Bool)) (x7 : (List (List Int))) (x8 : (List Int)) : evermoreref23_Kernel.l25 (k + 1) x0 x1 x2 x3 x4 x5 x6 x7 x8 = run T (evermoreref23_Kernel.env k) Try.f20.ntmps (cutE 0 evermoreref23_Kernel.tbl k) (finE 0 evermoreref23_Kernel.to evermoreref23_Kernel.out) (fnRes Try.f20) [22] 100000 true (start (stackOf 51 evermoreref23_Kernel.body)) (evermoreref23_Kernel.t51.fill [⟨(.int .i64), x0⟩, ⟨(.int .i64), x1⟩, ⟨(.int .i64), x2⟩, ⟨(.int .i64), x3⟩, ⟨(.slice (.slice (.int .i64))), x4⟩, ⟨(.slice (.int .i64)), x5⟩, ⟨(.slice .bool), x6⟩, ⟨(.slice (.slice (.int .i64))), x7⟩, ⟨(.slice (.int .i64)), x8⟩]) := by kernel_rfl
theorem evermoreref23_Kernel.s51 : stackAt 51 evermoreref23_Kernel.body [] = some (stackOf 51 evermoreref23_Kernel.body) := by kernel_rfl
theorem evermoreref23_Kernel.h51 (k : Nat) (ds : List Dat) (r : Int) (h : evermoreref23_Kernel.c51 k ds = some r) : ∃ k', k' < k ∧ ∃ s, stackAt 51 evermoreref23_Kernel.body [] = some s ∧ run T (evermoreref23_Kernel.env k') Try.f20.ntmps (cutE 0 evermoreref23_Kernel.tbl k') (finE 0 evermoreref23_Kernel.to evermoreref23_Kernel.out) (fnRes Try.f20) [22] 100000 true (start s) (evermoreref23_Kernel.t51.fill ds) = some r := by
  unfold evermoreref23_Kernel.c51 at h
  obtain ⟨x0, d0, e0, h0⟩ := pop_some h; clear h; subst e0; have h := h0; clear h0
  obtain ⟨x1, d1, e1, h1⟩ := pop_some h; clear h; subst e1; have h := h1; clear h1
  obtain ⟨x2, d2, e2, h2⟩ := pop_some h; clear h; subst e2; have h := h2; clear h2
  obtain ⟨x3, d3, e3, h3⟩ := pop_some h; clear h; subst e3; have h := h3; clear h3
  obtain ⟨x4, d4, e4, h4⟩ := pop_some h; clear h; subst e4; have h := h4; clear h4
  obtain ⟨x5, d5, e5, h5⟩ := pop_some h; clear h; subst e5; have h := h5; clear h5
  obtain ⟨x6, d6, e6, h6⟩ := pop_some h; clear h; subst e6; have h := h6; clear h6
  obtain ⟨x7, d7, e7, h7⟩ := pop_some h; clear h; subst e7; have h := h7; clear h7
  obtain ⟨x8, d8, e8, h8⟩ := pop_some h; clear h; subst e8; have h := h8; clear h8
  obtain ⟨eN, hN⟩ := popN_some h; clear h; subst eN; have h := hN; clear hN
  cases k with
  | zero => cases (show none = some r from h)
  | succ k => exact ⟨k, Nat.lt_succ_self k, _, evermoreref23_Kernel.s51, (evermoreref23_Kernel.e51 k x0 x1 x2 x3 x4 x5 x6 x7 x8).symm.trans h⟩
theorem evermoreref23_Kernel.e63 (k : Nat) (x0 : Int) (x1 : Int) (x2 : Bool) (x3 : Int) (x4 : Int) (x5 : (List (List Int))) (x6 : (List Int)) (x7 : (List Bool)) (x8 : (List (List Int))) (x9 : (List Int)) : evermoreref23_Kernel.l31 (k + 1) x0 x1 x2 x3 x4 x5 x6 x7 x8 x9 = run T (evermoreref23_Kernel.env k) Try.f20.ntmps (cutE 0 evermoreref23_Kernel.tbl k) (finE 0 evermoreref23_Kernel.to evermoreref23_Kernel.out) (fnRes Try.f20) [22] 100000 true (start (stackOf 63 evermoreref23_Kernel.body)) (evermoreref23_Kernel.t63.fill [⟨(.int .i64), x0⟩, ⟨(.int .i64), x1⟩, ⟨.bool, x2⟩, ⟨(.int .i64), x3⟩, ⟨(.int .i64), x4⟩, ⟨(.slice (.slice (.int .i64))), x5⟩, ⟨(.slice (.int .i64)), x6⟩, ⟨(.slice .bool), x7⟩, ⟨(.slice (.slice (.int .i64))), x8⟩, ⟨(.slice (.int .i64)), x9⟩]) := by kernel_rfl
theorem evermoreref23_Kernel.s63 : stackAt 63 evermoreref23_Kernel.body [] = some (stackOf 63 evermoreref23_Kernel.body) := by kernel_rfl
theorem evermoreref23_Kernel.h63 (k : Nat) (ds : List Dat) (r : Int) (h : evermoreref23_Kernel.c63 k ds = some r) : ∃ k', k' < k ∧ ∃ s, stackAt 63 evermoreref23_Kernel.body [] = some s ∧ run T (evermoreref23_Kernel.env k') Try.f20.ntmps (cutE 0 evermoreref23_Kernel.tbl k') (finE 0 evermoreref23_Kernel.to evermoreref23_Kernel.out) (fnRes Try.f20) [22] 100000 true (start s) (evermoreref23_Kernel.t63.fill ds) = some r := by
  unfold evermoreref23_Kernel.c63 at h
  obtain ⟨x0, d0, e0, h0⟩ := pop_some h; clear h; subst e0; have h := h0; clear h0
  obtain ⟨x1, d1, e1, h1⟩ := pop_some h; clear h; subst e1; have h := h1; clear h1
  obtain ⟨x2, d2, e2, h2⟩ := pop_some h; clear h; subst e2; have h := h2; clear h2
  obtain ⟨x3, d3, e3, h3⟩ := pop_some h; clear h; subst e3; have h := h3; clear h3
  obtain ⟨x4, d4, e4, h4⟩ := pop_some h; clear h; subst e4; have h := h4; clear h4
  obtain ⟨x5, d5, e5, h5⟩ := pop_some h; clear h; subst e5; have h := h5; clear h5
  obtain ⟨x6, d6, e6, h6⟩ := pop_some h; clear h; subst e6; have h := h6; clear h6
  obtain ⟨x7, d7, e7, h7⟩ := pop_some h; clear h; subst e7; have h := h7; clear h7
  obtain ⟨x8, d8, e8, h8⟩ := pop_some h; clear h; subst e8; have h := h8; clear h8
  obtain ⟨x9, d9, e9, h9⟩ := pop_some h; clear h; subst e9; have h := h9; clear h9
  obtain ⟨eN, hN⟩ := popN_some h; clear h; subst eN; have h := hN; clear hN
  cases k with
  | zero => cases (show none = some r from h)
  | succ k => exact ⟨k, Nat.lt_succ_self k, _, evermoreref23_Kernel.s63, (evermoreref23_Kernel.e63 k x0 x1 x2 x3 x4 x5 x6 x7 x8 x9).symm.trans h⟩
theorem evermoreref23_Kernel.e44 (k : Nat) (x0 : Int) (x1 : Int) (x2 : Int) (x3 : (List (List Int))) (x4 : (List Int)) (x5 : (List Bool)) (x6 : (List (List Int))) : evermoreref23_Kernel.j22 (k + 1) x0 x1 x2 x3 x4 x5 x6 = run T (evermoreref23_Kernel.env k) Try.f20.ntmps (cutE 0 evermoreref23_Kernel.tbl k) (finE 0 evermoreref23_Kernel.to evermoreref23_Kernel.out) (fnRes Try.f20) [22] 100000 true (start (stackOf 44 evermoreref23_Kernel.body)) (evermoreref23_Kernel.t44.fill [⟨(.int .i64), x0⟩, ⟨(.int .i64), x1⟩, ⟨(.int .i64), x2⟩, ⟨(.slice (.slice (.int .i64))), x3⟩, ⟨(.slice (.int .i64)), x4⟩, ⟨(.slice .bool), x5⟩, ⟨(.slice (.slice (.int .i64))), x6⟩]) := by kernel_rfl
theorem evermoreref23_Kernel.s44 : stackAt 44 evermoreref23_Kernel.body [] = some (stackOf 44 evermoreref23_Kernel.body) := by kernel_rfl
theorem evermoreref23_Kernel.h44 (k : Nat) (ds : List Dat) (r : Int) (h : evermoreref23_Kernel.c44 k ds = some r) : ∃ k', k' < k ∧ ∃ s, stackAt 44 evermoreref23_Kernel.body [] = some s ∧ run T (evermoreref23_Kernel.env k') Try.f20.ntmps (cutE 0 evermoreref23_Kernel.tbl k') (finE 0 evermoreref23_Kernel.to evermoreref23_Kernel.out) (fnRes Try.f20) [22] 100000 true (start s) (evermoreref23_Kernel.t44.fill ds) = some r := by
  unfold evermoreref23_Kernel.c44 at h
  obtain ⟨x0, d0, e0, h0⟩ := pop_some h; clear h; subst e0; have h := h0; clear h0
  obtain ⟨x1, d1, e1, h1⟩ := pop_some h; clear h; subst e1; have h := h1; clear h1
  obtain ⟨x2, d2, e2, h2⟩ := pop_some h; clear h; subst e2; have h := h2; clear h2
  obtain ⟨x3, d3, e3, h3⟩ := pop_some h; clear h; subst e3; have h := h3; clear h3
  obtain ⟨x4, d4, e4, h4⟩ := pop_some h; clear h; subst e4; have h := h4; clear h4
  obtain ⟨x5, d5, e5, h5⟩ := pop_some h; clear h; subst e5; have h := h5; clear h5
  obtain ⟨x6, d6, e6, h6⟩ := pop_some h; clear h; subst e6; have h := h6; clear h6
  obtain ⟨eN, hN⟩ := popN_some h; clear h; subst eN; have h := hN; clear hN
  cases k with
  | zero => cases (show none = some r from h)
  | succ k => exact ⟨k, Nat.lt_succ_self k, _, evermoreref23_Kernel.s44, (evermoreref23_Kernel.e44 k x0 x1 x2 x3 x4 x5 x6).symm.trans h⟩
theorem evermoreref23_Kernel.e (k : Nat) (x0 : (Int × ((List (List Int)) × ((List Int) × Unit)))) : evermoreref23_Kernel.f k x0 = run T (evermoreref23_Kernel.env k) Try.f20.ntmps (cutE 0 evermoreref23_Kernel.tbl k) (finE 0 evermoreref23_Kernel.to evermoreref23_Kernel.out) (fnRes Try.f20) [22] 100000 true ([.code evermoreref23_Kernel.body]) (evermoreref23_Kernel.ti.fill [⟨(.pair (.int .i64) (.pair (.slice (.slice (.int .i64))) (.pair (.slice (.int .i64)) .unit))), x0⟩]) := by kernel_rfl
theorem evermoreref23_Kernel.h (k : Nat) (ds : List Dat) (r : Int) (h : evermoreref23_Kernel.g k ds = some r) : ∃ k', k' < k ∧ run T (evermoreref23_Kernel.env k') Try.f20.ntmps (cutE 0 evermoreref23_Kernel.tbl k') (finE 0 evermoreref23_Kernel.to evermoreref23_Kernel.out) (fnRes Try.f20) [22] 100000 true ([.code evermoreref23_Kernel.body]) (evermoreref23_Kernel.ti.fill ds) = some r := by
  cases k with
  | zero => cases (show none = some r from h)
  | succ k =>
  replace h : evermoreref23_Kernel.c k ds = some r := h
  unfold evermoreref23_Kernel.c at h
  obtain ⟨x0, d0, e0, h0⟩ := pop_some h; clear h; subst e0; have h := h0; clear h0
  obtain ⟨eN, hN⟩ := popN_some h; clear h; subst eN; have h := hN; clear hN
  exact ⟨k, Nat.lt_succ_self k, (evermoreref23_Kernel.e k x0).symm.trans h⟩
theorem evermoreref23_Kernel.o (ds : List Dat) (r : Int) (h : evermoreref23_Kernel.out ds = some r) : ds = evermoreref23_Kernel.rs r := by
  unfold evermoreref23_Kernel.out at h
  obtain ⟨x0, d0, e0, h0⟩ := pop_some h; clear h; subst e0; have h := h0; clear h0
  obtain ⟨eN, hN⟩ := popN_some h; clear h; subst eN; have h := hN; clear hN
  cases h
  rfl
theorem evermoreref23_Kernel.fn : FnOk Try.prog 20 Try.f20 evermoreref23_Kernel.body Try.f20.ntmps 1 (fnRes Try.f20) :=
  fnOk_of (by kernel_rfl) (by kernel_rfl) (by kernel_rfl) (by kernel_rfl)
theorem evermoreref23_Kernel.con' : ∀ k ds r, evermoreref23_Kernel.g k ds = some r → Con Try.prog 20 1 evermoreref23_Kernel.ti evermoreref23_Kernel.to ds (evermoreref23_Kernel.rs r) :=
  fun_ok (T := T) T_ok mixed evermoreref23_Kernel.fn (env := evermoreref23_Kernel.env) (tbl := evermoreref23_Kernel.tbl) (gOut := evermoreref23_Kernel.out) (nin := 0) (cuts := [22]) (fuel := 100000) rfl (by kernel_rfl) (by kernel_rfl) (by kernel_rfl) (fun x hx => by
    simp only [evermoreref23_Kernel.tbl, List.mem_cons, List.not_mem_nil, or_false] at hx
    rcases hx with rfl | rfl | rfl | rfl | rfl | rfl | rfl | rfl
    · exact evermoreref23_Kernel.h9
    · exact evermoreref23_Kernel.h15
    · exact evermoreref23_Kernel.h37
    · exact evermoreref23_Kernel.h21
    · exact evermoreref23_Kernel.h43
    · exact evermoreref23_Kernel.h51
    · exact evermoreref23_Kernel.h63
    · exact evermoreref23_Kernel.h44
) evermoreref23_Kernel.o evermoreref23_Kernel.h (fun k _ => by unfold evermoreref23_Kernel.env; exact (envC_ok (fun ds K r h => by
    obtain ⟨x0, d0, e0, h0⟩ := pop_some h; clear h; subst e0; have h := h0; clear h0
    obtain ⟨x1, d1, e1, h1⟩ := pop_some h; clear h; subst e1; have h := h1; clear h1
    obtain ⟨eN, hN⟩ := popN_some h; clear h; subst eN; have h := hN; clear hN
    obtain ⟨r1, h1, h2⟩ := bind_some h
    exact ⟨_, h2, evermoreref23_kept.con k _ h1⟩) (envC_ok (fun ds K r h => by
    obtain ⟨x0, d0, e0, h0⟩ := pop_some h; clear h; subst e0; have h := h0; clear h0
    obtain ⟨x1, d1, e1, h1⟩ := pop_some h; clear h; subst e1; have h := h1; clear h1
    obtain ⟨eN, hN⟩ := popN_some h; clear h; subst eN; have h := hN; clear hN
    obtain ⟨r1, h1, h2⟩ := bind_some h
    exact ⟨_, h2, evermoreref1_Words.con k _ h1⟩) env0_ok)))
theorem evermoreref23_Kernel.con (k : Nat) {x0 : (Int × ((List (List Int)) × ((List Int) × Unit)))} (r : Int) (h : evermoreref23_Kernel.f k x0 = some r) : Con Try.prog 20 1 evermoreref23_Kernel.ti evermoreref23_Kernel.to [⟨(.pair (.int .i64) (.pair (.slice (.slice (.int .i64))) (.pair (.slice (.int .i64)) .unit))), x0⟩] (evermoreref23_Kernel.rs r) :=
  evermoreref23_Kernel.con' (k + 1) _ r (by show evermoreref23_Kernel.c k _ = some r; unfold evermoreref23_Kernel.c; simp only [pop_self, popN]; exact h)
def evermorelaw_SeqsKernel.f (k : Nat) (m0 : (Int × (List (List (Int)) × (List (Int) × Unit)))) : Option (Bool) :=
 (seqs_Kernel.f k (m0.fst, m0.snd.fst, m0.snd.snd.fst, ())).bind fun r1 =>
  (evermoreref23_Check.f k (m0.fst, m0.snd.fst, m0.snd.snd.fst, ())).bind fun r2 =>
   if r2 = 0 then
    (evermoreref23_Kernel.f k (m0.fst, m0.snd.fst, m0.snd.snd.fst, ())).bind fun r4 =>
     if r1.snd = 0 then
      some (decide (r1.fst = r4))
     else
      some (false)
   else
    if r1.snd = r2 then
     some (decide (r1.fst = 0))
    else
     some (false)

noncomputable def evermorelaw_SeqsKernel.body : Code := fnBody Try.f4
def evermorelaw_SeqsKernel.ti : Tm := ⟨[(0, .p (.pair (.int .i64) (.pair (.slice (.slice (.int .i64))) (.pair (.slice (.int .i64)) .unit))))], []⟩
def evermorelaw_SeqsKernel.to : Tm := ⟨[(0, .p .bool)], []⟩
def evermorelaw_SeqsKernel.rs (r : Bool) : List Dat := [⟨.bool, r⟩]
def evermorelaw_SeqsKernel.out (ds : List Dat) : Option (Bool) := pop .bool ds fun x0 ds => popN ds (some (x0))
def evermorelaw_SeqsKernel.c (k : Nat) (ds : List Dat) : Option (Bool) := pop (.pair (.int .i64) (.pair (.slice (.slice (.int .i64))) (.pair (.slice (.int .i64)) .unit))) ds fun x0 ds => popN ds (evermorelaw_SeqsKernel.f k x0)
def evermorelaw_SeqsKernel.g : Nat → List Dat → Option (Bool)
 | 0, _ => none
 | k + 1, ds => evermorelaw_SeqsKernel.c k ds
def evermorelaw_SeqsKernel.env (k : Nat) : Nat → List SV → List Chunk → KT (Bool) → Option (Bool) := (envC 18 1 seqs_Kernel.ti seqs_Kernel.to (fun ds K => pop (.pair (.int .i64) (.pair (.slice (.slice (.int .i64))) (.pair (.slice (.int .i64)) .unit))) ds fun x0 ds => popN ds ((seqs_Kernel.f k x0).bind fun r => K (seqs_Kernel.rs r))) (envC 19 1 evermoreref23_Check.ti evermoreref23_Check.to (fun ds K => pop (.pair (.int .i64) (.pair (.slice (.slice (.int .i64))) (.pair (.slice (.int .i64)) .unit))) ds fun x0 ds => popN ds ((evermoreref23_Check.f k x0).bind fun r => K (evermoreref23_Check.rs r))) (envC 20 1 evermoreref23_Kernel.ti evermoreref23_Kernel.to (fun ds K => pop (.pair (.int .i64) (.pair (.slice (.slice (.int .i64))) (.pair (.slice (.int .i64)) .unit))) ds fun x0 ds => popN ds ((evermoreref23_Kernel.f k x0).bind fun r => K (evermoreref23_Kernel.rs r))) env0)))
def evermorelaw_SeqsKernel.tbl : List (Nat × Tm × (Nat → List Dat → Option (Bool))) := []
theorem evermorelaw_SeqsKernel.e (k : Nat) (x0 : (Int × ((List (List Int)) × ((List Int) × Unit)))) : evermorelaw_SeqsKernel.f k x0 = run T (evermorelaw_SeqsKernel.env k) Try.f4.ntmps (cutE 0 evermorelaw_SeqsKernel.tbl k) (finE 0 evermorelaw_SeqsKernel.to evermorelaw_SeqsKernel.out) (fnRes Try.f4) [] 100000 true ([.code evermorelaw_SeqsKernel.body]) (evermorelaw_SeqsKernel.ti.fill [⟨(.pair (.int .i64) (.pair (.slice (.slice (.int .i64))) (.pair (.slice (.int .i64)) .unit))), x0⟩]) := by kernel_rfl
theorem evermorelaw_SeqsKernel.h (k : Nat) (ds : List Dat) (r : Bool) (h : evermorelaw_SeqsKernel.g k ds = some r) : ∃ k', k' < k ∧ run T (evermorelaw_SeqsKernel.env k') Try.f4.ntmps (cutE 0 evermorelaw_SeqsKernel.tbl k') (finE 0 evermorelaw_SeqsKernel.to evermorelaw_SeqsKernel.out) (fnRes Try.f4) [] 100000 true ([.code evermorelaw_SeqsKernel.body]) (evermorelaw_SeqsKernel.ti.fill ds) = some r := by
  cases k with
  | zero => cases (show none = some r from h)
  | succ k =>
  replace h : evermorelaw_SeqsKernel.c k ds = some r := h
  unfold evermorelaw_SeqsKernel.c at h
  obtain ⟨x0, d0, e0, h0⟩ := pop_some h; clear h; subst e0; have h := h0; clear h0
  obtain ⟨eN, hN⟩ := popN_some h; clear h; subst eN; have h := hN; clear hN
  exact ⟨k, Nat.lt_succ_self k, (evermorelaw_SeqsKernel.e k x0).symm.trans h⟩
theorem evermorelaw_SeqsKernel.o (ds : List Dat) (r : Bool) (h : evermorelaw_SeqsKernel.out ds = some r) : ds = evermorelaw_SeqsKernel.rs r := by
  unfold evermorelaw_SeqsKernel.out at h
  obtain ⟨x0, d0, e0, h0⟩ := pop_some h; clear h; subst e0; have h := h0; clear h0
  obtain ⟨eN, hN⟩ := popN_some h; clear h; subst eN; have h := hN; clear hN
  cases h
  rfl
theorem evermorelaw_SeqsKernel.fn : FnOk Try.prog 4 Try.f4 evermorelaw_SeqsKernel.body Try.f4.ntmps 1 (fnRes Try.f4) :=
  fnOk_of (by kernel_rfl) (by kernel_rfl) (by kernel_rfl) (by kernel_rfl)
theorem evermorelaw_SeqsKernel.con' : ∀ k ds r, evermorelaw_SeqsKernel.g k ds = some r → Con Try.prog 4 1 evermorelaw_SeqsKernel.ti evermorelaw_SeqsKernel.to ds (evermorelaw_SeqsKernel.rs r) :=
  fun_ok (T := T) T_ok mixed evermorelaw_SeqsKernel.fn (env := evermorelaw_SeqsKernel.env) (tbl := evermorelaw_SeqsKernel.tbl) (gOut := evermorelaw_SeqsKernel.out) (nin := 0) (cuts := []) (fuel := 100000) rfl (by kernel_rfl) (by kernel_rfl) (by kernel_rfl) (fun x hx => by simp [evermorelaw_SeqsKernel.tbl] at hx) evermorelaw_SeqsKernel.o evermorelaw_SeqsKernel.h (fun k _ => by unfold evermorelaw_SeqsKernel.env; exact (envC_ok (fun ds K r h => by
    obtain ⟨x0, d0, e0, h0⟩ := pop_some h; clear h; subst e0; have h := h0; clear h0
    obtain ⟨eN, hN⟩ := popN_some h; clear h; subst eN; have h := hN; clear hN
    obtain ⟨r1, h1, h2⟩ := bind_some h
    exact ⟨_, h2, seqs_Kernel.con k _ h1⟩) (envC_ok (fun ds K r h => by
    obtain ⟨x0, d0, e0, h0⟩ := pop_some h; clear h; subst e0; have h := h0; clear h0
    obtain ⟨eN, hN⟩ := popN_some h; clear h; subst eN; have h := hN; clear hN
    obtain ⟨r1, h1, h2⟩ := bind_some h
    exact ⟨_, h2, evermoreref23_Check.con k _ h1⟩) (envC_ok (fun ds K r h => by
    obtain ⟨x0, d0, e0, h0⟩ := pop_some h; clear h; subst e0; have h := h0; clear h0
    obtain ⟨eN, hN⟩ := popN_some h; clear h; subst eN; have h := hN; clear hN
    obtain ⟨r1, h1, h2⟩ := bind_some h
    exact ⟨_, h2, evermoreref23_Kernel.con k _ h1⟩) env0_ok))))
theorem evermorelaw_SeqsKernel.con (k : Nat) {x0 : (Int × ((List (List Int)) × ((List Int) × Unit)))} (r : Bool) (h : evermorelaw_SeqsKernel.f k x0 = some r) : Con Try.prog 4 1 evermorelaw_SeqsKernel.ti evermorelaw_SeqsKernel.to [⟨(.pair (.int .i64) (.pair (.slice (.slice (.int .i64))) (.pair (.slice (.int .i64)) .unit))), x0⟩] (evermorelaw_SeqsKernel.rs r) :=
  evermorelaw_SeqsKernel.con' (k + 1) _ r (by show evermorelaw_SeqsKernel.c k _ = some r; unfold evermorelaw_SeqsKernel.c; simp only [pop_self, popN]; exact h)
/-- The one pure statement of the law, over whatever arguments can be read. -/
def evermorelaw_SeqsKernel.PureH : Prop := ∀ (x0 : (Int × ((List (List Int)) × ((List Int) × Unit)))), Ty.okv (.pair (.int .i64) (.pair (.slice (.slice (.int .i64))) (.pair (.slice (.int .i64)) .unit))) x0 → ∃ k, evermorelaw_SeqsKernel.f k x0 = some true
end Go.Proofs.YtklkcdphcmimoaaSx
