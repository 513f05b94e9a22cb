import Derived.Test.YtmagglebkbiffaaSxT
import Derived.Test.YtmagglebkbiffaaSxQ
import Derived.Test.YtmagglebkbiffaaSxV2
import Derived.Test.YtmagglebkbiffaaSxW
import Derived.KernelRfl
import Derived.Test.YtmagglebkbiffaaProg
set_option linter.unusedVariables false
set_option maxRecDepth 100000
namespace Go.Proofs.YtmagglebkbiffaaSx
open Go Go.Proofs
theorem T_check : T.check Try.prog = true := by kernel_rfl
theorem T_ok : TOk Try.prog T := TT.check_ok T_check
theorem mixed : Try.prog.follows .mixedOrders = true := by kernel_rfl
def det_Check_1.f (k : Nat) (r0 : List (Int)) (x1_0 : Int) (x1_1 : Int) (x1_2 : List (List (Int))) (x1_3 : List (Int)) : Option (Bool × Int × Int × List (List Int) × List Int) :=
 some (!decide ((↑r0.length : Int) = x1_0), x1_0, x1_1, x1_2, x1_3)

noncomputable def det_Check_1.body : Code := fnBody Try.f184
def det_Check_1.ti : Tm := ⟨[(0, .p (.slice (.int .i64))), (1, .ptr 0 0)], [.box [.p (.int .i64), .p (.int .i64), .p (.slice (.slice (.int .i64))), .p (.slice (.int .i64))] 25]⟩
def det_Check_1.to : Tm := ⟨[(0, .p .bool)], [.box [.p (.int .i64), .p (.int .i64), .p (.slice (.slice (.int .i64))), .p (.slice (.int .i64))] 25]⟩
def det_Check_1.rs (r : Bool × Int × Int × (List (List Int)) × (List Int)) : List Dat := [⟨.bool, r.1⟩, ⟨(.int .i64), r.2.1⟩, ⟨(.int .i64), r.2.2.1⟩, ⟨(.slice (.slice (.int .i64))), r.2.2.2.1⟩, ⟨(.slice (.int .i64)), r.2.2.2.2⟩]
def det_Check_1.out (ds : List Dat) : Option (Bool × Int × Int × (List (List Int)) × (List Int)) := pop .bool ds fun x0 ds => pop (.int .i64) ds fun x1 ds => pop (.int .i64) ds fun x2 ds => pop (.slice (.slice (.int .i64))) ds fun x3 ds => pop (.slice (.int .i64)) ds fun x4 ds => popN ds (some (x0, x1, x2, x3, x4))
def det_Check_1.c (k : Nat) (ds : List Dat) : Option (Bool × Int × Int × (List (List Int)) × (List Int)) := pop (.slice (.int .i64)) ds fun x0 ds => pop (.int .i64) ds fun x1 ds => pop (.int .i64) ds fun x2 ds => pop (.slice (.slice (.int .i64))) ds fun x3 ds => pop (.slice (.int .i64)) ds fun x4 ds => popN ds (det_Check_1.f k x0 x1 x2 x3 x4)
def det_Check_1.g : Nat → List Dat → Option (Bool × Int × Int × (List (List Int)) × (List Int))
 | 0, _ => none
 | k + 1, ds => det_Check_1.c k ds
def det_Check_1.env (k : Nat) : Nat → List SV → List Chunk → KT (Bool × Int × Int × (List (List Int)) × (List Int)) → Option (Bool × Int × Int × (List (List Int)) × (List Int)) := env0
def det_Check_1.tbl : List (Nat × Tm × (Nat → List Dat → Option (Bool × Int × Int × (List (List Int)) × (List Int)))) := []
noncomputable abbrev det_Check_1.R (k : Nat) := run T (det_Check_1.env k) Try.f184.ntmps (cutE 1 det_Check_1.tbl k) (finE 1 det_Check_1.to det_Check_1.out) (fnRes Try.f184) [] 100000 true
theorem det_Check_1.e (k : Nat) (x0 : (List Int)) (x1 : Int) (x2 : Int) (x3 : (List (List Int))) (x4 : (List Int)) : det_Check_1.f k x0 x1 x2 x3 x4 = det_Check_1.R k ([.code det_Check_1.body]) (det_Check_1.ti.fill [⟨(.slice (.int .i64)), x0⟩, ⟨(.int .i64), x1⟩, ⟨(.int .i64), x2⟩, ⟨(.slice (.slice (.int .i64))), x3⟩, ⟨(.slice (.int .i64)), x4⟩]) := by kernel_rfl
theorem det_Check_1.h (k : Nat) (ds : List Dat) (r : Bool × Int × Int × (List (List Int)) × (List Int)) (h : det_Check_1.g k ds = some r) : ∃ k', k' < k ∧ det_Check_1.R k' ([.code det_Check_1.body]) (det_Check_1.ti.fill ds) = some r := by
  cases k with
  | zero => cases (show none = some r from h)
  | succ k =>
  replace h : det_Check_1.c k ds = some r := h
  unfold det_Check_1.c at h
  obtain ⟨x0, d0, rfl, h0⟩ := pop_some h
  obtain ⟨x1, d1, rfl, h1⟩ := pop_some h0
  obtain ⟨x2, d2, rfl, h2⟩ := pop_some h1
  obtain ⟨x3, d3, rfl, h3⟩ := pop_some h2
  obtain ⟨x4, d4, rfl, h4⟩ := pop_some h3
  obtain ⟨rfl, g⟩ := popN_some h4
  exact ⟨k, Nat.lt_succ_self k, (det_Check_1.e k x0 x1 x2 x3 x4).symm.trans g⟩
theorem det_Check_1.o (ds : List Dat) (r : Bool × Int × Int × (List (List Int)) × (List Int)) (h : det_Check_1.out ds = some r) : ds = det_Check_1.rs r := by
  unfold det_Check_1.out at h
  obtain ⟨x0, d0, rfl, h0⟩ := pop_some h
  obtain ⟨x1, d1, rfl, h1⟩ := pop_some h0
  obtain ⟨x2, d2, rfl, h2⟩ := pop_some h1
  obtain ⟨x3, d3, rfl, h3⟩ := pop_some h2
  obtain ⟨x4, d4, rfl, h4⟩ := pop_some h3
  obtain ⟨rfl, g⟩ := popN_some h4
  cases g
  rfl
theorem det_Check_1.fn : FnOk Try.prog 184 Try.f184 det_Check_1.body Try.f184.ntmps 2 (fnRes Try.f184) :=
  fnOk_of (by kernel_rfl) (by kernel_rfl) (by kernel_rfl) (by kernel_rfl)
theorem det_Check_1.con' : ∀ k ds r, det_Check_1.g k ds = some r → Con Try.prog 184 2 det_Check_1.ti det_Check_1.to ds (det_Check_1.rs r) :=
  fun_ok (T := T) T_ok mixed det_Check_1.fn (env := det_Check_1.env) (tbl := det_Check_1.tbl) (gOut := det_Check_1.out) (nin := 1) (cuts := []) (fuel := 100000) rfl (by kernel_rfl) (by kernel_rfl) (by kernel_rfl) (fun x hx => by simp [det_Check_1.tbl] at hx) det_Check_1.o det_Check_1.h (fun k _ => by unfold det_Check_1.env; exact env0_ok)
theorem det_Check_1.con (k : Nat) {x0 : (List Int)} {x1 : Int} {x2 : Int} {x3 : (List (List Int))} {x4 : (List Int)} (r : Bool × Int × Int × (List (List Int)) × (List Int)) (h : det_Check_1.f k x0 x1 x2 x3 x4 = some r) : Con Try.prog 184 2 det_Check_1.ti det_Check_1.to [⟨(.slice (.int .i64)), x0⟩, ⟨(.int .i64), x1⟩, ⟨(.int .i64), x2⟩, ⟨(.slice (.slice (.int .i64))), x3⟩, ⟨(.slice (.int .i64)), x4⟩] (det_Check_1.rs r) :=
  det_Check_1.con' (k + 1) _ r (by show det_Check_1.c k _ = some r; unfold det_Check_1.c; simp only [pop_self, popN]; exact h)
mutual
def slices_IndexFunc_____int___int_.l2 : Nat → List (List (Int)) → Int → Int → Int → Int → List (List (Int)) → List (Int) → Option (Int × Int × Int × List (List Int) × List Int)
 | 0, _, _, _, _, _, _, _ => none
 | k + 1, s0, x7, x8, c0_0, c0_1, c0_2, c0_3 =>
  if x8 < x7 then
   if 0 ≤ x8 then
   if x8 < (↑s0.length : Int) then
    (det_Check_1.f k (Go.Proofs.YtmagglebkbiffaaSx.rd [] s0 x8) c0_0 c0_1 c0_2 c0_3).bind fun r_5 =>
      if r_5.fst = true then
       some (x8, r_5.snd.fst, r_5.snd.snd.fst, r_5.snd.snd.snd.fst, r_5.snd.snd.snd.snd)
      else
       slices_IndexFunc_____int___int_.l2 k s0 x7 (Go.IntKind.i64.wrap (x8 + 1)) r_5.snd.fst r_5.snd.snd.fst r_5.snd.snd.snd.fst r_5.snd.snd.snd.snd
    else none
   else none
  else
   some (-1, c0_0, c0_1, c0_2, c0_3)
end
def slices_IndexFunc_____int___int_.f (k : Nat) (s0 : List (List (Int))) (c0_0 : Int) (c0_1 : Int) (c0_2 : List (List (Int))) (c0_3 : List (Int)) : Option (Int × Int × Int × List (List Int) × List Int) :=
 slices_IndexFunc_____int___int_.l2 k s0 ((↑s0.length : Int)) 0 c0_0 c0_1 c0_2 c0_3

noncomputable def slices_IndexFunc_____int___int_.body : Code := fnBody Try.f135
def slices_IndexFunc_____int___int_.ti : Tm := ⟨[(0, .p (.slice (.slice (.int .i64)))), (1, .fn 184 [.ptr 0 0])], [.box [.p (.int .i64), .p (.int .i64), .p (.slice (.slice (.int .i64))), .p (.slice (.int .i64))] 25]⟩
def slices_IndexFunc_____int___int_.to : Tm := ⟨[(0, .p (.int .i64))], [.box [.p (.int .i64), .p (.int .i64), .p (.slice (.slice (.int .i64))), .p (.slice (.int .i64))] 25]⟩
def slices_IndexFunc_____int___int_.rs (r : Int × Int × Int × (List (List Int)) × (List Int)) : List Dat := [⟨(.int .i64), r.1⟩, ⟨(.int .i64), r.2.1⟩, ⟨(.int .i64), r.2.2.1⟩, ⟨(.slice (.slice (.int .i64))), r.2.2.2.1⟩, ⟨(.slice (.int .i64)), r.2.2.2.2⟩]
def slices_IndexFunc_____int___int_.out (ds : List Dat) : Option (Int × Int × Int × (List (List Int)) × (List Int)) := pop (.int .i64) ds fun x0 ds => pop (.int .i64) ds fun x1 ds => pop (.int .i64) ds fun x2 ds => pop (.slice (.slice (.int .i64))) ds fun x3 ds => pop (.slice (.int .i64)) ds fun x4 ds => popN ds (some (x0, x1, x2, x3, x4))
def slices_IndexFunc_____int___int_.c (k : Nat) (ds : List Dat) : Option (Int × Int × Int × (List (List Int)) × (List Int)) := pop (.slice (.slice (.int .i64))) ds fun x0 ds => pop (.int .i64) ds fun x1 ds => pop (.int .i64) ds fun x2 ds => pop (.slice (.slice (.int .i64))) ds fun x3 ds => pop (.slice (.int .i64)) ds fun x4 ds => popN ds (slices_IndexFunc_____int___int_.f k x0 x1 x2 x3 x4)
def slices_IndexFunc_____int___int_.g : Nat → List Dat → Option (Int × Int × Int × (List (List Int)) × (List Int))
 | 0, _ => none
 | k + 1, ds => slices_IndexFunc_____int___int_.c k ds
def slices_IndexFunc_____int___int_.env (k : Nat) : Nat → List SV → List Chunk → KT (Int × Int × Int × (List (List Int)) × (List Int)) → Option (Int × Int × Int × (List (List Int)) × (List Int)) := (envC 184 2 det_Check_1.ti det_Check_1.to (fun ds K => pop (.slice (.int .i64)) ds fun x0 ds => pop (.int .i64) ds fun x1 ds => pop (.int .i64) ds fun x2 ds => pop (.slice (.slice (.int .i64))) ds fun x3 ds => pop (.slice (.int .i64)) ds fun x4 ds => popN ds ((det_Check_1.f k x0 x1 x2 x3 x4).bind fun r => K (det_Check_1.rs r))) env0)
def slices_IndexFunc_____int___int_.t5 : Tm := ⟨[(0, .p (.slice (.slice (.int .i64)))), (1, .fn 184 [.ptr 0 0]), (7, .p (.int .i64)), (8, .p (.int .i64))], [.box [.p (.int .i64), .p (.int .i64), .p (.slice (.slice (.int .i64))), .p (.slice (.int .i64))] 25]⟩
def slices_IndexFunc_____int___int_.c5 (k : Nat) (ds : List Dat) : Option (Int × Int × Int × (List (List Int)) × (List Int)) := pop (.slice (.slice (.int .i64))) ds fun x0 ds => pop (.int .i64) ds fun x1 ds => pop (.int .i64) ds fun x2 ds => pop (.int .i64) ds fun x3 ds => pop (.int .i64) ds fun x4 ds => pop (.slice (.slice (.int .i64))) ds fun x5 ds => pop (.slice (.int .i64)) ds fun x6 ds => popN ds (slices_IndexFunc_____int___int_.l2 k x0 x1 x2 x3 x4 x5 x6)
def slices_IndexFunc_____int___int_.tbl : List (Nat × Tm × (Nat → List Dat → Option (Int × Int × Int × (List (List Int)) × (List Int)))) := [(5, slices_IndexFunc_____int___int_.t5, slices_IndexFunc_____int___int_.c5)]
noncomputable abbrev slices_IndexFunc_____int___int_.R (k : Nat) := run T (slices_IndexFunc_____int___int_.env k) Try.f135.ntmps (cutE 1 slices_IndexFunc_____int___int_.tbl k) (finE 1 slices_IndexFunc_____int___int_.to slices_IndexFunc_____int___int_.out) (fnRes Try.f135) [] 100000 true
theorem slices_IndexFunc_____int___int_.e5 (k : Nat) (x0 : (List (List Int))) (x1 : Int) (x2 : Int) (x3 : Int) (x4 : Int) (x5 : (List (List Int))) (x6 : (List Int)) : slices_IndexFunc_____int___int_.l2 (k + 1) x0 x1 x2 x3 x4 x5 x6 = slices_IndexFunc_____int___int_.R k (start (stackOf 5 slices_IndexFunc_____int___int_.body)) (slices_IndexFunc_____int___int_.t5.fill [⟨(.slice (.slice (.int .i64))), x0⟩, ⟨(.int .i64), x1⟩, ⟨(.int .i64), x2⟩, ⟨(.int .i64), x3⟩, ⟨(.int .i64), x4⟩, ⟨(.slice (.slice (.int .i64))), x5⟩, ⟨(.slice (.int .i64)), x6⟩]) := by kernel_rfl
theorem slices_IndexFunc_____int___int_.s5 : stackAt 5 slices_IndexFunc_____int___int_.body [] = some (stackOf 5 slices_IndexFunc_____int___int_.body) := by kernel_rfl
theorem slices_IndexFunc_____int___int_.h5 (k : Nat) (ds : List Dat) (r : Int × Int × Int × (List (List Int)) × (List Int)) (h : slices_IndexFunc_____int___int_.c5 k ds = some r) : ∃ k', k' < k ∧ ∃ s, stackAt 5 slices_IndexFunc_____int___int_.body [] = some s ∧ slices_IndexFunc_____int___int_.R k' (start s) (slices_IndexFunc_____int___int_.t5.fill ds) = some r := by
  unfold slices_IndexFunc_____int___int_.c5 at h
  obtain ⟨x0, d0, rfl, h0⟩ := pop_some h
  obtain ⟨x1, d1, rfl, h1⟩ := pop_some h0
  obtain ⟨x2, d2, rfl, h2⟩ := pop_some h1
  obtain ⟨x3, d3, rfl, h3⟩ := pop_some h2
  obtain ⟨x4, d4, rfl, h4⟩ := pop_some h3
  obtain ⟨x5, d5, rfl, h5⟩ := pop_some h4
  obtain ⟨x6, d6, rfl, h6⟩ := pop_some h5
  obtain ⟨rfl, g⟩ := popN_some h6
  cases k with
  | zero => cases (show none = some r from g)
  | succ k => exact ⟨k, Nat.lt_succ_self k, _, slices_IndexFunc_____int___int_.s5, (slices_IndexFunc_____int___int_.e5 k x0 x1 x2 x3 x4 x5 x6).symm.trans g⟩
theorem slices_IndexFunc_____int___int_.e (k : Nat) (x0 : (List (List Int))) (x1 : Int) (x2 : Int) (x3 : (List (List Int))) (x4 : (List Int)) : slices_IndexFunc_____int___int_.f k x0 x1 x2 x3 x4 = slices_IndexFunc_____int___int_.R k ([.code slices_IndexFunc_____int___int_.body]) (slices_IndexFunc_____int___int_.ti.fill [⟨(.slice (.slice (.int .i64))), x0⟩, ⟨(.int .i64), x1⟩, ⟨(.int .i64), x2⟩, ⟨(.slice (.slice (.int .i64))), x3⟩, ⟨(.slice (.int .i64)), x4⟩]) := by kernel_rfl
theorem slices_IndexFunc_____int___int_.h (k : Nat) (ds : List Dat) (r : Int × Int × Int × (List (List Int)) × (List Int)) (h : slices_IndexFunc_____int___int_.g k ds = some r) : ∃ k', k' < k ∧ slices_IndexFunc_____int___int_.R k' ([.code slices_IndexFunc_____int___int_.body]) (slices_IndexFunc_____int___int_.ti.fill ds) = some r := by
  cases k with
  | zero => cases (show none = some r from h)
  | succ k =>
  replace h : slices_IndexFunc_____int___int_.c k ds = some r := h
  unfold slices_IndexFunc_____int___int_.c at h
  obtain ⟨x0, d0, rfl, h0⟩ := pop_some h
  obtain ⟨x1, d1, rfl, h1⟩ := pop_some h0
  obtain ⟨x2, d2, rfl, h2⟩ := pop_some h1
  obtain ⟨x3, d3, rfl, h3⟩ := pop_some h2
  obtain ⟨x4, d4, rfl, h4⟩ := pop_some h3
  obtain ⟨rfl, g⟩ := popN_some h4
  exact ⟨k, Nat.lt_succ_self k, (slices_IndexFunc_____int___int_.e k x0 x1 x2 x3 x4).symm.trans g⟩
theorem slices_IndexFunc_____int___int_.o (ds : List Dat) (r : Int × Int × Int × (List (List Int)) × (List Int)) (h : slices_IndexFunc_____int___int_.out ds = some r) : ds = slices_IndexFunc_____int___int_.rs r := by
  unfold slices_IndexFunc_____int___int_.out at h
  obtain ⟨x0, d0, rfl, h0⟩ := pop_some h
  obtain ⟨x1, d1, rfl, h1⟩ := pop_some h0
  obtain ⟨x2, d2, rfl, h2⟩ := pop_some h1
  obtain ⟨x3, d3, rfl, h3⟩ := pop_some h2
  obtain ⟨x4, d4, rfl, h4⟩ := pop_some h3
  obtain ⟨rfl, g⟩ := popN_some h4
  cases g
  rfl
theorem slices_IndexFunc_____int___int_.fn : FnOk Try.prog 135 Try.f135 slices_IndexFunc_____int___int_.body Try.f135.ntmps 2 (fnRes Try.f135) :=
  fnOk_of (by kernel_rfl) (by kernel_rfl) (by kernel_rfl) (by kernel_rfl)
theorem slices_IndexFunc_____int___int_.con' : ∀ k ds r, slices_IndexFunc_____int___int_.g k ds = some r → Con Try.prog 135 2 slices_IndexFunc_____int___int_.ti slices_IndexFunc_____int___int_.to ds (slices_IndexFunc_____int___int_.rs r) :=
  fun_ok (T := T) T_ok mixed slices_IndexFunc_____int___int_.fn (env := slices_IndexFunc_____int___int_.env) (tbl := slices_IndexFunc_____int___int_.tbl) (gOut := slices_IndexFunc_____int___int_.out) (nin := 1) (cuts := []) (fuel := 100000) rfl (by kernel_rfl) (by kernel_rfl) (by kernel_rfl) (fun x hx => by
    simp only [slices_IndexFunc_____int___int_.tbl, List.mem_cons, List.not_mem_nil, or_false] at hx
    subst hx
    · exact slices_IndexFunc_____int___int_.h5
) slices_IndexFunc_____int___int_.o slices_IndexFunc_____int___int_.h (fun k _ => by unfold slices_IndexFunc_____int___int_.env; exact (envC_ok (fun ds K r h => by
    obtain ⟨x0, d0, rfl, h0⟩ := pop_some h
    obtain ⟨x1, d1, rfl, h1⟩ := pop_some h0
    obtain ⟨x2, d2, rfl, h2⟩ := pop_some h1
    obtain ⟨x3, d3, rfl, h3⟩ := pop_some h2
    obtain ⟨x4, d4, rfl, h4⟩ := pop_some h3
    obtain ⟨rfl, g⟩ := popN_some h4
    obtain ⟨r1, h1, h2⟩ := bind_some g
    exact ⟨_, h2, det_Check_1.con k _ h1⟩) env0_ok))
theorem slices_IndexFunc_____int___int_.con (k : Nat) {x0 : (List (List Int))} {x1 : Int} {x2 : Int} {x3 : (List (List Int))} {x4 : (List Int)} (r : Int × Int × Int × (List (List Int)) × (List Int)) (h : slices_IndexFunc_____int___int_.f k x0 x1 x2 x3 x4 = some r) : Con Try.prog 135 2 slices_IndexFunc_____int___int_.ti slices_IndexFunc_____int___int_.to [⟨(.slice (.slice (.int .i64))), x0⟩, ⟨(.int .i64), x1⟩, ⟨(.int .i64), x2⟩, ⟨(.slice (.slice (.int .i64))), x3⟩, ⟨(.slice (.int .i64)), x4⟩] (slices_IndexFunc_____int___int_.rs r) :=
  slices_IndexFunc_____int___int_.con' (k + 1) _ r (by show slices_IndexFunc_____int___int_.c k _ = some r; unfold slices_IndexFunc_____int___int_.c; simp only [pop_self, popN]; exact h)
def slices_ContainsFunc_____int___int_.f (k : Nat) (s0 : List (List (Int))) (c0_0 : Int) (c0_1 : Int) (c0_2 : List (List (Int))) (c0_3 : List (Int)) : Option (Bool × Int × Int × List (List Int) × List Int) :=
 (slices_IndexFunc_____int___int_.f k s0 c0_0 c0_1 c0_2 c0_3).bind fun r_1 =>
  some (decide (0 ≤ r_1.fst), r_1.snd.fst, r_1.snd.snd.fst, r_1.snd.snd.snd.fst, r_1.snd.snd.snd.snd)

noncomputable def slices_ContainsFunc_____int___int_.body : Code := fnBody Try.f70
def slices_ContainsFunc_____int___int_.ti : Tm := ⟨[(0, .p (.slice (.slice (.int .i64)))), (1, .fn 184 [.ptr 0 0])], [.box [.p (.int .i64), .p (.int .i64), .p (.slice (.slice (.int .i64))), .p (.slice (.int .i64))] 25]⟩
def slices_ContainsFunc_____int___int_.to : Tm := ⟨[(0, .p .bool)], [.box [.p (.int .i64), .p (.int .i64), .p (.slice (.slice (.int .i64))), .p (.slice (.int .i64))] 25]⟩
def slices_ContainsFunc_____int___int_.rs (r : Bool × Int × Int × (List (List Int)) × (List Int)) : List Dat := [⟨.bool, r.1⟩, ⟨(.int .i64), r.2.1⟩, ⟨(.int .i64), r.2.2.1⟩, ⟨(.slice (.slice (.int .i64))), r.2.2.2.1⟩, ⟨(.slice (.int .i64)), r.2.2.2.2⟩]
def slices_ContainsFunc_____int___int_.out (ds : List Dat) : Option (Bool × Int × Int × (List (List Int)) × (List Int)) := pop .bool ds fun x0 ds => pop (.int .i64) ds fun x1 ds => pop (.int .i64) ds fun x2 ds => pop (.slice (.slice (.int .i64))) ds fun x3 ds => pop (.slice (.int .i64)) ds fun x4 ds => popN ds (some (x0, x1, x2, x3, x4))
def slices_ContainsFunc_____int___int_.c (k : Nat) (ds : List Dat) : Option (Bool × Int × Int × (List (List Int)) × (List Int)) := pop (.slice (.slice (.int .i64))) ds fun x0 ds => pop (.int .i64) ds fun x1 ds => pop (.int .i64) ds fun x2 ds => pop (.slice (.slice (.int .i64))) ds fun x3 ds => pop (.slice (.int .i64)) ds fun x4 ds => popN ds (slices_ContainsFunc_____int___int_.f k x0 x1 x2 x3 x4)
def slices_ContainsFunc_____int___int_.g : Nat → List Dat → Option (Bool × Int × Int × (List (List Int)) × (List Int))
 | 0, _ => none
 | k + 1, ds => slices_ContainsFunc_____int___int_.c k ds
def slices_ContainsFunc_____int___int_.env (k : Nat) : Nat → List SV → List Chunk → KT (Bool × Int × Int × (List (List Int)) × (List Int)) → Option (Bool × Int × Int × (List (List Int)) × (List Int)) := (envC 135 2 slices_IndexFunc_____int___int_.ti slices_IndexFunc_____int___int_.to (fun ds K => pop (.slice (.slice (.int .i64))) ds fun x0 ds => pop (.int .i64) ds fun x1 ds => pop (.int .i64) ds fun x2 ds => pop (.slice (.slice (.int .i64))) ds fun x3 ds => pop (.slice (.int .i64)) ds fun x4 ds => popN ds ((slices_IndexFunc_____int___int_.f k x0 x1 x2 x3 x4).bind fun r => K (slices_IndexFunc_____int___int_.rs r))) env0)
def slices_ContainsFunc_____int___int_.tbl : List (Nat × Tm × (Nat → List Dat → Option (Bool × Int × Int × (List (List Int)) × (List Int)))) := []
noncomputable abbrev slices_ContainsFunc_____int___int_.R (k : Nat) := run T (slices_ContainsFunc_____int___int_.env k) Try.f70.ntmps (cutE 1 slices_ContainsFunc_____int___int_.tbl k) (finE 1 slices_ContainsFunc_____int___int_.to slices_ContainsFunc_____int___int_.out) (fnRes Try.f70) [] 100000 true
theorem slices_ContainsFunc_____int___int_.e (k : Nat) (x0 : (List (List Int))) (x1 : Int) (x2 : Int) (x3 : (List (List Int))) (x4 : (List Int)) : slices_ContainsFunc_____int___int_.f k x0 x1 x2 x3 x4 = slices_ContainsFunc_____int___int_.R k ([.code slices_ContainsFunc_____int___int_.body]) (slices_ContainsFunc_____int___int_.ti.fill [⟨(.slice (.slice (.int .i64))), x0⟩, ⟨(.int .i64), x1⟩, ⟨(.int .i64), x2⟩, ⟨(.slice (.slice (.int .i64))), x3⟩, ⟨(.slice (.int .i64)), x4⟩]) := by kernel_rfl
theorem slices_ContainsFunc_____int___int_.h (k : Nat) (ds : List Dat) (r : Bool × Int × Int × (List (List Int)) × (List Int)) (h : slices_ContainsFunc_____int___int_.g k ds = some r) : ∃ k', k' < k ∧ slices_ContainsFunc_____int___int_.R k' ([.code slices_ContainsFunc_____int___int_.body]) (slices_ContainsFunc_____int___int_.ti.fill ds) = some r := by
  cases k with
  | zero => cases (show none = some r from h)
  | succ k =>
  replace h : slices_ContainsFunc_____int___int_.c k ds = some r := h
  unfold slices_ContainsFunc_____int___int_.c at h
  obtain ⟨x0, d0, rfl, h0⟩ := pop_some h
  obtain ⟨x1, d1, rfl, h1⟩ := pop_some h0
  obtain ⟨x2, d2, rfl, h2⟩ := pop_some h1
  obtain ⟨x3, d3, rfl, h3⟩ := pop_some h2
  obtain ⟨x4, d4, rfl, h4⟩ := pop_some h3
  obtain ⟨rfl, g⟩ := popN_some h4
  exact ⟨k, Nat.lt_succ_self k, (slices_ContainsFunc_____int___int_.e k x0 x1 x2 x3 x4).symm.trans g⟩
theorem slices_ContainsFunc_____int___int_.o (ds : List Dat) (r : Bool × Int × Int × (List (List Int)) × (List Int)) (h : slices_ContainsFunc_____int___int_.out ds = some r) : ds = slices_ContainsFunc_____int___int_.rs r := by
  unfold slices_ContainsFunc_____int___int_.out at h
  obtain ⟨x0, d0, rfl, h0⟩ := pop_some h
  obtain ⟨x1, d1, rfl, h1⟩ := pop_some h0
  obtain ⟨x2, d2, rfl, h2⟩ := pop_some h1
  obtain ⟨x3, d3, rfl, h3⟩ := pop_some h2
  obtain ⟨x4, d4, rfl, h4⟩ := pop_some h3
  obtain ⟨rfl, g⟩ := popN_some h4
  cases g
  rfl
theorem slices_ContainsFunc_____int___int_.fn : FnOk Try.prog 70 Try.f70 slices_ContainsFunc_____int___int_.body Try.f70.ntmps 2 (fnRes Try.f70) :=
  fnOk_of (by kernel_rfl) (by kernel_rfl) (by kernel_rfl) (by kernel_rfl)
theorem slices_ContainsFunc_____int___int_.con' : ∀ k ds r, slices_ContainsFunc_____int___int_.g k ds = some r → Con Try.prog 70 2 slices_ContainsFunc_____int___int_.ti slices_ContainsFunc_____int___int_.to ds (slices_ContainsFunc_____int___int_.rs r) :=
  fun_ok (T := T) T_ok mixed slices_ContainsFunc_____int___int_.fn (env := slices_ContainsFunc_____int___int_.env) (tbl := slices_ContainsFunc_____int___int_.tbl) (gOut := slices_ContainsFunc_____int___int_.out) (nin := 1) (cuts := []) (fuel := 100000) rfl (by kernel_rfl) (by kernel_rfl) (by kernel_rfl) (fun x hx => by simp [slices_ContainsFunc_____int___int_.tbl] at hx) slices_ContainsFunc_____int___int_.o slices_ContainsFunc_____int___int_.h (fun k _ => by unfold slices_ContainsFunc_____int___int_.env; exact (envC_ok (fun ds K r h => by
    obtain ⟨x0, d0, rfl, h0⟩ := pop_some h
    obtain ⟨x1, d1, rfl, h1⟩ := pop_some h0
    obtain ⟨x2, d2, rfl, h2⟩ := pop_some h1
    obtain ⟨x3, d3, rfl, h3⟩ := pop_some h2
    obtain ⟨x4, d4, rfl, h4⟩ := pop_some h3
    obtain ⟨rfl, g⟩ := popN_some h4
    obtain ⟨r1, h1, h2⟩ := bind_some g
    exact ⟨_, h2, slices_IndexFunc_____int___int_.con k _ h1⟩) env0_ok))
theorem slices_ContainsFunc_____int___int_.con (k : Nat) {x0 : (List (List Int))} {x1 : Int} {x2 : Int} {x3 : (List (List Int))} {x4 : (List Int)} (r : Bool × Int × Int × (List (List Int)) × (List Int)) (h : slices_ContainsFunc_____int___int_.f k x0 x1 x2 x3 x4 = some r) : Con Try.prog 70 2 slices_ContainsFunc_____int___int_.ti slices_ContainsFunc_____int___int_.to [⟨(.slice (.slice (.int .i64))), x0⟩, ⟨(.int .i64), x1⟩, ⟨(.int .i64), x2⟩, ⟨(.slice (.slice (.int .i64))), x3⟩, ⟨(.slice (.int .i64)), x4⟩] (slices_ContainsFunc_____int___int_.rs r) :=
  slices_ContainsFunc_____int___int_.con' (k + 1) _ r (by show slices_ContainsFunc_____int___int_.c k _ = some r; unfold slices_ContainsFunc_____int___int_.c; simp only [pop_self, popN]; exact h)
def det_Check_2.f (k : Nat) (q0 : Int) (x1_0 : Int) : Option (Bool × Int) :=
 if q0 < 0 then
  some (true, x1_0)
 else
  some (decide (x1_0 ≤ q0), x1_0)

noncomputable def det_Check_2.body : Code := fnBody Try.f185
def det_Check_2.ti : Tm := ⟨[(0, .p (.int .i64)), (1, .ptr 0 0)], [.box [.p (.int .i64)] 3]⟩
def det_Check_2.to : Tm := ⟨[(0, .p .bool)], [.box [.p (.int .i64)] 3]⟩
def det_Check_2.rs (r : Bool × Int) : List Dat := [⟨.bool, r.1⟩, ⟨(.int .i64), r.2⟩]
def det_Check_2.out (ds : List Dat) : Option (Bool × Int) := pop .bool ds fun x0 ds => pop (.int .i64) ds fun x1 ds => popN ds (some (x0, x1))
def det_Check_2.c (k : Nat) (ds : List Dat) : Option (Bool × Int) := pop (.int .i64) ds fun x0 ds => pop (.int .i64) ds fun x1 ds => popN ds (det_Check_2.f k x0 x1)
def det_Check_2.g : Nat → List Dat → Option (Bool × Int)
 | 0, _ => none
 | k + 1, ds => det_Check_2.c k ds
def det_Check_2.env (k : Nat) : Nat → List SV → List Chunk → KT (Bool × Int) → Option (Bool × Int) := env0
def det_Check_2.tbl : List (Nat × Tm × (Nat → List Dat → Option (Bool × Int))) := []
noncomputable abbrev det_Check_2.R (k : Nat) := run T (det_Check_2.env k) Try.f185.ntmps (cutE 1 det_Check_2.tbl k) (finE 1 det_Check_2.to det_Check_2.out) (fnRes Try.f185) [] 100000 true
theorem det_Check_2.e (k : Nat) (x0 : Int) (x1 : Int) : det_Check_2.f k x0 x1 = det_Check_2.R k ([.code det_Check_2.body]) (det_Check_2.ti.fill [⟨(.int .i64), x0⟩, ⟨(.int .i64), x1⟩]) := by kernel_rfl
theorem det_Check_2.h (k : Nat) (ds : List Dat) (r : Bool × Int) (h : det_Check_2.g k ds = some r) : ∃ k', k' < k ∧ det_Check_2.R k' ([.code det_Check_2.body]) (det_Check_2.ti.fill ds) = some r := by
  cases k with
  | zero => cases (show none = some r from h)
  | succ k =>
  replace h : det_Check_2.c k ds = some r := h
  unfold det_Check_2.c at h
  obtain ⟨x0, d0, rfl, h0⟩ := pop_some h
  obtain ⟨x1, d1, rfl, h1⟩ := pop_some h0
  obtain ⟨rfl, g⟩ := popN_some h1
  exact ⟨k, Nat.lt_succ_self k, (det_Check_2.e k x0 x1).symm.trans g⟩
theorem det_Check_2.o (ds : List Dat) (r : Bool × Int) (h : det_Check_2.out ds = some r) : ds = det_Check_2.rs r := by
  unfold det_Check_2.out at h
  obtain ⟨x0, d0, rfl, h0⟩ := pop_some h
  obtain ⟨x1, d1, rfl, h1⟩ := pop_some h0
  obtain ⟨rfl, g⟩ := popN_some h1
  cases g
  rfl
theorem det_Check_2.fn : FnOk Try.prog 185 Try.f185 det_Check_2.body Try.f185.ntmps 2 (fnRes Try.f185) :=
  fnOk_of (by kernel_rfl) (by kernel_rfl) (by kernel_rfl) (by kernel_rfl)
theorem det_Check_2.con' : ∀ k ds r, det_Check_2.g k ds = some r → Con Try.prog 185 2 det_Check_2.ti det_Check_2.to ds (det_Check_2.rs r) :=
  fun_ok (T := T) T_ok mixed det_Check_2.fn (env := det_Check_2.env) (tbl := det_Check_2.tbl) (gOut := det_Check_2.out) (nin := 1) (cuts := []) (fuel := 100000) rfl (by kernel_rfl) (by kernel_rfl) (by kernel_rfl) (fun x hx => by simp [det_Check_2.tbl] at hx) det_Check_2.o det_Check_2.h (fun k _ => by unfold det_Check_2.env; exact env0_ok)
theorem det_Check_2.con (k : Nat) {x0 : Int} {x1 : Int} (r : Bool × Int) (h : det_Check_2.f k x0 x1 = some r) : Con Try.prog 185 2 det_Check_2.ti det_Check_2.to [⟨(.int .i64), x0⟩, ⟨(.int .i64), x1⟩] (det_Check_2.rs r) :=
  det_Check_2.con' (k + 1) _ r (by show det_Check_2.c k _ = some r; unfold det_Check_2.c; simp only [pop_self, popN]; exact h)
mutual
def slices_IndexFunc___int_int_.l2 : Nat → List (Int) → Int → Int → Int → Option (Int × Int)
 | 0, _, _, _, _ => none
 | k + 1, s0, x7, x8, c0_0 =>
  if x8 < x7 then
   if 0 ≤ x8 then
   if x8 < (↑s0.length : Int) then
    (det_Check_2.f k (Go.Proofs.YtmagglebkbiffaaSx.rd (Int.ofNat 0) s0 x8) c0_0).bind fun r_5 =>
      if r_5.fst = true then
       some (x8, r_5.snd)
      else
       slices_IndexFunc___int_int_.l2 k s0 x7 (Go.IntKind.i64.wrap (x8 + 1)) r_5.snd
    else none
   else none
  else
   some (-1, c0_0)
end
def slices_IndexFunc___int_int_.f (k : Nat) (s0 : List (Int)) (c0_0 : Int) : Option (Int × Int) :=
 slices_IndexFunc___int_int_.l2 k s0 ((↑s0.length : Int)) 0 c0_0

noncomputable def slices_IndexFunc___int_int_.body : Code := fnBody Try.f147
def slices_IndexFunc___int_int_.ti : Tm := ⟨[(0, .p (.slice (.int .i64))), (1, .fn 185 [.ptr 0 0])], [.box [.p (.int .i64)] 3]⟩
def slices_IndexFunc___int_int_.to : Tm := ⟨[(0, .p (.int .i64))], [.box [.p (.int .i64)] 3]⟩
def slices_IndexFunc___int_int_.rs (r : Int × Int) : List Dat := [⟨(.int .i64), r.1⟩, ⟨(.int .i64), r.2⟩]
def slices_IndexFunc___int_int_.out (ds : List Dat) : Option (Int × Int) := pop (.int .i64) ds fun x0 ds => pop (.int .i64) ds fun x1 ds => popN ds (some (x0, x1))
def slices_IndexFunc___int_int_.c (k : Nat) (ds : List Dat) : Option (Int × Int) := pop (.slice (.int .i64)) ds fun x0 ds => pop (.int .i64) ds fun x1 ds => popN ds (slices_IndexFunc___int_int_.f k x0 x1)
def slices_IndexFunc___int_int_.g : Nat → List Dat → Option (Int × Int)
 | 0, _ => none
 | k + 1, ds => slices_IndexFunc___int_int_.c k ds
def slices_IndexFunc___int_int_.env (k : Nat) : Nat → List SV → List Chunk → KT (Int × Int) → Option (Int × Int) := (envC 185 2 det_Check_2.ti det_Check_2.to (fun ds K => pop (.int .i64) ds fun x0 ds => pop (.int .i64) ds fun x1 ds => popN ds ((det_Check_2.f k x0 x1).bind fun r => K (det_Check_2.rs r))) env0)
def slices_IndexFunc___int_int_.t5 : Tm := ⟨[(0, .p (.slice (.int .i64))), (1, .fn 185 [.ptr 0 0]), (7, .p (.int .i64)), (8, .p (.int .i64))], [.box [.p (.int .i64)] 3]⟩
def slices_IndexFunc___int_int_.c5 (k : Nat) (ds : List Dat) : Option (Int × Int) := pop (.slice (.int .i64)) ds fun x0 ds => pop (.int .i64) ds fun x1 ds => pop (.int .i64) ds fun x2 ds => pop (.int .i64) ds fun x3 ds => popN ds (slices_IndexFunc___int_int_.l2 k x0 x1 x2 x3)
def slices_IndexFunc___int_int_.tbl : List (Nat × Tm × (Nat → List Dat → Option (Int × Int))) := [(5, slices_IndexFunc___int_int_.t5, slices_IndexFunc___int_int_.c5)]
noncomputable abbrev slices_IndexFunc___int_int_.R (k : Nat) := run T (slices_IndexFunc___int_int_.env k) Try.f147.ntmps (cutE 1 slices_IndexFunc___int_int_.tbl k) (finE 1 slices_IndexFunc___int_int_.to slices_IndexFunc___int_int_.out) (fnRes Try.f147) [] 100000 true
theorem slices_IndexFunc___int_int_.e5 (k : Nat) (x0 : (List Int)) (x1 : Int) (x2 : Int) (x3 : Int) : slices_IndexFunc___int_int_.l2 (k + 1) x0 x1 x2 x3 = slices_IndexFunc___int_int_.R k (start (stackOf 5 slices_IndexFunc___int_int_.body)) (slices_IndexFunc___int_int_.t5.fill [⟨(.slice (.int .i64)), x0⟩, ⟨(.int .i64), x1⟩, ⟨(.int .i64), x2⟩, ⟨(.int .i64), x3⟩]) := by kernel_rfl
theorem slices_IndexFunc___int_int_.s5 : stackAt 5 slices_IndexFunc___int_int_.body [] = some (stackOf 5 slices_IndexFunc___int_int_.body) := by kernel_rfl
theorem slices_IndexFunc___int_int_.h5 (k : Nat) (ds : List Dat) (r : Int × Int) (h : slices_IndexFunc___int_int_.c5 k ds = some r) : ∃ k', k' < k ∧ ∃ s, stackAt 5 slices_IndexFunc___int_int_.body [] = some s ∧ slices_IndexFunc___int_int_.R k' (start s) (slices_IndexFunc___int_int_.t5.fill ds) = some r := by
  unfold slices_IndexFunc___int_int_.c5 at h
  obtain ⟨x0, d0, rfl, h0⟩ := pop_some h
  obtain ⟨x1, d1, rfl, h1⟩ := pop_some h0
  obtain ⟨x2, d2, rfl, h2⟩ := pop_some h1
  obtain ⟨x3, d3, rfl, h3⟩ := pop_some h2
  obtain ⟨rfl, g⟩ := popN_some h3
  cases k with
  | zero => cases (show none = some r from g)
  | succ k => exact ⟨k, Nat.lt_succ_self k, _, slices_IndexFunc___int_int_.s5, (slices_IndexFunc___int_int_.e5 k x0 x1 x2 x3).symm.trans g⟩
theorem slices_IndexFunc___int_int_.e (k : Nat) (x0 : (List Int)) (x1 : Int) : slices_IndexFunc___int_int_.f k x0 x1 = slices_IndexFunc___int_int_.R k ([.code slices_IndexFunc___int_int_.body]) (slices_IndexFunc___int_int_.ti.fill [⟨(.slice (.int .i64)), x0⟩, ⟨(.int .i64), x1⟩]) := by kernel_rfl
theorem slices_IndexFunc___int_int_.h (k : Nat) (ds : List Dat) (r : Int × Int) (h : slices_IndexFunc___int_int_.g k ds = some r) : ∃ k', k' < k ∧ slices_IndexFunc___int_int_.R k' ([.code slices_IndexFunc___int_int_.body]) (slices_IndexFunc___int_int_.ti.fill ds) = some r := by
  cases k with
  | zero => cases (show none = some r from h)
  | succ k =>
  replace h : slices_IndexFunc___int_int_.c k ds = some r := h
  unfold slices_IndexFunc___int_int_.c at h
  obtain ⟨x0, d0, rfl, h0⟩ := pop_some h
  obtain ⟨x1, d1, rfl, h1⟩ := pop_some h0
  obtain ⟨rfl, g⟩ := popN_some h1
  exact ⟨k, Nat.lt_succ_self k, (slices_IndexFunc___int_int_.e k x0 x1).symm.trans g⟩
theorem slices_IndexFunc___int_int_.o (ds : List Dat) (r : Int × Int) (h : slices_IndexFunc___int_int_.out ds = some r) : ds = slices_IndexFunc___int_int_.rs r := by
  unfold slices_IndexFunc___int_int_.out at h
  obtain ⟨x0, d0, rfl, h0⟩ := pop_some h
  obtain ⟨x1, d1, rfl, h1⟩ := pop_some h0
  obtain ⟨rfl, g⟩ := popN_some h1
  cases g
  rfl
theorem slices_IndexFunc___int_int_.fn : FnOk Try.prog 147 Try.f147 slices_IndexFunc___int_int_.body Try.f147.ntmps 2 (fnRes Try.f147) :=
  fnOk_of (by kernel_rfl) (by kernel_rfl) (by kernel_rfl) (by kernel_rfl)
theorem slices_IndexFunc___int_int_.con' : ∀ k ds r, slices_IndexFunc___int_int_.g k ds = some r → Con Try.prog 147 2 slices_IndexFunc___int_int_.ti slices_IndexFunc___int_int_.to ds (slices_IndexFunc___int_int_.rs r) :=
  fun_ok (T := T) T_ok mixed slices_IndexFunc___int_int_.fn (env := slices_IndexFunc___int_int_.env) (tbl := slices_IndexFunc___int_int_.tbl) (gOut := slices_IndexFunc___int_int_.out) (nin := 1) (cuts := []) (fuel := 100000) rfl (by kernel_rfl) (by kernel_rfl) (by kernel_rfl) (fun x hx => by
    simp only [slices_IndexFunc___int_int_.tbl, List.mem_cons, List.not_mem_nil, or_false] at hx
    subst hx
    · exact slices_IndexFunc___int_int_.h5
) slices_IndexFunc___int_int_.o slices_IndexFunc___int_int_.h (fun k _ => by unfold slices_IndexFunc___int_int_.env; exact (envC_ok (fun ds K r h => by
    obtain ⟨x0, d0, rfl, h0⟩ := pop_some h
    obtain ⟨x1, d1, rfl, h1⟩ := pop_some h0
    obtain ⟨rfl, g⟩ := popN_some h1
    obtain ⟨r1, h1, h2⟩ := bind_some g
    exact ⟨_, h2, det_Check_2.con k _ h1⟩) env0_ok))
theorem slices_IndexFunc___int_int_.con (k : Nat) {x0 : (List Int)} {x1 : Int} (r : Int × Int) (h : slices_IndexFunc___int_int_.f k x0 x1 = some r) : Con Try.prog 147 2 slices_IndexFunc___int_int_.ti slices_IndexFunc___int_int_.to [⟨(.slice (.int .i64)), x0⟩, ⟨(.int .i64), x1⟩] (slices_IndexFunc___int_int_.rs r) :=
  slices_IndexFunc___int_int_.con' (k + 1) _ r (by show slices_IndexFunc___int_int_.c k _ = some r; unfold slices_IndexFunc___int_int_.c; simp only [pop_self, popN]; exact h)
def slices_ContainsFunc___int_int_.f (k : Nat) (s0 : List (Int)) (c0_0 : Int) : Option (Bool × Int) :=
 (slices_IndexFunc___int_int_.f k s0 c0_0).bind fun r_1 =>
  some (decide (0 ≤ r_1.fst), r_1.snd)

noncomputable def slices_ContainsFunc___int_int_.body : Code := fnBody Try.f99
def slices_ContainsFunc___int_int_.ti : Tm := ⟨[(0, .p (.slice (.int .i64))), (1, .fn 185 [.ptr 0 0])], [.box [.p (.int .i64)] 3]⟩
def slices_ContainsFunc___int_int_.to : Tm := ⟨[(0, .p .bool)], [.box [.p (.int .i64)] 3]⟩
def slices_ContainsFunc___int_int_.rs (r : Bool × Int) : List Dat := [⟨.bool, r.1⟩, ⟨(.int .i64), r.2⟩]
def slices_ContainsFunc___int_int_.out (ds : List Dat) : Option (Bool × Int) := pop .bool ds fun x0 ds => pop (.int .i64) ds fun x1 ds => popN ds (some (x0, x1))
def slices_ContainsFunc___int_int_.c (k : Nat) (ds : List Dat) : Option (Bool × Int) := pop (.slice (.int .i64)) ds fun x0 ds => pop (.int .i64) ds fun x1 ds => popN ds (slices_ContainsFunc___int_int_.f k x0 x1)
def slices_ContainsFunc___int_int_.g : Nat → List Dat → Option (Bool × Int)
 | 0, _ => none
 | k + 1, ds => slices_ContainsFunc___int_int_.c k ds
def slices_ContainsFunc___int_int_.env (k : Nat) : Nat → List SV → List Chunk → KT (Bool × Int) → Option (Bool × Int) := (envC 147 2 slices_IndexFunc___int_int_.ti slices_IndexFunc___int_int_.to (fun ds K => pop (.slice (.int .i64)) ds fun x0 ds => pop (.int .i64) ds fun x1 ds => popN ds ((slices_IndexFunc___int_int_.f k x0 x1).bind fun r => K (slices_IndexFunc___int_int_.rs r))) env0)
def slices_ContainsFunc___int_int_.tbl : List (Nat × Tm × (Nat → List Dat → Option (Bool × Int))) := []
noncomputable abbrev slices_ContainsFunc___int_int_.R (k : Nat) := run T (slices_ContainsFunc___int_int_.env k) Try.f99.ntmps (cutE 1 slices_ContainsFunc___int_int_.tbl k) (finE 1 slices_ContainsFunc___int_int_.to slices_ContainsFunc___int_int_.out) (fnRes Try.f99) [] 100000 true
theorem slices_ContainsFunc___int_int_.e (k : Nat) (x0 : (List Int)) (x1 : Int) : slices_ContainsFunc___int_int_.f k x0 x1 = slices_ContainsFunc___int_int_.R k ([.code slices_ContainsFunc___int_int_.body]) (slices_ContainsFunc___int_int_.ti.fill [⟨(.slice (.int .i64)), x0⟩, ⟨(.int .i64), x1⟩]) := by kernel_rfl
theorem slices_ContainsFunc___int_int_.h (k : Nat) (ds : List Dat) (r : Bool × Int) (h : slices_ContainsFunc___int_int_.g k ds = some r) : ∃ k', k' < k ∧ slices_ContainsFunc___int_int_.R k' ([.code slices_ContainsFunc___int_int_.body]) (slices_ContainsFunc___int_int_.ti.fill ds) = some r := by
  cases k with
  | zero => cases (show none = some r from h)
  | succ k =>
  replace h : slices_ContainsFunc___int_int_.c k ds = some r := h
  unfold slices_ContainsFunc___int_int_.c at h
  obtain ⟨x0, d0, rfl, h0⟩ := pop_some h
  obtain ⟨x1, d1, rfl, h1⟩ := pop_some h0
  obtain ⟨rfl, g⟩ := popN_some h1
  exact ⟨k, Nat.lt_succ_self k, (slices_ContainsFunc___int_int_.e k x0 x1).symm.trans g⟩
theorem slices_ContainsFunc___int_int_.o (ds : List Dat) (r : Bool × Int) (h : slices_ContainsFunc___int_int_.out ds = some r) : ds = slices_ContainsFunc___int_int_.rs r := by
  unfold slices_ContainsFunc___int_int_.out at h
  obtain ⟨x0, d0, rfl, h0⟩ := pop_some h
  obtain ⟨x1, d1, rfl, h1⟩ := pop_some h0
  obtain ⟨rfl, g⟩ := popN_some h1
  cases g
  rfl
theorem slices_ContainsFunc___int_int_.fn : FnOk Try.prog 99 Try.f99 slices_ContainsFunc___int_int_.body Try.f99.ntmps 2 (fnRes Try.f99) :=
  fnOk_of (by kernel_rfl) (by kernel_rfl) (by kernel_rfl) (by kernel_rfl)
theorem slices_ContainsFunc___int_int_.con' : ∀ k ds r, slices_ContainsFunc___int_int_.g k ds = some r → Con Try.prog 99 2 slices_ContainsFunc___int_int_.ti slices_ContainsFunc___int_int_.to ds (slices_ContainsFunc___int_int_.rs r) :=
  fun_ok (T := T) T_ok mixed slices_ContainsFunc___int_int_.fn (env := slices_ContainsFunc___int_int_.env) (tbl := slices_ContainsFunc___int_int_.tbl) (gOut := slices_ContainsFunc___int_int_.out) (nin := 1) (cuts := []) (fuel := 100000) rfl (by kernel_rfl) (by kernel_rfl) (by kernel_rfl) (fun x hx => by simp [slices_ContainsFunc___int_int_.tbl] at hx) slices_ContainsFunc___int_int_.o slices_ContainsFunc___int_int_.h (fun k _ => by unfold slices_ContainsFunc___int_int_.env; exact (envC_ok (fun ds K r h => by
    obtain ⟨x0, d0, rfl, h0⟩ := pop_some h
    obtain ⟨x1, d1, rfl, h1⟩ := pop_some h0
    obtain ⟨rfl, g⟩ := popN_some h1
    obtain ⟨r1, h1, h2⟩ := bind_some g
    exact ⟨_, h2, slices_IndexFunc___int_int_.con k _ h1⟩) env0_ok))
theorem slices_ContainsFunc___int_int_.con (k : Nat) {x0 : (List Int)} {x1 : Int} (r : Bool × Int) (h : slices_ContainsFunc___int_int_.f k x0 x1 = some r) : Con Try.prog 99 2 slices_ContainsFunc___int_int_.ti slices_ContainsFunc___int_int_.to [⟨(.slice (.int .i64)), x0⟩, ⟨(.int .i64), x1⟩] (slices_ContainsFunc___int_int_.rs r) :=
  slices_ContainsFunc___int_int_.con' (k + 1) _ r (by show slices_ContainsFunc___int_int_.c k _ = some r; unfold slices_ContainsFunc___int_int_.c; simp only [pop_self, popN]; exact h)
def det_Check_3.f (k : Nat) (r0 : List (Int)) (c1_0 : Int) : Option (Bool × Int) :=
 (slices_ContainsFunc___int_int_.f k r0 c1_0).bind fun r_1 =>
  some (r_1.fst, r_1.snd)

noncomputable def det_Check_3.body : Code := fnBody Try.f186
def det_Check_3.ti : Tm := ⟨[(0, .p (.slice (.int .i64))), (1, .ptr 0 0)], [.box [.fn 185 [.ptr 1 0]] 147, .box [.p (.int .i64)] 3]⟩
def det_Check_3.to : Tm := ⟨[(0, .p .bool)], [.box [.fn 185 [.ptr 1 0]] 147, .box [.p (.int .i64)] 3]⟩
def det_Check_3.rs (r : Bool × Int) : List Dat := [⟨.bool, r.1⟩, ⟨(.int .i64), r.2⟩]
def det_Check_3.out (ds : List Dat) : Option (Bool × Int) := pop .bool ds fun x0 ds => pop (.int .i64) ds fun x1 ds => popN ds (some (x0, x1))
def det_Check_3.c (k : Nat) (ds : List Dat) : Option (Bool × Int) := pop (.slice (.int .i64)) ds fun x0 ds => pop (.int .i64) ds fun x1 ds => popN ds (det_Check_3.f k x0 x1)
def det_Check_3.g : Nat → List Dat → Option (Bool × Int)
 | 0, _ => none
 | k + 1, ds => det_Check_3.c k ds
def det_Check_3.env (k : Nat) : Nat → List SV → List Chunk → KT (Bool × Int) → Option (Bool × Int) := (envC 99 2 slices_ContainsFunc___int_int_.ti slices_ContainsFunc___int_int_.to (fun ds K => pop (.slice (.int .i64)) ds fun x0 ds => pop (.int .i64) ds fun x1 ds => popN ds ((slices_ContainsFunc___int_int_.f k x0 x1).bind fun r => K (slices_ContainsFunc___int_int_.rs r))) env0)
def det_Check_3.tbl : List (Nat × Tm × (Nat → List Dat → Option (Bool × Int))) := []
noncomputable abbrev det_Check_3.R (k : Nat) := run T (det_Check_3.env k) Try.f186.ntmps (cutE 2 det_Check_3.tbl k) (finE 2 det_Check_3.to det_Check_3.out) (fnRes Try.f186) [] 100000 true
theorem det_Check_3.e (k : Nat) (x0 : (List Int)) (x1 : Int) : det_Check_3.f k x0 x1 = det_Check_3.R k ([.code det_Check_3.body]) (det_Check_3.ti.fill [⟨(.slice (.int .i64)), x0⟩, ⟨(.int .i64), x1⟩]) := by kernel_rfl
theorem det_Check_3.h (k : Nat) (ds : List Dat) (r : Bool × Int) (h : det_Check_3.g k ds = some r) : ∃ k', k' < k ∧ det_Check_3.R k' ([.code det_Check_3.body]) (det_Check_3.ti.fill ds) = some r := by
  cases k with
  | zero => cases (show none = some r from h)
  | succ k =>
  replace h : det_Check_3.c k ds = some r := h
  unfold det_Check_3.c at h
  obtain ⟨x0, d0, rfl, h0⟩ := pop_some h
  obtain ⟨x1, d1, rfl, h1⟩ := pop_some h0
  obtain ⟨rfl, g⟩ := popN_some h1
  exact ⟨k, Nat.lt_succ_self k, (det_Check_3.e k x0 x1).symm.trans g⟩
theorem det_Check_3.o (ds : List Dat) (r : Bool × Int) (h : det_Check_3.out ds = some r) : ds = det_Check_3.rs r := by
  unfold det_Check_3.out at h
  obtain ⟨x0, d0, rfl, h0⟩ := pop_some h
  obtain ⟨x1, d1, rfl, h1⟩ := pop_some h0
  obtain ⟨rfl, g⟩ := popN_some h1
  cases g
  rfl
theorem det_Check_3.fn : FnOk Try.prog 186 Try.f186 det_Check_3.body Try.f186.ntmps 2 (fnRes Try.f186) :=
  fnOk_of (by kernel_rfl) (by kernel_rfl) (by kernel_rfl) (by kernel_rfl)
theorem det_Check_3.con' : ∀ k ds r, det_Check_3.g k ds = some r → Con Try.prog 186 2 det_Check_3.ti det_Check_3.to ds (det_Check_3.rs r) :=
  fun_ok (T := T) T_ok mixed det_Check_3.fn (env := det_Check_3.env) (tbl := det_Check_3.tbl) (gOut := det_Check_3.out) (nin := 2) (cuts := []) (fuel := 100000) rfl (by kernel_rfl) (by kernel_rfl) (by kernel_rfl) (fun x hx => by simp [det_Check_3.tbl] at hx) det_Check_3.o det_Check_3.h (fun k _ => by unfold det_Check_3.env; exact (envC_ok (fun ds K r h => by
    obtain ⟨x0, d0, rfl, h0⟩ := pop_some h
    obtain ⟨x1, d1, rfl, h1⟩ := pop_some h0
    obtain ⟨rfl, g⟩ := popN_some h1
    obtain ⟨r1, h1, h2⟩ := bind_some g
    exact ⟨_, h2, slices_ContainsFunc___int_int_.con k _ h1⟩) env0_ok))
theorem det_Check_3.con (k : Nat) {x0 : (List Int)} {x1 : Int} (r : Bool × Int) (h : det_Check_3.f k x0 x1 = some r) : Con Try.prog 186 2 det_Check_3.ti det_Check_3.to [⟨(.slice (.int .i64)), x0⟩, ⟨(.int .i64), x1⟩] (det_Check_3.rs r) :=
  det_Check_3.con' (k + 1) _ r (by show det_Check_3.c k _ = some r; unfold det_Check_3.c; simp only [pop_self, popN]; exact h)
mutual
def slices_IndexFunc_____int___int__2.l2 : Nat → List (List (Int)) → Int → Int → Int → Option (Int × Int)
 | 0, _, _, _, _ => none
 | k + 1, s0, x7, x8, c1_0 =>
  if x8 < x7 then
   if 0 ≤ x8 then
   if x8 < (↑s0.length : Int) then
    (det_Check_3.f k (Go.Proofs.YtmagglebkbiffaaSx.rd [] s0 x8) c1_0).bind fun r_5 =>
      if r_5.fst = true then
       some (x8, r_5.snd)
      else
       slices_IndexFunc_____int___int__2.l2 k s0 x7 (Go.IntKind.i64.wrap (x8 + 1)) r_5.snd
    else none
   else none
  else
   some (-1, c1_0)
end
def slices_IndexFunc_____int___int__2.f (k : Nat) (s0 : List (List (Int))) (c1_0 : Int) : Option (Int × Int) :=
 slices_IndexFunc_____int___int__2.l2 k s0 ((↑s0.length : Int)) 0 c1_0

noncomputable def slices_IndexFunc_____int___int__2.body : Code := fnBody Try.f135
def slices_IndexFunc_____int___int__2.ti : Tm := ⟨[(0, .p (.slice (.slice (.int .i64)))), (1, .fn 186 [.ptr 0 0])], [.box [.fn 185 [.ptr 1 0]] 147, .box [.p (.int .i64)] 3]⟩
def slices_IndexFunc_____int___int__2.to : Tm := ⟨[(0, .p (.int .i64))], [.box [.fn 185 [.ptr 1 0]] 147, .box [.p (.int .i64)] 3]⟩
def slices_IndexFunc_____int___int__2.rs (r : Int × Int) : List Dat := [⟨(.int .i64), r.1⟩, ⟨(.int .i64), r.2⟩]
def slices_IndexFunc_____int___int__2.out (ds : List Dat) : Option (Int × Int) := pop (.int .i64) ds fun x0 ds => pop (.int .i64) ds fun x1 ds => popN ds (some (x0, x1))
def slices_IndexFunc_____int___int__2.c (k : Nat) (ds : List Dat) : Option (Int × Int) := pop (.slice (.slice (.int .i64))) ds fun x0 ds => pop (.int .i64) ds fun x1 ds => popN ds (slices_IndexFunc_____int___int__2.f k x0 x1)
def slices_IndexFunc_____int___int__2.g : Nat → List Dat → Option (Int × Int)
 | 0, _ => none
 | k + 1, ds => slices_IndexFunc_____int___int__2.c k ds
def slices_IndexFunc_____int___int__2.env (k : Nat) : Nat → List SV → List Chunk → KT (Int × Int) → Option (Int × Int) := (envC 186 2 det_Check_3.ti det_Check_3.to (fun ds K => pop (.slice (.int .i64)) ds fun x0 ds => pop (.int .i64) ds fun x1 ds => popN ds ((det_Check_3.f k x0 x1).bind fun r => K (det_Check_3.rs r))) env0)
def slices_IndexFunc_____int___int__2.t5 : Tm := ⟨[(0, .p (.slice (.slice (.int .i64)))), (1, .fn 186 [.ptr 0 0]), (7, .p (.int .i64)), (8, .p (.int .i64))], [.box [.fn 185 [.ptr 1 0]] 147, .box [.p (.int .i64)] 3]⟩
def slices_IndexFunc_____int___int__2.c5 (k : Nat) (ds : List Dat) : Option (Int × Int) := pop (.slice (.slice (.int .i64))) ds fun x0 ds => pop (.int .i64) ds fun x1 ds => pop (.int .i64) ds fun x2 ds => pop (.int .i64) ds fun x3 ds => popN ds (slices_IndexFunc_____int___int__2.l2 k x0 x1 x2 x3)
def slices_IndexFunc_____int___int__2.tbl : List (Nat × Tm × (Nat → List Dat → Option (Int × Int))) := [(5, slices_IndexFunc_____int___int__2.t5, slices_IndexFunc_____int___int__2.c5)]
noncomputable abbrev slices_IndexFunc_____int___int__2.R (k : Nat) := run T (slices_IndexFunc_____int___int__2.env k) Try.f135.ntmps (cutE 2 slices_IndexFunc_____int___int__2.tbl k) (finE 2 slices_IndexFunc_____int___int__2.to slices_IndexFunc_____int___int__2.out) (fnRes Try.f135) [] 100000 true
theorem slices_IndexFunc_____int___int__2.e5 (k : Nat) (x0 : (List (List Int))) (x1 : Int) (x2 : Int) (x3 : Int) : slices_IndexFunc_____int___int__2.l2 (k + 1) x0 x1 x2 x3 = slices_IndexFunc_____int___int__2.R k (start (stackOf 5 slices_IndexFunc_____int___int__2.body)) (slices_IndexFunc_____int___int__2.t5.fill [⟨(.slice (.slice (.int .i64))), x0⟩, ⟨(.int .i64), x1⟩, ⟨(.int .i64), x2⟩, ⟨(.int .i64), x3⟩]) := by kernel_rfl
theorem slices_IndexFunc_____int___int__2.s5 : stackAt 5 slices_IndexFunc_____int___int__2.body [] = some (stackOf 5 slices_IndexFunc_____int___int__2.body) := by kernel_rfl
theorem slices_IndexFunc_____int___int__2.h5 (k : Nat) (ds : List Dat) (r : Int × Int) (h : slices_IndexFunc_____int___int__2.c5 k ds = some r) : ∃ k', k' < k ∧ ∃ s, stackAt 5 slices_IndexFunc_____int___int__2.body [] = some s ∧ slices_IndexFunc_____int___int__2.R k' (start s) (slices_IndexFunc_____int___int__2.t5.fill ds) = some r := by
  unfold slices_IndexFunc_____int___int__2.c5 at h
  obtain ⟨x0, d0, rfl, h0⟩ := pop_some h
  obtain ⟨x1, d1, rfl, h1⟩ := pop_some h0
  obtain ⟨x2, d2, rfl, h2⟩ := pop_some h1
  obtain ⟨x3, d3, rfl, h3⟩ := pop_some h2
  obtain ⟨rfl, g⟩ := popN_some h3
  cases k with
  | zero => cases (show none = some r from g)
  | succ k => exact ⟨k, Nat.lt_succ_self k, _, slices_IndexFunc_____int___int__2.s5, (slices_IndexFunc_____int___int__2.e5 k x0 x1 x2 x3).symm.trans g⟩
theorem slices_IndexFunc_____int___int__2.e (k : Nat) (x0 : (List (List Int))) (x1 : Int) : slices_IndexFunc_____int___int__2.f k x0 x1 = slices_IndexFunc_____int___int__2.R k ([.code slices_IndexFunc_____int___int__2.body]) (slices_IndexFunc_____int___int__2.ti.fill [⟨(.slice (.slice (.int .i64))), x0⟩, ⟨(.int .i64), x1⟩]) := by kernel_rfl
theorem slices_IndexFunc_____int___int__2.h (k : Nat) (ds : List Dat) (r : Int × Int) (h : slices_IndexFunc_____int___int__2.g k ds = some r) : ∃ k', k' < k ∧ slices_IndexFunc_____int___int__2.R k' ([.code slices_IndexFunc_____int___int__2.body]) (slices_IndexFunc_____int___int__2.ti.fill ds) = some r := by
  cases k with
  | zero => cases (show none = some r from h)
  | succ k =>
  replace h : slices_IndexFunc_____int___int__2.c k ds = some r := h
  unfold slices_IndexFunc_____int___int__2.c at h
  obtain ⟨x0, d0, rfl, h0⟩ := pop_some h
  obtain ⟨x1, d1, rfl, h1⟩ := pop_some h0
  obtain ⟨rfl, g⟩ := popN_some h1
  exact ⟨k, Nat.lt_succ_self k, (slices_IndexFunc_____int___int__2.e k x0 x1).symm.trans g⟩
theorem slices_IndexFunc_____int___int__2.o (ds : List Dat) (r : Int × Int) (h : slices_IndexFunc_____int___int__2.out ds = some r) : ds = slices_IndexFunc_____int___int__2.rs r := by
  unfold slices_IndexFunc_____int___int__2.out at h
  obtain ⟨x0, d0, rfl, h0⟩ := pop_some h
  obtain ⟨x1, d1, rfl, h1⟩ := pop_some h0
  obtain ⟨rfl, g⟩ := popN_some h1
  cases g
  rfl
theorem slices_IndexFunc_____int___int__2.fn : FnOk Try.prog 135 Try.f135 slices_IndexFunc_____int___int__2.body Try.f135.ntmps 2 (fnRes Try.f135) :=
  fnOk_of (by kernel_rfl) (by kernel_rfl) (by kernel_rfl) (by kernel_rfl)
theorem slices_IndexFunc_____int___int__2.con' : ∀ k ds r, slices_IndexFunc_____int___int__2.g k ds = some r → Con Try.prog 135 2 slices_IndexFunc_____int___int__2.ti slices_IndexFunc_____int___int__2.to ds (slices_IndexFunc_____int___int__2.rs r) :=
  fun_ok (T := T) T_ok mixed slices_IndexFunc_____int___int__2.fn (env := slices_IndexFunc_____int___int__2.env) (tbl := slices_IndexFunc_____int___int__2.tbl) (gOut := slices_IndexFunc_____int___int__2.out) (nin := 2) (cuts := []) (fuel := 100000) rfl (by kernel_rfl) (by kernel_rfl) (by kernel_rfl) (fun x hx => by
    simp only [slices_IndexFunc_____int___int__2.tbl, List.mem_cons, List.not_mem_nil, or_false] at hx
    subst hx
    · exact slices_IndexFunc_____int___int__2.h5
) slices_IndexFunc_____int___int__2.o slices_IndexFunc_____int___int__2.h (fun k _ => by unfold slices_IndexFunc_____int___int__2.env; exact (envC_ok (fun ds K r h => by
    obtain ⟨x0, d0, rfl, h0⟩ := pop_some h
    obtain ⟨x1, d1, rfl, h1⟩ := pop_some h0
    obtain ⟨rfl, g⟩ := popN_some h1
    obtain ⟨r1, h1, h2⟩ := bind_some g
    exact ⟨_, h2, det_Check_3.con k _ h1⟩) env0_ok))
theorem slices_IndexFunc_____int___int__2.con (k : Nat) {x0 : (List (List Int))} {x1 : Int} (r : Int × Int) (h : slices_IndexFunc_____int___int__2.f k x0 x1 = some r) : Con Try.prog 135 2 slices_IndexFunc_____int___int__2.ti slices_IndexFunc_____int___int__2.to [⟨(.slice (.slice (.int .i64))), x0⟩, ⟨(.int .i64), x1⟩] (slices_IndexFunc_____int___int__2.rs r) :=
  slices_IndexFunc_____int___int__2.con' (k + 1) _ r (by show slices_IndexFunc_____int___int__2.c k _ = some r; unfold slices_IndexFunc_____int___int__2.c; simp only [pop_self, popN]; exact h)
def slices_ContainsFunc_____int___int__2.f (k : Nat) (s0 : List (List (Int))) (c1_0 : Int) : Option (Bool × Int) :=
 (slices_IndexFunc_____int___int__2.f k s0 c1_0).bind fun r_1 =>
  some (decide (0 ≤ r_1.fst), r_1.snd)

noncomputable def slices_ContainsFunc_____int___int__2.body : Code := fnBody Try.f70
def slices_ContainsFunc_____int___int__2.ti : Tm := ⟨[(0, .p (.slice (.slice (.int .i64)))), (1, .fn 186 [.ptr 0 0])], [.box [.fn 185 [.ptr 1 0]] 147, .box [.p (.int .i64)] 3]⟩
def slices_ContainsFunc_____int___int__2.to : Tm := ⟨[(0, .p .bool)], [.box [.fn 185 [.ptr 1 0]] 147, .box [.p (.int .i64)] 3]⟩
def slices_ContainsFunc_____int___int__2.rs (r : Bool × Int) : List Dat := [⟨.bool, r.1⟩, ⟨(.int .i64), r.2⟩]
def slices_ContainsFunc_____int___int__2.out (ds : List Dat) : Option (Bool × Int) := pop .bool ds fun x0 ds => pop (.int .i64) ds fun x1 ds => popN ds (some (x0, x1))
def slices_ContainsFunc_____int___int__2.c (k : Nat) (ds : List Dat) : Option (Bool × Int) := pop (.slice (.slice (.int .i64))) ds fun x0 ds => pop (.int .i64) ds fun x1 ds => popN ds (slices_ContainsFunc_____int___int__2.f k x0 x1)
def slices_ContainsFunc_____int___int__2.g : Nat → List Dat → Option (Bool × Int)
 | 0, _ => none
 | k + 1, ds => slices_ContainsFunc_____int___int__2.c k ds
def slices_ContainsFunc_____int___int__2.env (k : Nat) : Nat → List SV → List Chunk → KT (Bool × Int) → Option (Bool × Int) := (envC 135 2 slices_IndexFunc_____int___int__2.ti slices_IndexFunc_____int___int__2.to (fun ds K => pop (.slice (.slice (.int .i64))) ds fun x0 ds => pop (.int .i64) ds fun x1 ds => popN ds ((slices_IndexFunc_____int___int__2.f k x0 x1).bind fun r => K (slices_IndexFunc_____int___int__2.rs r))) env0)
def slices_ContainsFunc_____int___int__2.tbl : List (Nat × Tm × (Nat → List Dat → Option (Bool × Int))) := []
noncomputable abbrev slices_ContainsFunc_____int___int__2.R (k : Nat) := run T (slices_ContainsFunc_____int___int__2.env k) Try.f70.ntmps (cutE 2 slices_ContainsFunc_____int___int__2.tbl k) (finE 2 slices_ContainsFunc_____int___int__2.to slices_ContainsFunc_____int___int__2.out) (fnRes Try.f70) [] 100000 true
theorem slices_ContainsFunc_____int___int__2.e (k : Nat) (x0 : (List (List Int))) (x1 : Int) : slices_ContainsFunc_____int___int__2.f k x0 x1 = slices_ContainsFunc_____int___int__2.R k ([.code slices_ContainsFunc_____int___int__2.body]) (slices_ContainsFunc_____int___int__2.ti.fill [⟨(.slice (.slice (.int .i64))), x0⟩, ⟨(.int .i64), x1⟩]) := by kernel_rfl
theorem slices_ContainsFunc_____int___int__2.h (k : Nat) (ds : List Dat) (r : Bool × Int) (h : slices_ContainsFunc_____int___int__2.g k ds = some r) : ∃ k', k' < k ∧ slices_ContainsFunc_____int___int__2.R k' ([.code slices_ContainsFunc_____int___int__2.body]) (slices_ContainsFunc_____int___int__2.ti.fill ds) = some r := by
  cases k with
  | zero => cases (show none = some r from h)
  | succ k =>
  replace h : slices_ContainsFunc_____int___int__2.c k ds = some r := h
  unfold slices_ContainsFunc_____int___int__2.c at h
  obtain ⟨x0, d0, rfl, h0⟩ := pop_some h
  obtain ⟨x1, d1, rfl, h1⟩ := pop_some h0
  obtain ⟨rfl, g⟩ := popN_some h1
  exact ⟨k, Nat.lt_succ_self k, (slices_ContainsFunc_____int___int__2.e k x0 x1).symm.trans g⟩
theorem slices_ContainsFunc_____int___int__2.o (ds : List Dat) (r : Bool × Int) (h : slices_ContainsFunc_____int___int__2.out ds = some r) : ds = slices_ContainsFunc_____int___int__2.rs r := by
  unfold slices_ContainsFunc_____int___int__2.out at h
  obtain ⟨x0, d0, rfl, h0⟩ := pop_some h
  obtain ⟨x1, d1, rfl, h1⟩ := pop_some h0
  obtain ⟨rfl, g⟩ := popN_some h1
  cases g
  rfl
theorem slices_ContainsFunc_____int___int__2.fn : FnOk Try.prog 70 Try.f70 slices_ContainsFunc_____int___int__2.body Try.f70.ntmps 2 (fnRes Try.f70) :=
  fnOk_of (by kernel_rfl) (by kernel_rfl) (by kernel_rfl) (by kernel_rfl)
theorem slices_ContainsFunc_____int___int__2.con' : ∀ k ds r, slices_ContainsFunc_____int___int__2.g k ds = some r → Con Try.prog 70 2 slices_ContainsFunc_____int___int__2.ti slices_ContainsFunc_____int___int__2.to ds (slices_ContainsFunc_____int___int__2.rs r) :=
  fun_ok (T := T) T_ok mixed slices_ContainsFunc_____int___int__2.fn (env := slices_ContainsFunc_____int___int__2.env) (tbl := slices_ContainsFunc_____int___int__2.tbl) (gOut := slices_ContainsFunc_____int___int__2.out) (nin := 2) (cuts := []) (fuel := 100000) rfl (by kernel_rfl) (by kernel_rfl) (by kernel_rfl) (fun x hx => by simp [slices_ContainsFunc_____int___int__2.tbl] at hx) slices_ContainsFunc_____int___int__2.o slices_ContainsFunc_____int___int__2.h (fun k _ => by unfold slices_ContainsFunc_____int___int__2.env; exact (envC_ok (fun ds K r h => by
    obtain ⟨x0, d0, rfl, h0⟩ := pop_some h
    obtain ⟨x1, d1, rfl, h1⟩ := pop_some h0
    obtain ⟨rfl, g⟩ := popN_some h1
    obtain ⟨r1, h1, h2⟩ := bind_some g
    exact ⟨_, h2, slices_IndexFunc_____int___int__2.con k _ h1⟩) env0_ok))
theorem slices_ContainsFunc_____int___int__2.con (k : Nat) {x0 : (List (List Int))} {x1 : Int} (r : Bool × Int) (h : slices_ContainsFunc_____int___int__2.f k x0 x1 = some r) : Con Try.prog 70 2 slices_ContainsFunc_____int___int__2.ti slices_ContainsFunc_____int___int__2.to [⟨(.slice (.slice (.int .i64))), x0⟩, ⟨(.int .i64), x1⟩] (slices_ContainsFunc_____int___int__2.rs r) :=
  slices_ContainsFunc_____int___int__2.con' (k + 1) _ r (by show slices_ContainsFunc_____int___int__2.c k _ = some r; unfold slices_ContainsFunc_____int___int__2.c; simp only [pop_self, popN]; exact h)
def det_Check_4.f (k : Nat) (m0 : Int) : Option (Bool) :=
 if m0 = 0 then
  some (false)
 else
  some (!decide (m0 = 1))

noncomputable def det_Check_4.body : Code := fnBody Try.f187
def det_Check_4.ti : Tm := ⟨[(0, .p (.int .i64))], []⟩
def det_Check_4.to : Tm := ⟨[(0, .p .bool)], []⟩
def det_Check_4.rs (r : Bool) : List Dat := [⟨.bool, r⟩]
def det_Check_4.out (ds : List Dat) : Option (Bool) := pop .bool ds fun x0 ds => popN ds (some (x0))
def det_Check_4.c (k : Nat) (ds : List Dat) : Option (Bool) := pop (.int .i64) ds fun x0 ds => popN ds (det_Check_4.f k x0)
def det_Check_4.g : Nat → List Dat → Option (Bool)
 | 0, _ => none
 | k + 1, ds => det_Check_4.c k ds
def det_Check_4.env (k : Nat) : Nat → List SV → List Chunk → KT (Bool) → Option (Bool) := env0
def det_Check_4.tbl : List (Nat × Tm × (Nat → List Dat → Option (Bool))) := []
noncomputable abbrev det_Check_4.R (k : Nat) := run T (det_Check_4.env k) Try.f187.ntmps (cutE 0 det_Check_4.tbl k) (finE 0 det_Check_4.to det_Check_4.out) (fnRes Try.f187) [] 100000 true
theorem det_Check_4.e (k : Nat) (x0 : Int) : det_Check_4.f k x0 = det_Check_4.R k ([.code det_Check_4.body]) (det_Check_4.ti.fill [⟨(.int .i64), x0⟩]) := by kernel_rfl
theorem det_Check_4.h (k : Nat) (ds : List Dat) (r : Bool) (h : det_Check_4.g k ds = some r) : ∃ k', k' < k ∧ det_Check_4.R k' ([.code det_Check_4.body]) (det_Check_4.ti.fill ds) = some r := by
  cases k with
  | zero => cases (show none = some r from h)
  | succ k =>
  replace h : det_Check_4.c k ds = some r := h
  unfold det_Check_4.c at h
  obtain ⟨x0, d0, rfl, h0⟩ := pop_some h
  obtain ⟨rfl, g⟩ := popN_some h0
  exact ⟨k, Nat.lt_succ_self k, (det_Check_4.e k x0).symm.trans g⟩
theorem det_Check_4.o (ds : List Dat) (r : Bool) (h : det_Check_4.out ds = some r) : ds = det_Check_4.rs r := by
  unfold det_Check_4.out at h
  obtain ⟨x0, d0, rfl, h0⟩ := pop_some h
  obtain ⟨rfl, g⟩ := popN_some h0
  cases g
  rfl
theorem det_Check_4.fn : FnOk Try.prog 187 Try.f187 det_Check_4.body Try.f187.ntmps 1 (fnRes Try.f187) :=
  fnOk_of (by kernel_rfl) (by kernel_rfl) (by kernel_rfl) (by kernel_rfl)
theorem det_Check_4.con' : ∀ k ds r, det_Check_4.g k ds = some r → Con Try.prog 187 1 det_Check_4.ti det_Check_4.to ds (det_Check_4.rs r) :=
  fun_ok (T := T) T_ok mixed det_Check_4.fn (env := det_Check_4.env) (tbl := det_Check_4.tbl) (gOut := det_Check_4.out) (nin := 0) (cuts := []) (fuel := 100000) rfl (by kernel_rfl) (by kernel_rfl) (by kernel_rfl) (fun x hx => by simp [det_Check_4.tbl] at hx) det_Check_4.o det_Check_4.h (fun k _ => by unfold det_Check_4.env; exact env0_ok)
theorem det_Check_4.con (k : Nat) {x0 : Int} (r : Bool) (h : det_Check_4.f k x0 = some r) : Con Try.prog 187 1 det_Check_4.ti det_Check_4.to [⟨(.int .i64), x0⟩] (det_Check_4.rs r) :=
  det_Check_4.con' (k + 1) _ r (by show det_Check_4.c k _ = some r; unfold det_Check_4.c; simp only [pop_self, popN]; exact h)
mutual
def slices_IndexFunc___int_int__2.l2 : Nat → List (Int) → Int → Int → Option (Int)
 | 0, _, _, _ => none
 | k + 1, s0, x7, x8 =>
  if x8 < x7 then
   if 0 ≤ x8 then
   if x8 < (↑s0.length : Int) then
    (det_Check_4.f k (Go.Proofs.YtmagglebkbiffaaSx.rd (Int.ofNat 0) s0 x8)).bind fun r_5 =>
      if r_5 = true then
       some (x8)
      else
       slices_IndexFunc___int_int__2.l2 k s0 x7 (Go.IntKind.i64.wrap (x8 + 1))
    else none
   else none
  else
   some (-1)
end
def slices_IndexFunc___int_int__2.f (k : Nat) (s0 : List (Int)) : Option (Int) :=
 slices_IndexFunc___int_int__2.l2 k s0 ((↑s0.length : Int)) 0

noncomputable def slices_IndexFunc___int_int__2.body : Code := fnBody Try.f147
def slices_IndexFunc___int_int__2.ti : Tm := ⟨[(0, .p (.slice (.int .i64))), (1, .fn 187 [])], []⟩
def slices_IndexFunc___int_int__2.to : Tm := ⟨[(0, .p (.int .i64))], []⟩
def slices_IndexFunc___int_int__2.rs (r : Int) : List Dat := [⟨(.int .i64), r⟩]
def slices_IndexFunc___int_int__2.out (ds : List Dat) : Option (Int) := pop (.int .i64) ds fun x0 ds => popN ds (some (x0))
def slices_IndexFunc___int_int__2.c (k : Nat) (ds : List Dat) : Option (Int) := pop (.slice (.int .i64)) ds fun x0 ds => popN ds (slices_IndexFunc___int_int__2.f k x0)
def slices_IndexFunc___int_int__2.g : Nat → List Dat → Option (Int)
 | 0, _ => none
 | k + 1, ds => slices_IndexFunc___int_int__2.c k ds
def slices_IndexFunc___int_int__2.env (k : Nat) : Nat → List SV → List Chunk → KT (Int) → Option (Int) := (envC 187 1 det_Check_4.ti det_Check_4.to (fun ds K => pop (.int .i64) ds fun x0 ds => popN ds ((det_Check_4.f k x0).bind fun r => K (det_Check_4.rs r))) env0)
def slices_IndexFunc___int_int__2.t5 : Tm := ⟨[(0, .p (.slice (.int .i64))), (1, .fn 187 []), (7, .p (.int .i64)), (8, .p (.int .i64))], []⟩
def slices_IndexFunc___int_int__2.c5 (k : Nat) (ds : List Dat) : Option (Int) := pop (.slice (.int .i64)) ds fun x0 ds => pop (.int .i64) ds fun x1 ds => pop (.int .i64) ds fun x2 ds => popN ds (slices_IndexFunc___int_int__2.l2 k x0 x1 x2)
def slices_IndexFunc___int_int__2.tbl : List (Nat × Tm × (Nat → List Dat → Option (Int))) := [(5, slices_IndexFunc___int_int__2.t5, slices_IndexFunc___int_int__2.c5)]
noncomputable abbrev slices_IndexFunc___int_int__2.R (k : Nat) := run T (slices_IndexFunc___int_int__2.env k) Try.f147.ntmps (cutE 0 slices_IndexFunc___int_int__2.tbl k) (finE 0 slices_IndexFunc___int_int__2.to slices_IndexFunc___int_int__2.out) (fnRes Try.f147) [] 100000 true
theorem slices_IndexFunc___int_int__2.e5 (k : Nat) (x0 : (List Int)) (x1 : Int) (x2 : Int) : slices_IndexFunc___int_int__2.l2 (k + 1) x0 x1 x2 = slices_IndexFunc___int_int__2.R k (start (stackOf 5 slices_IndexFunc___int_int__2.body)) (slices_IndexFunc___int_int__2.t5.fill [⟨(.slice (.int .i64)), x0⟩, ⟨(.int .i64), x1⟩, ⟨(.int .i64), x2⟩]) := by kernel_rfl
theorem slices_IndexFunc___int_int__2.s5 : stackAt 5 slices_IndexFunc___int_int__2.body [] = some (stackOf 5 slices_IndexFunc___int_int__2.body) := by kernel_rfl
theorem slices_IndexFunc___int_int__2.h5 (k : Nat) (ds : List Dat) (r : Int) (h : slices_IndexFunc___int_int__2.c5 k ds = some r) : ∃ k', k' < k ∧ ∃ s, stackAt 5 slices_IndexFunc___int_int__2.body [] = some s ∧ slices_IndexFunc___int_int__2.R k' (start s) (slices_IndexFunc___int_int__2.t5.fill ds) = some r := by
  unfold slices_IndexFunc___int_int__2.c5 at h
  obtain ⟨x0, d0, rfl, h0⟩ := pop_some h
  obtain ⟨x1, d1, rfl, h1⟩ := pop_some h0
  obtain ⟨x2, d2, rfl, h2⟩ := pop_some h1
  obtain ⟨rfl, g⟩ := popN_some h2
  cases k with
  | zero => cases (show none = some r from g)
  | succ k => exact ⟨k, Nat.lt_succ_self k, _, slices_IndexFunc___int_int__2.s5, (slices_IndexFunc___int_int__2.e5 k x0 x1 x2).symm.trans g⟩
theorem slices_IndexFunc___int_int__2.e (k : Nat) (x0 : (List Int)) : slices_IndexFunc___int_int__2.f k x0 = slices_IndexFunc___int_int__2.R k ([.code slices_IndexFunc___int_int__2.body]) (slices_IndexFunc___int_int__2.ti.fill [⟨(.slice (.int .i64)), x0⟩]) := by kernel_rfl
theorem slices_IndexFunc___int_int__2.h (k : Nat) (ds : List Dat) (r : Int) (h : slices_IndexFunc___int_int__2.g k ds = some r) : ∃ k', k' < k ∧ slices_IndexFunc___int_int__2.R k' ([.code slices_IndexFunc___int_int__2.body]) (slices_IndexFunc___int_int__2.ti.fill ds) = some r := by
  cases k with
  | zero => cases (show none = some r from h)
  | succ k =>
  replace h : slices_IndexFunc___int_int__2.c k ds = some r := h
  unfold slices_IndexFunc___int_int__2.c at h
  obtain ⟨x0, d0, rfl, h0⟩ := pop_some h
  obtain ⟨rfl, g⟩ := popN_some h0
  exact ⟨k, Nat.lt_succ_self k, (slices_IndexFunc___int_int__2.e k x0).symm.trans g⟩
theorem slices_IndexFunc___int_int__2.o (ds : List Dat) (r : Int) (h : slices_IndexFunc___int_int__2.out ds = some r) : ds = slices_IndexFunc___int_int__2.rs r := by
  unfold slices_IndexFunc___int_int__2.out at h
  obtain ⟨x0, d0, rfl, h0⟩ := pop_some h
  obtain ⟨rfl, g⟩ := popN_some h0
  cases g
  rfl
theorem slices_IndexFunc___int_int__2.fn : FnOk Try.prog 147 Try.f147 slices_IndexFunc___int_int__2.body Try.f147.ntmps 2 (fnRes Try.f147) :=
  fnOk_of (by kernel_rfl) (by kernel_rfl) (by kernel_rfl) (by kernel_rfl)
theorem slices_IndexFunc___int_int__2.con' : ∀ k ds r, slices_IndexFunc___int_int__2.g k ds = some r → Con Try.prog 147 2 slices_IndexFunc___int_int__2.ti slices_IndexFunc___int_int__2.to ds (slices_IndexFunc___int_int__2.rs r) :=
  fun_ok (T := T) T_ok mixed slices_IndexFunc___int_int__2.fn (env := slices_IndexFunc___int_int__2.env) (tbl := slices_IndexFunc___int_int__2.tbl) (gOut := slices_IndexFunc___int_int__2.out) (nin := 0) (cuts := []) (fuel := 100000) rfl (by kernel_rfl) (by kernel_rfl) (by kernel_rfl) (fun x hx => by
    simp only [slices_IndexFunc___int_int__2.tbl, List.mem_cons, List.not_mem_nil, or_false] at hx
    subst hx
    · exact slices_IndexFunc___int_int__2.h5
) slices_IndexFunc___int_int__2.o slices_IndexFunc___int_int__2.h (fun k _ => by unfold slices_IndexFunc___int_int__2.env; exact (envC_ok (fun ds K r h => by
    obtain ⟨x0, d0, rfl, h0⟩ := pop_some h
    obtain ⟨rfl, g⟩ := popN_some h0
    obtain ⟨r1, h1, h2⟩ := bind_some g
    exact ⟨_, h2, det_Check_4.con k _ h1⟩) env0_ok))
theorem slices_IndexFunc___int_int__2.con (k : Nat) {x0 : (List Int)} (r : Int) (h : slices_IndexFunc___int_int__2.f k x0 = some r) : Con Try.prog 147 2 slices_IndexFunc___int_int__2.ti slices_IndexFunc___int_int__2.to [⟨(.slice (.int .i64)), x0⟩] (slices_IndexFunc___int_int__2.rs r) :=
  slices_IndexFunc___int_int__2.con' (k + 1) _ r (by show slices_IndexFunc___int_int__2.c k _ = some r; unfold slices_IndexFunc___int_int__2.c; simp only [pop_self, popN]; exact h)
def slices_ContainsFunc___int_int__2.f (k : Nat) (s0 : List (Int)) : Option (Bool) :=
 (slices_IndexFunc___int_int__2.f k s0).bind fun r_1 =>
  some (decide (0 ≤ r_1))

noncomputable def slices_ContainsFunc___int_int__2.body : Code := fnBody Try.f99
def slices_ContainsFunc___int_int__2.ti : Tm := ⟨[(0, .p (.slice (.int .i64))), (1, .fn 187 [])], []⟩
def slices_ContainsFunc___int_int__2.to : Tm := ⟨[(0, .p .bool)], []⟩
def slices_ContainsFunc___int_int__2.rs (r : Bool) : List Dat := [⟨.bool, r⟩]
def slices_ContainsFunc___int_int__2.out (ds : List Dat) : Option (Bool) := pop .bool ds fun x0 ds => popN ds (some (x0))
def slices_ContainsFunc___int_int__2.c (k : Nat) (ds : List Dat) : Option (Bool) := pop (.slice (.int .i64)) ds fun x0 ds => popN ds (slices_ContainsFunc___int_int__2.f k x0)
def slices_ContainsFunc___int_int__2.g : Nat → List Dat → Option (Bool)
 | 0, _ => none
 | k + 1, ds => slices_ContainsFunc___int_int__2.c k ds
def slices_ContainsFunc___int_int__2.env (k : Nat) : Nat → List SV → List Chunk → KT (Bool) → Option (Bool) := (envC 147 2 slices_IndexFunc___int_int__2.ti slices_IndexFunc___int_int__2.to (fun ds K => pop (.slice (.int .i64)) ds fun x0 ds => popN ds ((slices_IndexFunc___int_int__2.f k x0).bind fun r => K (slices_IndexFunc___int_int__2.rs r))) env0)
def slices_ContainsFunc___int_int__2.tbl : List (Nat × Tm × (Nat → List Dat → Option (Bool))) := []
noncomputable abbrev slices_ContainsFunc___int_int__2.R (k : Nat) := run T (slices_ContainsFunc___int_int__2.env k) Try.f99.ntmps (cutE 0 slices_ContainsFunc___int_int__2.tbl k) (finE 0 slices_ContainsFunc___int_int__2.to slices_ContainsFunc___int_int__2.out) (fnRes Try.f99) [] 100000 true
theorem slices_ContainsFunc___int_int__2.e (k : Nat) (x0 : (List Int)) : slices_ContainsFunc___int_int__2.f k x0 = slices_ContainsFunc___int_int__2.R k ([.code slices_ContainsFunc___int_int__2.body]) (slices_ContainsFunc___int_int__2.ti.fill [⟨(.slice (.int .i64)), x0⟩]) := by kernel_rfl
theorem slices_ContainsFunc___int_int__2.h (k : Nat) (ds : List Dat) (r : Bool) (h : slices_ContainsFunc___int_int__2.g k ds = some r) : ∃ k', k' < k ∧ slices_ContainsFunc___int_int__2.R k' ([.code slices_ContainsFunc___int_int__2.body]) (slices_ContainsFunc___int_int__2.ti.fill ds) = some r := by
  cases k with
  | zero => cases (show none = some r from h)
  | succ k =>
  replace h : slices_ContainsFunc___int_int__2.c k ds = some r := h
  unfold slices_ContainsFunc___int_int__2.c at h
  obtain ⟨x0, d0, rfl, h0⟩ := pop_some h
  obtain ⟨rfl, g⟩ := popN_some h0
  exact ⟨k, Nat.lt_succ_self k, (slices_ContainsFunc___int_int__2.e k x0).symm.trans g⟩
theorem slices_ContainsFunc___int_int__2.o (ds : List Dat) (r : Bool) (h : slices_ContainsFunc___int_int__2.out ds = some r) : ds = slices_ContainsFunc___int_int__2.rs r := by
  unfold slices_ContainsFunc___int_int__2.out at h
  obtain ⟨x0, d0, rfl, h0⟩ := pop_some h
  obtain ⟨rfl, g⟩ := popN_some h0
  cases g
  rfl
theorem slices_ContainsFunc___int_int__2.fn : FnOk Try.prog 99 Try.f99 slices_ContainsFunc___int_int__2.body Try.f99.ntmps 2 (fnRes Try.f99) :=
  fnOk_of (by kernel_rfl) (by kernel_rfl) (by kernel_rfl) (by kernel_rfl)
theorem slices_ContainsFunc___int_int__2.con' : ∀ k ds r, slices_ContainsFunc___int_int__2.g k ds = some r → Con Try.prog 99 2 slices_ContainsFunc___int_int__2.ti slices_ContainsFunc___int_int__2.to ds (slices_ContainsFunc___int_int__2.rs r) :=
  fun_ok (T := T) T_ok mixed slices_ContainsFunc___int_int__2.fn (env := slices_ContainsFunc___int_int__2.env) (tbl := slices_ContainsFunc___int_int__2.tbl) (gOut := slices_ContainsFunc___int_int__2.out) (nin := 0) (cuts := []) (fuel := 100000) rfl (by kernel_rfl) (by kernel_rfl) (by kernel_rfl) (fun x hx => by simp [slices_ContainsFunc___int_int__2.tbl] at hx) slices_ContainsFunc___int_int__2.o slices_ContainsFunc___int_int__2.h (fun k _ => by unfold slices_ContainsFunc___int_int__2.env; exact (envC_ok (fun ds K r h => by
    obtain ⟨x0, d0, rfl, h0⟩ := pop_some h
    obtain ⟨rfl, g⟩ := popN_some h0
    obtain ⟨r1, h1, h2⟩ := bind_some g
    exact ⟨_, h2, slices_IndexFunc___int_int__2.con k _ h1⟩) env0_ok))
theorem slices_ContainsFunc___int_int__2.con (k : Nat) {x0 : (List Int)} (r : Bool) (h : slices_ContainsFunc___int_int__2.f k x0 = some r) : Con Try.prog 99 2 slices_ContainsFunc___int_int__2.ti slices_ContainsFunc___int_int__2.to [⟨(.slice (.int .i64)), x0⟩] (slices_ContainsFunc___int_int__2.rs r) :=
  slices_ContainsFunc___int_int__2.con' (k + 1) _ r (by show slices_ContainsFunc___int_int__2.c k _ = some r; unfold slices_ContainsFunc___int_int__2.c; simp only [pop_self, popN]; exact h)
def det_Check.f (k : Nat) (d0 : (Int × (Int × (List (List (Int)) × (List (Int) × Unit))))) : Option (Int) :=
 if d0.fst < 1 then
  some (2)
 else
  if 4 < d0.fst then
   some (2)
  else
   if (↑d0.snd.snd.fst.length : Int) < 1 then
    some (1)
   else
    if 3000 < (↑d0.snd.snd.fst.length : Int) then
     some (1)
    else
     if (↑d0.snd.snd.snd.fst.length : Int) = (↑d0.snd.snd.fst.length : Int) then
      (slices_ContainsFunc_____int___int_.f k d0.snd.snd.fst d0.fst d0.snd.fst d0.snd.snd.fst d0.snd.snd.snd.fst).bind fun r_6 =>
       if r_6.fst = true then
        some (3)
       else
        (det_Check_2.f k r_6.snd.snd.fst (↑d0.snd.snd.fst.length : Int)).bind fun r_8 =>
         if r_8.fst = true then
          some (2)
         else
          (slices_ContainsFunc_____int___int__2.f k r_6.snd.snd.snd.fst r_8.snd).bind fun r_10 =>
           if r_10.fst = true then
            some (2)
           else
            (slices_ContainsFunc___int_int__2.f k r_6.snd.snd.snd.snd).bind fun r_12 =>
             if r_12 = true then
              some (2)
             else
              some (0)
     else
      some (3)

noncomputable def det_Check.body : Code := fnBody Try.f134
def det_Check.ti : Tm := ⟨[(0, .p (.pair (.int .i64) (.pair (.int .i64) (.pair (.slice (.slice (.int .i64))) (.pair (.slice (.int .i64)) .unit)))))], []⟩
def det_Check.to : Tm := ⟨[(0, .p (.int .i64))], []⟩
def det_Check.rs (r : Int) : List Dat := [⟨(.int .i64), r⟩]
def det_Check.out (ds : List Dat) : Option (Int) := pop (.int .i64) ds fun x0 ds => popN ds (some (x0))
def det_Check.c (k : Nat) (ds : List Dat) : Option (Int) := pop (.pair (.int .i64) (.pair (.int .i64) (.pair (.slice (.slice (.int .i64))) (.pair (.slice (.int .i64)) .unit)))) ds fun x0 ds => popN ds (det_Check.f k x0)
def det_Check.g : Nat → List Dat → Option (Int)
 | 0, _ => none
 | k + 1, ds => det_Check.c k ds
def det_Check.env (k : Nat) : Nat → List SV → List Chunk → KT (Int) → Option (Int) := (envC 70 2 slices_ContainsFunc_____int___int_.ti slices_ContainsFunc_____int___int_.to (fun ds K => pop (.slice (.slice (.int .i64))) ds fun x0 ds => pop (.int .i64) ds fun x1 ds => pop (.int .i64) ds fun x2 ds => pop (.slice (.slice (.int .i64))) ds fun x3 ds => pop (.slice (.int .i64)) ds fun x4 ds => popN ds ((slices_ContainsFunc_____int___int_.f k x0 x1 x2 x3 x4).bind fun r => K (slices_ContainsFunc_____int___int_.rs r))) (envC 185 2 det_Check_2.ti det_Check_2.to (fun ds K => pop (.int .i64) ds fun x0 ds => pop (.int .i64) ds fun x1 ds => popN ds ((det_Check_2.f k x0 x1).bind fun r => K (det_Check_2.rs r))) (envC 70 2 slices_ContainsFunc_____int___int__2.ti slices_ContainsFunc_____int___int__2.to (fun ds K => pop (.slice (.slice (.int .i64))) ds fun x0 ds => pop (.int .i64) ds fun x1 ds => popN ds ((slices_ContainsFunc_____int___int__2.f k x0 x1).bind fun r => K (slices_ContainsFunc_____int___int__2.rs r))) (envC 99 2 slices_ContainsFunc___int_int__2.ti slices_ContainsFunc___int_int__2.to (fun ds K => pop (.slice (.int .i64)) ds fun x0 ds => popN ds ((slices_ContainsFunc___int_int__2.f k x0).bind fun r => K (slices_ContainsFunc___int_int__2.rs r))) env0))))
def det_Check.tbl : List (Nat × Tm × (Nat → List Dat → Option (Int))) := []
noncomputable abbrev det_Check.R (k : Nat) := run T (det_Check.env k) Try.f134.ntmps (cutE 0 det_Check.tbl k) (finE 0 det_Check.to det_Check.out) (fnRes Try.f134) [] 100000 true
theorem det_Check.e (k : Nat) (x0 : (Int × (Int × ((List (List Int)) × ((List Int) × Unit))))) : det_Check.f k x0 = det_Check.R k ([.code det_Check.body]) (det_Check.ti.fill [⟨(.pair (.int .i64) (.pair (.int .i64) (.pair (.slice (.slice (.int .i64))) (.pair (.slice (.int .i64)) .unit)))), x0⟩]) := by kernel_rfl
theorem det_Check.h (k : Nat) (ds : List Dat) (r : Int) (h : det_Check.g k ds = some r) : ∃ k', k' < k ∧ det_Check.R k' ([.code det_Check.body]) (det_Check.ti.fill ds) = some r := by
  cases k with
  | zero => cases (show none = some r from h)
  | succ k =>
  replace h : det_Check.c k ds = some r := h
  unfold det_Check.c at h
  obtain ⟨x0, d0, rfl, h0⟩ := pop_some h
  obtain ⟨rfl, g⟩ := popN_some h0
  exact ⟨k, Nat.lt_succ_self k, (det_Check.e k x0).symm.trans g⟩
theorem det_Check.o (ds : List Dat) (r : Int) (h : det_Check.out ds = some r) : ds = det_Check.rs r := by
  unfold det_Check.out at h
  obtain ⟨x0, d0, rfl, h0⟩ := pop_some h
  obtain ⟨rfl, g⟩ := popN_some h0
  cases g
  rfl
theorem det_Check.fn : FnOk Try.prog 134 Try.f134 det_Check.body Try.f134.ntmps 1 (fnRes Try.f134) :=
  fnOk_of (by kernel_rfl) (by kernel_rfl) (by kernel_rfl) (by kernel_rfl)
theorem det_Check.con' : ∀ k ds r, det_Check.g k ds = some r → Con Try.prog 134 1 det_Check.ti det_Check.to ds (det_Check.rs r) :=
  fun_ok (T := T) T_ok mixed det_Check.fn (env := det_Check.env) (tbl := det_Check.tbl) (gOut := det_Check.out) (nin := 0) (cuts := []) (fuel := 100000) rfl (by kernel_rfl) (by kernel_rfl) (by kernel_rfl) (fun x hx => by simp [det_Check.tbl] at hx) det_Check.o det_Check.h (fun k _ => by unfold det_Check.env; exact (envC_ok (fun ds K r h => by
    obtain ⟨x0, d0, rfl, h0⟩ := pop_some h
    obtain ⟨x1, d1, rfl, h1⟩ := pop_some h0
    obtain ⟨x2, d2, rfl, h2⟩ := pop_some h1
    obtain ⟨x3, d3, rfl, h3⟩ := pop_some h2
    obtain ⟨x4, d4, rfl, h4⟩ := pop_some h3
    obtain ⟨rfl, g⟩ := popN_some h4
    obtain ⟨r1, h1, h2⟩ := bind_some g
    exact ⟨_, h2, slices_ContainsFunc_____int___int_.con k _ h1⟩) (envC_ok (fun ds K r h => by
    obtain ⟨x0, d0, rfl, h0⟩ := pop_some h
    obtain ⟨x1, d1, rfl, h1⟩ := pop_some h0
    obtain ⟨rfl, g⟩ := popN_some h1
    obtain ⟨r1, h1, h2⟩ := bind_some g
    exact ⟨_, h2, det_Check_2.con k _ h1⟩) (envC_ok (fun ds K r h => by
    obtain ⟨x0, d0, rfl, h0⟩ := pop_some h
    obtain ⟨x1, d1, rfl, h1⟩ := pop_some h0
    obtain ⟨rfl, g⟩ := popN_some h1
    obtain ⟨r1, h1, h2⟩ := bind_some g
    exact ⟨_, h2, slices_ContainsFunc_____int___int__2.con k _ h1⟩) (envC_ok (fun ds K r h => by
    obtain ⟨x0, d0, rfl, h0⟩ := pop_some h
    obtain ⟨rfl, g⟩ := popN_some h0
    obtain ⟨r1, h1, h2⟩ := bind_some g
    exact ⟨_, h2, slices_ContainsFunc___int_int__2.con k _ h1⟩) env0_ok)))))
theorem det_Check.con (k : Nat) {x0 : (Int × (Int × ((List (List Int)) × ((List Int) × Unit))))} (r : Int) (h : det_Check.f k x0 = some r) : Con Try.prog 134 1 det_Check.ti det_Check.to [⟨(.pair (.int .i64) (.pair (.int .i64) (.pair (.slice (.slice (.int .i64))) (.pair (.slice (.int .i64)) .unit)))), x0⟩] (det_Check.rs r) :=
  det_Check.con' (k + 1) _ r (by show det_Check.c k _ = some r; unfold det_Check.c; simp only [pop_self, popN]; exact h)
def higman_small.f (k : Nat) (d0 : (Int × (Int × (List (List (Int)) × (List (Int) × Unit))))) : Option (Int) :=
 (det_Check.f k (d0.fst, d0.snd.fst, d0.snd.snd.fst, d0.snd.snd.snd.fst, ())).bind fun r_1 =>
  if r_1 = 0 then
   if 5 < (↑d0.snd.snd.fst.length : Int) then
    some (1)
   else
    some (0)
  else
   some (r_1)

noncomputable def higman_small.body : Code := fnBody Try.f69
def higman_small.ti : Tm := ⟨[(0, .p (.pair (.int .i64) (.pair (.int .i64) (.pair (.slice (.slice (.int .i64))) (.pair (.slice (.int .i64)) .unit)))))], []⟩
def higman_small.to : Tm := ⟨[(0, .p (.int .i64))], []⟩
def higman_small.rs (r : Int) : List Dat := [⟨(.int .i64), r⟩]
def higman_small.out (ds : List Dat) : Option (Int) := pop (.int .i64) ds fun x0 ds => popN ds (some (x0))
def higman_small.c (k : Nat) (ds : List Dat) : Option (Int) := pop (.pair (.int .i64) (.pair (.int .i64) (.pair (.slice (.slice (.int .i64))) (.pair (.slice (.int .i64)) .unit)))) ds fun x0 ds => popN ds (higman_small.f k x0)
def higman_small.g : Nat → List Dat → Option (Int)
 | 0, _ => none
 | k + 1, ds => higman_small.c k ds
def higman_small.env (k : Nat) : Nat → List SV → List Chunk → KT (Int) → Option (Int) := (envC 134 1 det_Check.ti det_Check.to (fun ds K => pop (.pair (.int .i64) (.pair (.int .i64) (.pair (.slice (.slice (.int .i64))) (.pair (.slice (.int .i64)) .unit)))) ds fun x0 ds => popN ds ((det_Check.f k x0).bind fun r => K (det_Check.rs r))) env0)
def higman_small.tbl : List (Nat × Tm × (Nat → List Dat → Option (Int))) := []
noncomputable abbrev higman_small.R (k : Nat) := run T (higman_small.env k) Try.f69.ntmps (cutE 0 higman_small.tbl k) (finE 0 higman_small.to higman_small.out) (fnRes Try.f69) [] 100000 true
theorem higman_small.e (k : Nat) (x0 : (Int × (Int × ((List (List Int)) × ((List Int) × Unit))))) : higman_small.f k x0 = higman_small.R k ([.code higman_small.body]) (higman_small.ti.fill [⟨(.pair (.int .i64) (.pair (.int .i64) (.pair (.slice (.slice (.int .i64))) (.pair (.slice (.int .i64)) .unit)))), x0⟩]) := by kernel_rfl
theorem higman_small.h (k : Nat) (ds : List Dat) (r : Int) (h : higman_small.g k ds = some r) : ∃ k', k' < k ∧ higman_small.R k' ([.code higman_small.body]) (higman_small.ti.fill ds) = some r := by
  cases k with
  | zero => cases (show none = some r from h)
  | succ k =>
  replace h : higman_small.c k ds = some r := h
  unfold higman_small.c at h
  obtain ⟨x0, d0, rfl, h0⟩ := pop_some h
  obtain ⟨rfl, g⟩ := popN_some h0
  exact ⟨k, Nat.lt_succ_self k, (higman_small.e k x0).symm.trans g⟩
theorem higman_small.o (ds : List Dat) (r : Int) (h : higman_small.out ds = some r) : ds = higman_small.rs r := by
  unfold higman_small.out at h
  obtain ⟨x0, d0, rfl, h0⟩ := pop_some h
  obtain ⟨rfl, g⟩ := popN_some h0
  cases g
  rfl
theorem higman_small.fn : FnOk Try.prog 69 Try.f69 higman_small.body Try.f69.ntmps 1 (fnRes Try.f69) :=
  fnOk_of (by kernel_rfl) (by kernel_rfl) (by kernel_rfl) (by kernel_rfl)
theorem higman_small.con' : ∀ k ds r, higman_small.g k ds = some r → Con Try.prog 69 1 higman_small.ti higman_small.to ds (higman_small.rs r) :=
  fun_ok (T := T) T_ok mixed higman_small.fn (env := higman_small.env) (tbl := higman_small.tbl) (gOut := higman_small.out) (nin := 0) (cuts := []) (fuel := 100000) rfl (by kernel_rfl) (by kernel_rfl) (by kernel_rfl) (fun x hx => by simp [higman_small.tbl] at hx) higman_small.o higman_small.h (fun k _ => by unfold higman_small.env; exact (envC_ok (fun ds K r h => by
    obtain ⟨x0, d0, rfl, h0⟩ := pop_some h
    obtain ⟨rfl, g⟩ := popN_some h0
    obtain ⟨r1, h1, h2⟩ := bind_some g
    exact ⟨_, h2, det_Check.con k _ h1⟩) env0_ok))
theorem higman_small.con (k : Nat) {x0 : (Int × (Int × ((List (List Int)) × ((List Int) × Unit))))} (r : Int) (h : higman_small.f k x0 = some r) : Con Try.prog 69 1 higman_small.ti higman_small.to [⟨(.pair (.int .i64) (.pair (.int .i64) (.pair (.slice (.slice (.int .i64))) (.pair (.slice (.int .i64)) .unit)))), x0⟩] (higman_small.rs r) :=
  higman_small.con' (k + 1) _ r (by show higman_small.c k _ = some r; unfold higman_small.c; simp only [pop_self, popN]; exact h)
mutual
def word_May.l6 : Nat → Int → List (Int) → Int → Int → Option (Int)
 | 0, _, _, _, _ => none
 | k + 1, letters0, x16, x17, x18 =>
  if x18 < x17 then
   if 0 ≤ x18 then
   if x18 < (↑x16.length : Int) then
    if Go.Proofs.YtmagglebkbiffaaSx.rd (Int.ofNat 0) x16 x18 < 0 then
      some (2)
     else
      if letters0 ≤ Go.Proofs.YtmagglebkbiffaaSx.rd (Int.ofNat 0) x16 x18 then
       some (2)
      else
       word_May.l6 k letters0 x16 x17 (Go.IntKind.i64.wrap (x18 + 1))
    else none
   else none
  else
   some (0)
end
def word_May.f (k : Nat) (letters0 : Int) (w1 : List (Int)) : Option (Int) :=
 if letters0 < 1 then
  some (2)
 else
  if 4 < letters0 then
   some (2)
  else
   if 60 < (↑w1.length : Int) then
    some (1)
   else
    word_May.l6 k letters0 w1 ((↑w1.length : Int)) 0

noncomputable def word_May.body : Code := fnBody Try.f188
def word_May.ti : Tm := ⟨[(0, .p (.int .i64)), (1, .p (.slice (.int .i64)))], []⟩
def word_May.to : Tm := ⟨[(0, .p (.int .i64))], []⟩
def word_May.rs (r : Int) : List Dat := [⟨(.int .i64), r⟩]
def word_May.out (ds : List Dat) : Option (Int) := pop (.int .i64) ds fun x0 ds => popN ds (some (x0))
def word_May.c (k : Nat) (ds : List Dat) : Option (Int) := pop (.int .i64) ds fun x0 ds => pop (.slice (.int .i64)) ds fun x1 ds => popN ds (word_May.f k x0 x1)
def word_May.g : Nat → List Dat → Option (Int)
 | 0, _ => none
 | k + 1, ds => word_May.c k ds
def word_May.env (k : Nat) : Nat → List SV → List Chunk → KT (Int) → Option (Int) := env0
def word_May.t13 : Tm := ⟨[(0, .p (.int .i64)), (16, .p (.slice (.int .i64))), (17, .p (.int .i64)), (18, .p (.int .i64))], []⟩
def word_May.c13 (k : Nat) (ds : List Dat) : Option (Int) := pop (.int .i64) ds fun x0 ds => pop (.slice (.int .i64)) ds fun x1 ds => pop (.int .i64) ds fun x2 ds => pop (.int .i64) ds fun x3 ds => popN ds (word_May.l6 k x0 x1 x2 x3)
def word_May.tbl : List (Nat × Tm × (Nat → List Dat → Option (Int))) := [(13, word_May.t13, word_May.c13)]
noncomputable abbrev word_May.R (k : Nat) := run T (word_May.env k) Try.f188.ntmps (cutE 0 word_May.tbl k) (finE 0 word_May.to word_May.out) (fnRes Try.f188) [] 100000 true
theorem word_May.e13 (k : Nat) (x0 : Int) (x1 : (List Int)) (x2 : Int) (x3 : Int) : word_May.l6 (k + 1) x0 x1 x2 x3 = word_May.R k (start (stackOf 13 word_May.body)) (word_May.t13.fill [⟨(.int .i64), x0⟩, ⟨(.slice (.int .i64)), x1⟩, ⟨(.int .i64), x2⟩, ⟨(.int .i64), x3⟩]) := by kernel_rfl
theorem word_May.s13 : stackAt 13 word_May.body [] = some (stackOf 13 word_May.body) := by kernel_rfl
theorem word_May.h13 (k : Nat) (ds : List Dat) (r : Int) (h : word_May.c13 k ds = some r) : ∃ k', k' < k ∧ ∃ s, stackAt 13 word_May.body [] = some s ∧ word_May.R k' (start s) (word_May.t13.fill ds) = some r := by
  unfold word_May.c13 at h
  obtain ⟨x0, d0, rfl, h0⟩ := pop_some h
  obtain ⟨x1, d1, rfl, h1⟩ := pop_some h0
  obtain ⟨x2, d2, rfl, h2⟩ := pop_some h1
  obtain ⟨x3, d3, rfl, h3⟩ := pop_some h2
  obtain ⟨rfl, g⟩ := popN_some h3
  cases k with
  | zero => cases (show none = some r from g)
  | succ k => exact ⟨k, Nat.lt_succ_self k, _, word_May.s13, (word_May.e13 k x0 x1 x2 x3).symm.trans g⟩
theorem word_May.e (k : Nat) (x0 : Int) (x1 : (List Int)) : word_May.f k x0 x1 = word_May.R k ([.code word_May.body]) (word_May.ti.fill [⟨(.int .i64), x0⟩, ⟨(.slice (.int .i64)), x1⟩]) := by kernel_rfl
theorem word_May.h (k : Nat) (ds : List Dat) (r : Int) (h : word_May.g k ds = some r) : ∃ k', k' < k ∧ word_May.R k' ([.code word_May.body]) (word_May.ti.fill ds) = some r := by
  cases k with
  | zero => cases (show none = some r from h)
  | succ k =>
  replace h : word_May.c k ds = some r := h
  unfold word_May.c at h
  obtain ⟨x0, d0, rfl, h0⟩ := pop_some h
  obtain ⟨x1, d1, rfl, h1⟩ := pop_some h0
  obtain ⟨rfl, g⟩ := popN_some h1
  exact ⟨k, Nat.lt_succ_self k, (word_May.e k x0 x1).symm.trans g⟩
theorem word_May.o (ds : List Dat) (r : Int) (h : word_May.out ds = some r) : ds = word_May.rs r := by
  unfold word_May.out at h
  obtain ⟨x0, d0, rfl, h0⟩ := pop_some h
  obtain ⟨rfl, g⟩ := popN_some h0
  cases g
  rfl
theorem word_May.fn : FnOk Try.prog 188 Try.f188 word_May.body Try.f188.ntmps 2 (fnRes Try.f188) :=
  fnOk_of (by kernel_rfl) (by kernel_rfl) (by kernel_rfl) (by kernel_rfl)
theorem word_May.con' : ∀ k ds r, word_May.g k ds = some r → Con Try.prog 188 2 word_May.ti word_May.to ds (word_May.rs r) :=
  fun_ok (T := T) T_ok mixed word_May.fn (env := word_May.env) (tbl := word_May.tbl) (gOut := word_May.out) (nin := 0) (cuts := []) (fuel := 100000) rfl (by kernel_rfl) (by kernel_rfl) (by kernel_rfl) (fun x hx => by
    simp only [word_May.tbl, List.mem_cons, List.not_mem_nil, or_false] at hx
    subst hx
    · exact word_May.h13
) word_May.o word_May.h (fun k _ => by unfold word_May.env; exact env0_ok)
theorem word_May.con (k : Nat) {x0 : Int} {x1 : (List Int)} (r : Int) (h : word_May.f k x0 x1 = some r) : Con Try.prog 188 2 word_May.ti word_May.to [⟨(.int .i64), x0⟩, ⟨(.slice (.int .i64)), x1⟩] (word_May.rs r) :=
  word_May.con' (k + 1) _ r (by show word_May.c k _ = some r; unfold word_May.c; simp only [pop_self, popN]; exact h)
mutual
def higman_Stands.l2 : Nat → List (Int) → List (Int) → Int → Int → List (Int) → List (List (Int)) → Option (Bool × Int × List Int)
 | 0, _, _, _, _, _, _ => none
 | k + 1, u0, v1, x15, x16, places4, x14 =>
  if x16 < x15 then
   if 0 ≤ x16 then
   if x16 < (↑x14.length : Int) then
    (word_May.f k (Int.ofNat 4) (x14.getD x16.toNat [])).bind fun r_5 =>
      if r_5 = 0 then
       higman_Stands.l2 k u0 v1 x15 (Go.IntKind.i64.wrap (x16 + 1)) places4 x14
      else
       some (false, r_5, [])
    else none
   else none
  else
   higman_Stands.l9 k u0 v1 ((↑v1.length : Int)) 0 places4
def higman_Stands.l9 : Nat → List (Int) → List (Int) → Int → Int → List (Int) → Option (Bool × Int × List Int)
 | 0, _, _, _, _, _ => none
 | k + 1, u0, x26, x27, x28, places4 =>
  if x28 < x27 then
   if 0 ≤ x28 then
   if x28 < (↑x26.length : Int) then
    if (↑places4.length : Int) < (↑u0.length : Int) then
      if 0 ≤ (↑places4.length : Int) then
      if (↑places4.length : Int) < (↑u0.length : Int) then
       if Go.Proofs.YtmagglebkbiffaaSx.rd (Int.ofNat 0) u0 (↑places4.length : Int) = Go.Proofs.YtmagglebkbiffaaSx.rd (Int.ofNat 0) x26 x28 then
         if Go.Proofs.YtmagglebkbiffaaSx.fitsIn (places4 ++ [x28]).length 8 = true then
         higman_Stands.j13 k u0 x26 x27 x28 (places4 ++ [x28])
         else none
        else
         higman_Stands.j13 k u0 x26 x27 x28 places4
       else none
      else none
     else
      higman_Stands.j13 k u0 x26 x27 x28 places4
    else none
   else none
  else
   if (↑places4.length : Int) < (↑u0.length : Int) then
    some (false, 0, [])
   else
    some (true, 0, places4)
def higman_Stands.j13 : Nat → List (Int) → List (Int) → Int → Int → List (Int) → Option (Bool × Int × List Int)
 | 0, _, _, _, _, _ => none
 | k + 1, u0, x26, x27, x28, places4 =>
  higman_Stands.l9 k u0 x26 x27 (Go.IntKind.i64.wrap (x28 + 1)) places4
end
def higman_Stands.f (k : Nat) (u0 : List (Int)) (v1 : List (Int)) : Option (Bool × Int × List Int) :=
 higman_Stands.l2 k u0 v1 ((↑[u0, v1].length : Int)) 0 [] ([u0, v1])

noncomputable def higman_Stands.body : Code := fnBody Try.f136
def higman_Stands.ti : Tm := ⟨[(0, .p (.slice (.int .i64))), (1, .p (.slice (.int .i64)))], []⟩
def higman_Stands.to : Tm := ⟨[(0, .own 0), (1, .p .bool), (2, .p (.int .i64))], [.own (.int .i64)]⟩
def higman_Stands.rs (r : Bool × Int × (List Int)) : List Dat := [⟨.bool, r.1⟩, ⟨(.int .i64), r.2.1⟩, ⟨(.slice (.int .i64)), r.2.2⟩]
def higman_Stands.out (ds : List Dat) : Option (Bool × Int × (List Int)) := pop .bool ds fun x0 ds => pop (.int .i64) ds fun x1 ds => pop (.slice (.int .i64)) ds fun x2 ds => popN ds (some (x0, x1, x2))
def higman_Stands.c (k : Nat) (ds : List Dat) : Option (Bool × Int × (List Int)) := pop (.slice (.int .i64)) ds fun x0 ds => pop (.slice (.int .i64)) ds fun x1 ds => popN ds (higman_Stands.f k x0 x1)
def higman_Stands.g : Nat → List Dat → Option (Bool × Int × (List Int))
 | 0, _ => none
 | k + 1, ds => higman_Stands.c k ds
def higman_Stands.env (k : Nat) : Nat → List SV → List Chunk → KT (Bool × Int × (List Int)) → Option (Bool × Int × (List Int)) := (envC 188 2 word_May.ti word_May.to (fun ds K => pop (.int .i64) ds fun x0 ds => pop (.slice (.int .i64)) ds fun x1 ds => popN ds ((word_May.f k x0 x1).bind fun r => K (word_May.rs r))) env0)
def higman_Stands.t5 : Tm := ⟨[(0, .p (.slice (.int .i64))), (1, .p (.slice (.int .i64))), (4, .own 0), (14, .own 1), (15, .p (.int .i64)), (16, .p (.int .i64))], [.own (.int .i64), .own (.slice (.int .i64))]⟩
def higman_Stands.c5 (k : Nat) (ds : List Dat) : Option (Bool × Int × (List Int)) := pop (.slice (.int .i64)) ds fun x0 ds => pop (.slice (.int .i64)) ds fun x1 ds => pop (.int .i64) ds fun x2 ds => pop (.int .i64) ds fun x3 ds => pop (.slice (.int .i64)) ds fun x4 ds => pop (.slice (.slice (.int .i64))) ds fun x5 ds => popN ds (higman_Stands.l2 k x0 x1 x2 x3 x4 x5)
def higman_Stands.t19 : Tm := ⟨[(0, .p (.slice (.int .i64))), (4, .own 0), (26, .p (.slice (.int .i64))), (27, .p (.int .i64)), (28, .p (.int .i64))], [.own (.int .i64)]⟩
def higman_Stands.c19 (k : Nat) (ds : List Dat) : Option (Bool × Int × (List Int)) := pop (.slice (.int .i64)) ds fun x0 ds => pop (.slice (.int .i64)) ds fun x1 ds => pop (.int .i64) ds fun x2 ds => pop (.int .i64) ds fun x3 ds => pop (.slice (.int .i64)) ds fun x4 ds => popN ds (higman_Stands.l9 k x0 x1 x2 x3 x4)
def higman_Stands.t26 : Tm := ⟨[(0, .p (.slice (.int .i64))), (4, .own 0), (26, .p (.slice (.int .i64))), (27, .p (.int .i64)), (28, .p (.int .i64))], [.own (.int .i64)]⟩
def higman_Stands.c26 (k : Nat) (ds : List Dat) : Option (Bool × Int × (List Int)) := pop (.slice (.int .i64)) ds fun x0 ds => pop (.slice (.int .i64)) ds fun x1 ds => pop (.int .i64) ds fun x2 ds => pop (.int .i64) ds fun x3 ds => pop (.slice (.int .i64)) ds fun x4 ds => popN ds (higman_Stands.j13 k x0 x1 x2 x3 x4)
def higman_Stands.tbl : List (Nat × Tm × (Nat → List Dat → Option (Bool × Int × (List Int)))) := [(5, higman_Stands.t5, higman_Stands.c5), (19, higman_Stands.t19, higman_Stands.c19), (26, higman_Stands.t26, higman_Stands.c26)]
noncomputable abbrev higman_Stands.R (k : Nat) := run T (higman_Stands.env k) Try.f136.ntmps (cutE 0 higman_Stands.tbl k) (finE 0 higman_Stands.to higman_Stands.out) (fnRes Try.f136) [13] 100000 true
theorem higman_Stands.e5 (k : Nat) (x0 : (List Int)) (x1 : (List Int)) (x2 : Int) (x3 : Int) (x4 : (List Int)) (x5 : (List (List Int))) : higman_Stands.l2 (k + 1) x0 x1 x2 x3 x4 x5 = higman_Stands.R k (start (stackOf 5 higman_Stands.body)) (higman_Stands.t5.fill [⟨(.slice (.int .i64)), x0⟩, ⟨(.slice (.int .i64)), x1⟩, ⟨(.int .i64), x2⟩, ⟨(.int .i64), x3⟩, ⟨(.slice (.int .i64)), x4⟩, ⟨(.slice (.slice (.int .i64))), x5⟩]) := by kernel_rfl
theorem higman_Stands.s5 : stackAt 5 higman_Stands.body [] = some (stackOf 5 higman_Stands.body) := by kernel_rfl
theorem higman_Stands.h5 (k : Nat) (ds : List Dat) (r : Bool × Int × (List Int)) (h : higman_Stands.c5 k ds = some r) : ∃ k', k' < k ∧ ∃ s, stackAt 5 higman_Stands.body [] = some s ∧ higman_Stands.R k' (start s) (higman_Stands.t5.fill ds) = some r := by
  unfold higman_Stands.c5 at h
  obtain ⟨x0, d0, rfl, h0⟩ := pop_some h
  obtain ⟨x1, d1, rfl, h1⟩ := pop_some h0
  obtain ⟨x2, d2, rfl, h2⟩ := pop_some h1
  obtain ⟨x3, d3, rfl, h3⟩ := pop_some h2
  obtain ⟨x4, d4, rfl, h4⟩ := pop_some h3
  obtain ⟨x5, d5, rfl, h5⟩ := pop_some h4
  obtain ⟨rfl, g⟩ := popN_some h5
  cases k with
  | zero => cases (show none = some r from g)
  | succ k => exact ⟨k, Nat.lt_succ_self k, _, higman_Stands.s5, (higman_Stands.e5 k x0 x1 x2 x3 x4 x5).symm.trans g⟩
theorem higman_Stands.e19 (k : Nat) (x0 : (List Int)) (x1 : (List Int)) (x2 : Int) (x3 : Int) (x4 : (List Int)) : higman_Stands.l9 (k + 1) x0 x1 x2 x3 x4 = higman_Stands.R k (start (stackOf 19 higman_Stands.body)) (higman_Stands.t19.fill [⟨(.slice (.int .i64)), x0⟩, ⟨(.slice (.int .i64)), x1⟩, ⟨(.int .i64), x2⟩, ⟨(.int .i64), x3⟩, ⟨(.slice (.int .i64)), x4⟩]) := by kernel_rfl
theorem higman_Stands.s19 : stackAt 19 higman_Stands.body [] = some (stackOf 19 higman_Stands.body) := by kernel_rfl
theorem higman_Stands.h19 (k : Nat) (ds : List Dat) (r : Bool × Int × (List Int)) (h : higman_Stands.c19 k ds = some r) : ∃ k', k' < k ∧ ∃ s, stackAt 19 higman_Stands.body [] = some s ∧ higman_Stands.R k' (start s) (higman_Stands.t19.fill ds) = some r := by
  unfold higman_Stands.c19 at h
  obtain ⟨x0, d0, rfl, h0⟩ := pop_some h
  obtain ⟨x1, d1, rfl, h1⟩ := pop_some h0
  obtain ⟨x2, d2, rfl, h2⟩ := pop_some h1
  obtain ⟨x3, d3, rfl, h3⟩ := pop_some h2
  obtain ⟨x4, d4, rfl, h4⟩ := pop_some h3
  obtain ⟨rfl, g⟩ := popN_some h4
  cases k with
  | zero => cases (show none = some r from g)
  | succ k => exact ⟨k, Nat.lt_succ_self k, _, higman_Stands.s19, (higman_Stands.e19 k x0 x1 x2 x3 x4).symm.trans g⟩
theorem higman_Stands.e26 (k : Nat) (x0 : (List Int)) (x1 : (List Int)) (x2 : Int) (x3 : Int) (x4 : (List Int)) : higman_Stands.j13 (k + 1) x0 x1 x2 x3 x4 = higman_Stands.R k (start (stackOf 26 higman_Stands.body)) (higman_Stands.t26.fill [⟨(.slice (.int .i64)), x0⟩, ⟨(.slice (.int .i64)), x1⟩, ⟨(.int .i64), x2⟩, ⟨(.int .i64), x3⟩, ⟨(.slice (.int .i64)), x4⟩]) := by kernel_rfl
theorem higman_Stands.s26 : stackAt 26 higman_Stands.body [] = some (stackOf 26 higman_Stands.body) := by kernel_rfl
theorem higman_Stands.h26 (k : Nat) (ds : List Dat) (r : Bool × Int × (List Int)) (h : higman_Stands.c26 k ds = some r) : ∃ k', k' < k ∧ ∃ s, stackAt 26 higman_Stands.body [] = some s ∧ higman_Stands.R k' (start s) (higman_Stands.t26.fill ds) = some r := by
  unfold higman_Stands.c26 at h
  obtain ⟨x0, d0, rfl, h0⟩ := pop_some h
  obtain ⟨x1, d1, rfl, h1⟩ := pop_some h0
  obtain ⟨x2, d2, rfl, h2⟩ := pop_some h1
  obtain ⟨x3, d3, rfl, h3⟩ := pop_some h2
  obtain ⟨x4, d4, rfl, h4⟩ := pop_some h3
  obtain ⟨rfl, g⟩ := popN_some h4
  cases k with
  | zero => cases (show none = some r from g)
  | succ k => exact ⟨k, Nat.lt_succ_self k, _, higman_Stands.s26, (higman_Stands.e26 k x0 x1 x2 x3 x4).symm.trans g⟩
theorem higman_Stands.e (k : Nat) (x0 : (List Int)) (x1 : (List Int)) : higman_Stands.f k x0 x1 = higman_Stands.R k ([.code higman_Stands.body]) (higman_Stands.ti.fill [⟨(.slice (.int .i64)), x0⟩, ⟨(.slice (.int .i64)), x1⟩]) := by kernel_rfl
theorem higman_Stands.h (k : Nat) (ds : List Dat) (r : Bool × Int × (List Int)) (h : higman_Stands.g k ds = some r) : ∃ k', k' < k ∧ higman_Stands.R k' ([.code higman_Stands.body]) (higman_Stands.ti.fill ds) = some r := by
  cases k with
  | zero => cases (show none = some r from h)
  | succ k =>
  replace h : higman_Stands.c k ds = some r := h
  unfold higman_Stands.c at h
  obtain ⟨x0, d0, rfl, h0⟩ := pop_some h
  obtain ⟨x1, d1, rfl, h1⟩ := pop_some h0
  obtain ⟨rfl, g⟩ := popN_some h1
  exact ⟨k, Nat.lt_succ_self k, (higman_Stands.e k x0 x1).symm.trans g⟩
theorem higman_Stands.o (ds : List Dat) (r : Bool × Int × (List Int)) (h : higman_Stands.out ds = some r) : ds = higman_Stands.rs r := by
  unfold higman_Stands.out at h
  obtain ⟨x0, d0, rfl, h0⟩ := pop_some h
  obtain ⟨x1, d1, rfl, h1⟩ := pop_some h0
  obtain ⟨x2, d2, rfl, h2⟩ := pop_some h1
  obtain ⟨rfl, g⟩ := popN_some h2
  cases g
  rfl
theorem higman_Stands.fn : FnOk Try.prog 136 Try.f136 higman_Stands.body Try.f136.ntmps 2 (fnRes Try.f136) :=
  fnOk_of (by kernel_rfl) (by kernel_rfl) (by kernel_rfl) (by kernel_rfl)
theorem higman_Stands.con' : ∀ k ds r, higman_Stands.g k ds = some r → Con Try.prog 136 2 higman_Stands.ti higman_Stands.to ds (higman_Stands.rs r) :=
  fun_ok (T := T) T_ok mixed higman_Stands.fn (env := higman_Stands.env) (tbl := higman_Stands.tbl) (gOut := higman_Stands.out) (nin := 0) (cuts := [13]) (fuel := 100000) rfl (by kernel_rfl) (by kernel_rfl) (by kernel_rfl) (fun x hx => by
    simp only [higman_Stands.tbl, List.mem_cons, List.not_mem_nil, or_false] at hx
    rcases hx with rfl | rfl | rfl
    · exact higman_Stands.h5
    · exact higman_Stands.h19
    · exact higman_Stands.h26
) higman_Stands.o higman_Stands.h (fun k _ => by unfold higman_Stands.env; exact (envC_ok (fun ds K r h => by
    obtain ⟨x0, d0, rfl, h0⟩ := pop_some h
    obtain ⟨x1, d1, rfl, h1⟩ := pop_some h0
    obtain ⟨rfl, g⟩ := popN_some h1
    obtain ⟨r1, h1, h2⟩ := bind_some g
    exact ⟨_, h2, word_May.con k _ h1⟩) env0_ok))
theorem higman_Stands.con (k : Nat) {x0 : (List Int)} {x1 : (List Int)} (r : Bool × Int × (List Int)) (h : higman_Stands.f k x0 x1 = some r) : Con Try.prog 136 2 higman_Stands.ti higman_Stands.to [⟨(.slice (.int .i64)), x0⟩, ⟨(.slice (.int .i64)), x1⟩] (higman_Stands.rs r) :=
  higman_Stands.con' (k + 1) _ r (by show higman_Stands.c k _ = some r; unfold higman_Stands.c; simp only [pop_self, popN]; exact h)
def higman_within.f (k : Nat) (u0 : List (Int)) (v1 : List (Int)) : Option (Bool) :=
 (higman_Stands.f k u0 v1).bind fun r_1 =>
  some (r_1.fst)

noncomputable def higman_within.body : Code := fnBody Try.f72
def higman_within.ti : Tm := ⟨[(0, .p (.slice (.int .i64))), (1, .p (.slice (.int .i64)))], []⟩
def higman_within.to : Tm := ⟨[(0, .p .bool)], []⟩
def higman_within.rs (r : Bool) : List Dat := [⟨.bool, r⟩]
def higman_within.out (ds : List Dat) : Option (Bool) := pop .bool ds fun x0 ds => popN ds (some (x0))
def higman_within.c (k : Nat) (ds : List Dat) : Option (Bool) := pop (.slice (.int .i64)) ds fun x0 ds => pop (.slice (.int .i64)) ds fun x1 ds => popN ds (higman_within.f k x0 x1)
def higman_within.g : Nat → List Dat → Option (Bool)
 | 0, _ => none
 | k + 1, ds => higman_within.c k ds
def higman_within.env (k : Nat) : Nat → List SV → List Chunk → KT (Bool) → Option (Bool) := (envC 136 2 higman_Stands.ti higman_Stands.to (fun ds K => pop (.slice (.int .i64)) ds fun x0 ds => pop (.slice (.int .i64)) ds fun x1 ds => popN ds ((higman_Stands.f k x0 x1).bind fun r => K (higman_Stands.rs r))) env0)
def higman_within.tbl : List (Nat × Tm × (Nat → List Dat → Option (Bool))) := []
noncomputable abbrev higman_within.R (k : Nat) := run T (higman_within.env k) Try.f72.ntmps (cutE 0 higman_within.tbl k) (finE 0 higman_within.to higman_within.out) (fnRes Try.f72) [] 100000 true
theorem higman_within.e (k : Nat) (x0 : (List Int)) (x1 : (List Int)) : higman_within.f k x0 x1 = higman_within.R k ([.code higman_within.body]) (higman_within.ti.fill [⟨(.slice (.int .i64)), x0⟩, ⟨(.slice (.int .i64)), x1⟩]) := by kernel_rfl
theorem higman_within.h (k : Nat) (ds : List Dat) (r : Bool) (h : higman_within.g k ds = some r) : ∃ k', k' < k ∧ higman_within.R k' ([.code higman_within.body]) (higman_within.ti.fill ds) = some r := by
  cases k with
  | zero => cases (show none = some r from h)
  | succ k =>
  replace h : higman_within.c k ds = some r := h
  unfold higman_within.c at h
  obtain ⟨x0, d0, rfl, h0⟩ := pop_some h
  obtain ⟨x1, d1, rfl, h1⟩ := pop_some h0
  obtain ⟨rfl, g⟩ := popN_some h1
  exact ⟨k, Nat.lt_succ_self k, (higman_within.e k x0 x1).symm.trans g⟩
theorem higman_within.o (ds : List Dat) (r : Bool) (h : higman_within.out ds = some r) : ds = higman_within.rs r := by
  unfold higman_within.out at h
  obtain ⟨x0, d0, rfl, h0⟩ := pop_some h
  obtain ⟨rfl, g⟩ := popN_some h0
  cases g
  rfl
theorem higman_within.fn : FnOk Try.prog 72 Try.f72 higman_within.body Try.f72.ntmps 2 (fnRes Try.f72) :=
  fnOk_of (by kernel_rfl) (by kernel_rfl) (by kernel_rfl) (by kernel_rfl)
theorem higman_within.con' : ∀ k ds r, higman_within.g k ds = some r → Con Try.prog 72 2 higman_within.ti higman_within.to ds (higman_within.rs r) :=
  fun_ok (T := T) T_ok mixed higman_within.fn (env := higman_within.env) (tbl := higman_within.tbl) (gOut := higman_within.out) (nin := 0) (cuts := []) (fuel := 100000) rfl (by kernel_rfl) (by kernel_rfl) (by kernel_rfl) (fun x hx => by simp [higman_within.tbl] at hx) higman_within.o higman_within.h (fun k _ => by unfold higman_within.env; exact (envC_ok (fun ds K r h => by
    obtain ⟨x0, d0, rfl, h0⟩ := pop_some h
    obtain ⟨x1, d1, rfl, h1⟩ := pop_some h0
    obtain ⟨rfl, g⟩ := popN_some h1
    obtain ⟨r1, h1, h2⟩ := bind_some g
    exact ⟨_, h2, higman_Stands.con k _ h1⟩) env0_ok))
theorem higman_within.con (k : Nat) {x0 : (List Int)} {x1 : (List Int)} (r : Bool) (h : higman_within.f k x0 x1 = some r) : Con Try.prog 72 2 higman_within.ti higman_within.to [⟨(.slice (.int .i64)), x0⟩, ⟨(.slice (.int .i64)), x1⟩] (higman_within.rs r) :=
  higman_within.con' (k + 1) _ r (by show higman_within.c k _ = some r; unfold higman_within.c; simp only [pop_self, popN]; exact h)
def higman_Least_1.f (k : Nat) (u0 : List (Int)) (x1_0 : List (Int)) : Option (Bool) :=
 (higman_within.f k u0 x1_0).bind fun r_1 =>
  some (r_1)

noncomputable def higman_Least_1.body : Code := fnBody Try.f71
def higman_Least_1.ti : Tm := ⟨[(0, .p (.slice (.int .i64))), (1, .rs [.p (.slice (.int .i64))] 0)], []⟩
def higman_Least_1.to : Tm := ⟨[(0, .p .bool)], []⟩
def higman_Least_1.rs (r : Bool) : List Dat := [⟨.bool, r⟩]
def higman_Least_1.out (ds : List Dat) : Option (Bool) := pop .bool ds fun x0 ds => popN ds (some (x0))
def higman_Least_1.c (k : Nat) (ds : List Dat) : Option (Bool) := pop (.slice (.int .i64)) ds fun x0 ds => pop (.slice (.int .i64)) ds fun x1 ds => popN ds (higman_Least_1.f k x0 x1)
def higman_Least_1.g : Nat → List Dat → Option (Bool)
 | 0, _ => none
 | k + 1, ds => higman_Least_1.c k ds
def higman_Least_1.env (k : Nat) : Nat → List SV → List Chunk → KT (Bool) → Option (Bool) := (envC 72 2 higman_within.ti higman_within.to (fun ds K => pop (.slice (.int .i64)) ds fun x0 ds => pop (.slice (.int .i64)) ds fun x1 ds => popN ds ((higman_within.f k x0 x1).bind fun r => K (higman_within.rs r))) env0)
def higman_Least_1.tbl : List (Nat × Tm × (Nat → List Dat → Option (Bool))) := []
noncomputable abbrev higman_Least_1.R (k : Nat) := run T (higman_Least_1.env k) Try.f71.ntmps (cutE 0 higman_Least_1.tbl k) (finE 0 higman_Least_1.to higman_Least_1.out) (fnRes Try.f71) [] 100000 true
theorem higman_Least_1.e (k : Nat) (x0 : (List Int)) (x1 : (List Int)) : higman_Least_1.f k x0 x1 = higman_Least_1.R k ([.code higman_Least_1.body]) (higman_Least_1.ti.fill [⟨(.slice (.int .i64)), x0⟩, ⟨(.slice (.int .i64)), x1⟩]) := by kernel_rfl
theorem higman_Least_1.h (k : Nat) (ds : List Dat) (r : Bool) (h : higman_Least_1.g k ds = some r) : ∃ k', k' < k ∧ higman_Least_1.R k' ([.code higman_Least_1.body]) (higman_Least_1.ti.fill ds) = some r := by
  cases k with
  | zero => cases (show none = some r from h)
  | succ k =>
  replace h : higman_Least_1.c k ds = some r := h
  unfold higman_Least_1.c at h
  obtain ⟨x0, d0, rfl, h0⟩ := pop_some h
  obtain ⟨x1, d1, rfl, h1⟩ := pop_some h0
  obtain ⟨rfl, g⟩ := popN_some h1
  exact ⟨k, Nat.lt_succ_self k, (higman_Least_1.e k x0 x1).symm.trans g⟩
theorem higman_Least_1.o (ds : List Dat) (r : Bool) (h : higman_Least_1.out ds = some r) : ds = higman_Least_1.rs r := by
  unfold higman_Least_1.out at h
  obtain ⟨x0, d0, rfl, h0⟩ := pop_some h
  obtain ⟨rfl, g⟩ := popN_some h0
  cases g
  rfl
theorem higman_Least_1.fn : FnOk Try.prog 71 Try.f71 higman_Least_1.body Try.f71.ntmps 2 (fnRes Try.f71) :=
  fnOk_of (by kernel_rfl) (by kernel_rfl) (by kernel_rfl) (by kernel_rfl)
theorem higman_Least_1.con' : ∀ k ds r, higman_Least_1.g k ds = some r → Con Try.prog 71 2 higman_Least_1.ti higman_Least_1.to ds (higman_Least_1.rs r) :=
  fun_ok (T := T) T_ok mixed higman_Least_1.fn (env := higman_Least_1.env) (tbl := higman_Least_1.tbl) (gOut := higman_Least_1.out) (nin := 0) (cuts := []) (fuel := 100000) rfl (by kernel_rfl) (by kernel_rfl) (by kernel_rfl) (fun x hx => by simp [higman_Least_1.tbl] at hx) higman_Least_1.o higman_Least_1.h (fun k _ => by unfold higman_Least_1.env; exact (envC_ok (fun ds K r h => by
    obtain ⟨x0, d0, rfl, h0⟩ := pop_some h
    obtain ⟨x1, d1, rfl, h1⟩ := pop_some h0
    obtain ⟨rfl, g⟩ := popN_some h1
    obtain ⟨r1, h1, h2⟩ := bind_some g
    exact ⟨_, h2, higman_within.con k _ h1⟩) env0_ok))
theorem higman_Least_1.con (k : Nat) {x0 : (List Int)} {x1 : (List Int)} (r : Bool) (h : higman_Least_1.f k x0 x1 = some r) : Con Try.prog 71 2 higman_Least_1.ti higman_Least_1.to [⟨(.slice (.int .i64)), x0⟩, ⟨(.slice (.int .i64)), x1⟩] (higman_Least_1.rs r) :=
  higman_Least_1.con' (k + 1) _ r (by show higman_Least_1.c k _ = some r; unfold higman_Least_1.c; simp only [pop_self, popN]; exact h)
mutual
def slices_IndexFunc_____int___int__3.l2 : Nat → List (List (Int)) → List (Int) → Int → Int → Option (Int)
 | 0, _, _, _, _ => none
 | k + 1, s0, f1_0_0, x7, x8 =>
  if x8 < x7 then
   if 0 ≤ x8 then
   if x8 < (↑s0.length : Int) then
    (higman_Least_1.f k (Go.Proofs.YtmagglebkbiffaaSx.rd [] s0 x8) f1_0_0).bind fun r_5 =>
      if r_5 = true then
       some (x8)
      else
       slices_IndexFunc_____int___int__3.l2 k s0 f1_0_0 x7 (Go.IntKind.i64.wrap (x8 + 1))
    else none
   else none
  else
   some (-1)
end
def slices_IndexFunc_____int___int__3.f (k : Nat) (s0 : List (List (Int))) (f1_0_0 : List (Int)) : Option (Int) :=
 slices_IndexFunc_____int___int__3.l2 k s0 f1_0_0 ((↑s0.length : Int)) 0

noncomputable def slices_IndexFunc_____int___int__3.body : Code := fnBody Try.f135
def slices_IndexFunc_____int___int__3.ti : Tm := ⟨[(0, .p (.slice (.slice (.int .i64)))), (1, .fn 71 [.rs [.p (.slice (.int .i64))] 0])], []⟩
def slices_IndexFunc_____int___int__3.to : Tm := ⟨[(0, .p (.int .i64))], []⟩
def slices_IndexFunc_____int___int__3.rs (r : Int) : List Dat := [⟨(.int .i64), r⟩]
def slices_IndexFunc_____int___int__3.out (ds : List Dat) : Option (Int) := pop (.int .i64) ds fun x0 ds => popN ds (some (x0))
def slices_IndexFunc_____int___int__3.c (k : Nat) (ds : List Dat) : Option (Int) := pop (.slice (.slice (.int .i64))) ds fun x0 ds => pop (.slice (.int .i64)) ds fun x1 ds => popN ds (slices_IndexFunc_____int___int__3.f k x0 x1)
def slices_IndexFunc_____int___int__3.g : Nat → List Dat → Option (Int)
 | 0, _ => none
 | k + 1, ds => slices_IndexFunc_____int___int__3.c k ds
def slices_IndexFunc_____int___int__3.env (k : Nat) : Nat → List SV → List Chunk → KT (Int) → Option (Int) := (envC 71 2 higman_Least_1.ti higman_Least_1.to (fun ds K => pop (.slice (.int .i64)) ds fun x0 ds => pop (.slice (.int .i64)) ds fun x1 ds => popN ds ((higman_Least_1.f k x0 x1).bind fun r => K (higman_Least_1.rs r))) env0)
def slices_IndexFunc_____int___int__3.t5 : Tm := ⟨[(0, .p (.slice (.slice (.int .i64)))), (1, .fn 71 [.rs [.p (.slice (.int .i64))] 0]), (7, .p (.int .i64)), (8, .p (.int .i64))], []⟩
def slices_IndexFunc_____int___int__3.c5 (k : Nat) (ds : List Dat) : Option (Int) := pop (.slice (.slice (.int .i64))) ds fun x0 ds => pop (.slice (.int .i64)) ds fun x1 ds => pop (.int .i64) ds fun x2 ds => pop (.int .i64) ds fun x3 ds => popN ds (slices_IndexFunc_____int___int__3.l2 k x0 x1 x2 x3)
def slices_IndexFunc_____int___int__3.tbl : List (Nat × Tm × (Nat → List Dat → Option (Int))) := [(5, slices_IndexFunc_____int___int__3.t5, slices_IndexFunc_____int___int__3.c5)]
noncomputable abbrev slices_IndexFunc_____int___int__3.R (k : Nat) := run T (slices_IndexFunc_____int___int__3.env k) Try.f135.ntmps (cutE 0 slices_IndexFunc_____int___int__3.tbl k) (finE 0 slices_IndexFunc_____int___int__3.to slices_IndexFunc_____int___int__3.out) (fnRes Try.f135) [] 100000 true
theorem slices_IndexFunc_____int___int__3.e5 (k : Nat) (x0 : (List (List Int))) (x1 : (List Int)) (x2 : Int) (x3 : Int) : slices_IndexFunc_____int___int__3.l2 (k + 1) x0 x1 x2 x3 = slices_IndexFunc_____int___int__3.R k (start (stackOf 5 slices_IndexFunc_____int___int__3.body)) (slices_IndexFunc_____int___int__3.t5.fill [⟨(.slice (.slice (.int .i64))), x0⟩, ⟨(.slice (.int .i64)), x1⟩, ⟨(.int .i64), x2⟩, ⟨(.int .i64), x3⟩]) := by kernel_rfl
theorem slices_IndexFunc_____int___int__3.s5 : stackAt 5 slices_IndexFunc_____int___int__3.body [] = some (stackOf 5 slices_IndexFunc_____int___int__3.body) := by kernel_rfl
theorem slices_IndexFunc_____int___int__3.h5 (k : Nat) (ds : List Dat) (r : Int) (h : slices_IndexFunc_____int___int__3.c5 k ds = some r) : ∃ k', k' < k ∧ ∃ s, stackAt 5 slices_IndexFunc_____int___int__3.body [] = some s ∧ slices_IndexFunc_____int___int__3.R k' (start s) (slices_IndexFunc_____int___int__3.t5.fill ds) = some r := by
  unfold slices_IndexFunc_____int___int__3.c5 at h
  obtain ⟨x0, d0, rfl, h0⟩ := pop_some h
  obtain ⟨x1, d1, rfl, h1⟩ := pop_some h0
  obtain ⟨x2, d2, rfl, h2⟩ := pop_some h1
  obtain ⟨x3, d3, rfl, h3⟩ := pop_some h2
  obtain ⟨rfl, g⟩ := popN_some h3
  cases k with
  | zero => cases (show none = some r from g)
  | succ k => exact ⟨k, Nat.lt_succ_self k, _, slices_IndexFunc_____int___int__3.s5, (slices_IndexFunc_____int___int__3.e5 k x0 x1 x2 x3).symm.trans g⟩
theorem slices_IndexFunc_____int___int__3.e (k : Nat) (x0 : (List (List Int))) (x1 : (List Int)) : slices_IndexFunc_____int___int__3.f k x0 x1 = slices_IndexFunc_____int___int__3.R k ([.code slices_IndexFunc_____int___int__3.body]) (slices_IndexFunc_____int___int__3.ti.fill [⟨(.slice (.slice (.int .i64))), x0⟩, ⟨(.slice (.int .i64)), x1⟩]) := by kernel_rfl
theorem slices_IndexFunc_____int___int__3.h (k : Nat) (ds : List Dat) (r : Int) (h : slices_IndexFunc_____int___int__3.g k ds = some r) : ∃ k', k' < k ∧ slices_IndexFunc_____int___int__3.R k' ([.code slices_IndexFunc_____int___int__3.body]) (slices_IndexFunc_____int___int__3.ti.fill ds) = some r := by
  cases k with
  | zero => cases (show none = some r from h)
  | succ k =>
  replace h : slices_IndexFunc_____int___int__3.c k ds = some r := h
  unfold slices_IndexFunc_____int___int__3.c at h
  obtain ⟨x0, d0, rfl, h0⟩ := pop_some h
  obtain ⟨x1, d1, rfl, h1⟩ := pop_some h0
  obtain ⟨rfl, g⟩ := popN_some h1
  exact ⟨k, Nat.lt_succ_self k, (slices_IndexFunc_____int___int__3.e k x0 x1).symm.trans g⟩
theorem slices_IndexFunc_____int___int__3.o (ds : List Dat) (r : Int) (h : slices_IndexFunc_____int___int__3.out ds = some r) : ds = slices_IndexFunc_____int___int__3.rs r := by
  unfold slices_IndexFunc_____int___int__3.out at h
  obtain ⟨x0, d0, rfl, h0⟩ := pop_some h
  obtain ⟨rfl, g⟩ := popN_some h0
  cases g
  rfl
theorem slices_IndexFunc_____int___int__3.fn : FnOk Try.prog 135 Try.f135 slices_IndexFunc_____int___int__3.body Try.f135.ntmps 2 (fnRes Try.f135) :=
  fnOk_of (by kernel_rfl) (by kernel_rfl) (by kernel_rfl) (by kernel_rfl)
theorem slices_IndexFunc_____int___int__3.con' : ∀ k ds r, slices_IndexFunc_____int___int__3.g k ds = some r → Con Try.prog 135 2 slices_IndexFunc_____int___int__3.ti slices_IndexFunc_____int___int__3.to ds (slices_IndexFunc_____int___int__3.rs r) :=
  fun_ok (T := T) T_ok mixed slices_IndexFunc_____int___int__3.fn (env := slices_IndexFunc_____int___int__3.env) (tbl := slices_IndexFunc_____int___int__3.tbl) (gOut := slices_IndexFunc_____int___int__3.out) (nin := 0) (cuts := []) (fuel := 100000) rfl (by kernel_rfl) (by kernel_rfl) (by kernel_rfl) (fun x hx => by
    simp only [slices_IndexFunc_____int___int__3.tbl, List.mem_cons, List.not_mem_nil, or_false] at hx
    subst hx
    · exact slices_IndexFunc_____int___int__3.h5
) slices_IndexFunc_____int___int__3.o slices_IndexFunc_____int___int__3.h (fun k _ => by unfold slices_IndexFunc_____int___int__3.env; exact (envC_ok (fun ds K r h => by
    obtain ⟨x0, d0, rfl, h0⟩ := pop_some h
    obtain ⟨x1, d1, rfl, h1⟩ := pop_some h0
    obtain ⟨rfl, g⟩ := popN_some h1
    obtain ⟨r1, h1, h2⟩ := bind_some g
    exact ⟨_, h2, higman_Least_1.con k _ h1⟩) env0_ok))
theorem slices_IndexFunc_____int___int__3.con (k : Nat) {x0 : (List (List Int))} {x1 : (List Int)} (r : Int) (h : slices_IndexFunc_____int___int__3.f k x0 x1 = some r) : Con Try.prog 135 2 slices_IndexFunc_____int___int__3.ti slices_IndexFunc_____int___int__3.to [⟨(.slice (.slice (.int .i64))), x0⟩, ⟨(.slice (.int .i64)), x1⟩] (slices_IndexFunc_____int___int__3.rs r) :=
  slices_IndexFunc_____int___int__3.con' (k + 1) _ r (by show slices_IndexFunc_____int___int__3.c k _ = some r; unfold slices_IndexFunc_____int___int__3.c; simp only [pop_self, popN]; exact h)
def slices_ContainsFunc_____int___int__3.f (k : Nat) (s0 : List (List (Int))) (f1_0_0 : List (Int)) : Option (Bool) :=
 (slices_IndexFunc_____int___int__3.f k s0 f1_0_0).bind fun r_1 =>
  some (decide (0 ≤ r_1))

noncomputable def slices_ContainsFunc_____int___int__3.body : Code := fnBody Try.f70
def slices_ContainsFunc_____int___int__3.ti : Tm := ⟨[(0, .p (.slice (.slice (.int .i64)))), (1, .fn 71 [.rs [.p (.slice (.int .i64))] 0])], []⟩
def slices_ContainsFunc_____int___int__3.to : Tm := ⟨[(0, .p .bool)], []⟩
def slices_ContainsFunc_____int___int__3.rs (r : Bool) : List Dat := [⟨.bool, r⟩]
def slices_ContainsFunc_____int___int__3.out (ds : List Dat) : Option (Bool) := pop .bool ds fun x0 ds => popN ds (some (x0))
def slices_ContainsFunc_____int___int__3.c (k : Nat) (ds : List Dat) : Option (Bool) := pop (.slice (.slice (.int .i64))) ds fun x0 ds => pop (.slice (.int .i64)) ds fun x1 ds => popN ds (slices_ContainsFunc_____int___int__3.f k x0 x1)
def slices_ContainsFunc_____int___int__3.g : Nat → List Dat → Option (Bool)
 | 0, _ => none
 | k + 1, ds => slices_ContainsFunc_____int___int__3.c k ds
def slices_ContainsFunc_____int___int__3.env (k : Nat) : Nat → List SV → List Chunk → KT (Bool) → Option (Bool) := (envC 135 2 slices_IndexFunc_____int___int__3.ti slices_IndexFunc_____int___int__3.to (fun ds K => pop (.slice (.slice (.int .i64))) ds fun x0 ds => pop (.slice (.int .i64)) ds fun x1 ds => popN ds ((slices_IndexFunc_____int___int__3.f k x0 x1).bind fun r => K (slices_IndexFunc_____int___int__3.rs r))) env0)
def slices_ContainsFunc_____int___int__3.tbl : List (Nat × Tm × (Nat → List Dat → Option (Bool))) := []
noncomputable abbrev slices_ContainsFunc_____int___int__3.R (k : Nat) := run T (slices_ContainsFunc_____int___int__3.env k) Try.f70.ntmps (cutE 0 slices_ContainsFunc_____int___int__3.tbl k) (finE 0 slices_ContainsFunc_____int___int__3.to slices_ContainsFunc_____int___int__3.out) (fnRes Try.f70) [] 100000 true
theorem slices_ContainsFunc_____int___int__3.e (k : Nat) (x0 : (List (List Int))) (x1 : (List Int)) : slices_ContainsFunc_____int___int__3.f k x0 x1 = slices_ContainsFunc_____int___int__3.R k ([.code slices_ContainsFunc_____int___int__3.body]) (slices_ContainsFunc_____int___int__3.ti.fill [⟨(.slice (.slice (.int .i64))), x0⟩, ⟨(.slice (.int .i64)), x1⟩]) := by kernel_rfl
theorem slices_ContainsFunc_____int___int__3.h (k : Nat) (ds : List Dat) (r : Bool) (h : slices_ContainsFunc_____int___int__3.g k ds = some r) : ∃ k', k' < k ∧ slices_ContainsFunc_____int___int__3.R k' ([.code slices_ContainsFunc_____int___int__3.body]) (slices_ContainsFunc_____int___int__3.ti.fill ds) = some r := by
  cases k with
  | zero => cases (show none = some r from h)
  | succ k =>
  replace h : slices_ContainsFunc_____int___int__3.c k ds = some r := h
  unfold slices_ContainsFunc_____int___int__3.c at h
  obtain ⟨x0, d0, rfl, h0⟩ := pop_some h
  obtain ⟨x1, d1, rfl, h1⟩ := pop_some h0
  obtain ⟨rfl, g⟩ := popN_some h1
  exact ⟨k, Nat.lt_succ_self k, (slices_ContainsFunc_____int___int__3.e k x0 x1).symm.trans g⟩
theorem slices_ContainsFunc_____int___int__3.o (ds : List Dat) (r : Bool) (h : slices_ContainsFunc_____int___int__3.out ds = some r) : ds = slices_ContainsFunc_____int___int__3.rs r := by
  unfold slices_ContainsFunc_____int___int__3.out at h
  obtain ⟨x0, d0, rfl, h0⟩ := pop_some h
  obtain ⟨rfl, g⟩ := popN_some h0
  cases g
  rfl
theorem slices_ContainsFunc_____int___int__3.fn : FnOk Try.prog 70 Try.f70 slices_ContainsFunc_____int___int__3.body Try.f70.ntmps 2 (fnRes Try.f70) :=
  fnOk_of (by kernel_rfl) (by kernel_rfl) (by kernel_rfl) (by kernel_rfl)
theorem slices_ContainsFunc_____int___int__3.con' : ∀ k ds r, slices_ContainsFunc_____int___int__3.g k ds = some r → Con Try.prog 70 2 slices_ContainsFunc_____int___int__3.ti slices_ContainsFunc_____int___int__3.to ds (slices_ContainsFunc_____int___int__3.rs r) :=
  fun_ok (T := T) T_ok mixed slices_ContainsFunc_____int___int__3.fn (env := slices_ContainsFunc_____int___int__3.env) (tbl := slices_ContainsFunc_____int___int__3.tbl) (gOut := slices_ContainsFunc_____int___int__3.out) (nin := 0) (cuts := []) (fuel := 100000) rfl (by kernel_rfl) (by kernel_rfl) (by kernel_rfl) (fun x hx => by simp [slices_ContainsFunc_____int___int__3.tbl] at hx) slices_ContainsFunc_____int___int__3.o slices_ContainsFunc_____int___int__3.h (fun k _ => by unfold slices_ContainsFunc_____int___int__3.env; exact (envC_ok (fun ds K r h => by
    obtain ⟨x0, d0, rfl, h0⟩ := pop_some h
    obtain ⟨x1, d1, rfl, h1⟩ := pop_some h0
    obtain ⟨rfl, g⟩ := popN_some h1
    obtain ⟨r1, h1, h2⟩ := bind_some g
    exact ⟨_, h2, slices_IndexFunc_____int___int__3.con k _ h1⟩) env0_ok))
theorem slices_ContainsFunc_____int___int__3.con (k : Nat) {x0 : (List (List Int))} {x1 : (List Int)} (r : Bool) (h : slices_ContainsFunc_____int___int__3.f k x0 x1 = some r) : Con Try.prog 70 2 slices_ContainsFunc_____int___int__3.ti slices_ContainsFunc_____int___int__3.to [⟨(.slice (.slice (.int .i64))), x0⟩, ⟨(.slice (.int .i64)), x1⟩] (slices_ContainsFunc_____int___int__3.rs r) :=
  slices_ContainsFunc_____int___int__3.con' (k + 1) _ r (by show slices_ContainsFunc_____int___int__3.c k _ = some r; unfold slices_ContainsFunc_____int___int__3.c; simp only [pop_self, popN]; exact h)
mutual
def det_After.l2 : Nat → Int → List (Int) → Int → Int → Int → Int → List (List (Int)) → List (Int) → Option (Int)
 | 0, _, _, _, _, _, _, _, _ => none
 | k + 1, q1, x9, x10, x11, d3_0, d3_1, d3_2, d3_3 =>
  if x11 < x10 then
   if 0 ≤ x11 then
   if x11 < (↑x9.length : Int) then
    if 0 ≤ q1 then
     if q1 < (↑d3_2.length : Int) then
      if 0 ≤ Go.Proofs.YtmagglebkbiffaaSx.rd (Int.ofNat 0) x9 x11 then
       if Go.Proofs.YtmagglebkbiffaaSx.rd (Int.ofNat 0) x9 x11 < (↑(Go.Proofs.YtmagglebkbiffaaSx.rd [] d3_2 q1).length : Int) then
        det_After.l2 k (Go.Proofs.YtmagglebkbiffaaSx.rd (Int.ofNat 0) (Go.Proofs.YtmagglebkbiffaaSx.rd [] d3_2 q1) (Go.Proofs.YtmagglebkbiffaaSx.rd (Int.ofNat 0) x9 x11)) x9 x10 (Go.IntKind.i64.wrap (x11 + 1)) d3_0 d3_1 d3_2 d3_3
        else none
       else none
      else none
     else none
    else none
   else none
  else
   some (q1)
end
def det_After.f (k : Nat) (d0 : (Int × (Int × (List (List (Int)) × (List (Int) × Unit))))) (q1 : Int) (w2 : List (Int)) : Option (Int) :=
 det_After.l2 k q1 w2 ((↑w2.length : Int)) 0 d0.fst d0.snd.fst d0.snd.snd.fst d0.snd.snd.snd.fst

noncomputable def det_After.body : Code := fnBody Try.f73
def det_After.ti : Tm := ⟨[(0, .p (.pair (.int .i64) (.pair (.int .i64) (.pair (.slice (.slice (.int .i64))) (.pair (.slice (.int .i64)) .unit))))), (1, .p (.int .i64)), (2, .p (.slice (.int .i64)))], []⟩
def det_After.to : Tm := ⟨[(0, .p (.int .i64))], []⟩
def det_After.rs (r : Int) : List Dat := [⟨(.int .i64), r⟩]
def det_After.out (ds : List Dat) : Option (Int) := pop (.int .i64) ds fun x0 ds => popN ds (some (x0))
def det_After.c (k : Nat) (ds : List Dat) : Option (Int) := pop (.pair (.int .i64) (.pair (.int .i64) (.pair (.slice (.slice (.int .i64))) (.pair (.slice (.int .i64)) .unit)))) ds fun x0 ds => pop (.int .i64) ds fun x1 ds => pop (.slice (.int .i64)) ds fun x2 ds => popN ds (det_After.f k x0 x1 x2)
def det_After.g : Nat → List Dat → Option (Int)
 | 0, _ => none
 | k + 1, ds => det_After.c k ds
def det_After.env (k : Nat) : Nat → List SV → List Chunk → KT (Int) → Option (Int) := env0
def det_After.t5 : Tm := ⟨[(1, .p (.int .i64)), (3, .ptr 0 0), (9, .p (.slice (.int .i64))), (10, .p (.int .i64)), (11, .p (.int .i64))], [.box [.p (.int .i64), .p (.int .i64), .p (.slice (.slice (.int .i64))), .p (.slice (.int .i64))] 25]⟩
def det_After.c5 (k : Nat) (ds : List Dat) : Option (Int) := pop (.int .i64) ds fun x0 ds => pop (.slice (.int .i64)) ds fun x1 ds => pop (.int .i64) ds fun x2 ds => pop (.int .i64) ds fun x3 ds => pop (.int .i64) ds fun x4 ds => pop (.int .i64) ds fun x5 ds => pop (.slice (.slice (.int .i64))) ds fun x6 ds => pop (.slice (.int .i64)) ds fun x7 ds => popN ds (det_After.l2 k x0 x1 x2 x3 x4 x5 x6 x7)
def det_After.tbl : List (Nat × Tm × (Nat → List Dat → Option (Int))) := [(5, det_After.t5, det_After.c5)]
noncomputable abbrev det_After.R (k : Nat) := run T (det_After.env k) Try.f73.ntmps (cutE 0 det_After.tbl k) (finE 0 det_After.to det_After.out) (fnRes Try.f73) [] 100000 true
theorem det_After.e5 (k : Nat) (x0 : Int) (x1 : (List Int)) (x2 : Int) (x3 : Int) (x4 : Int) (x5 : Int) (x6 : (List (List Int))) (x7 : (List Int)) : det_After.l2 (k + 1) x0 x1 x2 x3 x4 x5 x6 x7 = det_After.R k (start (stackOf 5 det_After.body)) (det_After.t5.fill [⟨(.int .i64), x0⟩, ⟨(.slice (.int .i64)), x1⟩, ⟨(.int .i64), x2⟩, ⟨(.int .i64), x3⟩, ⟨(.int .i64), x4⟩, ⟨(.int .i64), x5⟩, ⟨(.slice (.slice (.int .i64))), x6⟩, ⟨(.slice (.int .i64)), x7⟩]) := by kernel_rfl
theorem det_After.s5 : stackAt 5 det_After.body [] = some (stackOf 5 det_After.body) := by kernel_rfl
theorem det_After.h5 (k : Nat) (ds : List Dat) (r : Int) (h : det_After.c5 k ds = some r) : ∃ k', k' < k ∧ ∃ s, stackAt 5 det_After.body [] = some s ∧ det_After.R k' (start s) (det_After.t5.fill ds) = some r := by
  unfold det_After.c5 at h
  obtain ⟨x0, d0, rfl, h0⟩ := pop_some h
  obtain ⟨x1, d1, rfl, h1⟩ := pop_some h0
  obtain ⟨x2, d2, rfl, h2⟩ := pop_some h1
  obtain ⟨x3, d3, rfl, h3⟩ := pop_some h2
  obtain ⟨x4, d4, rfl, h4⟩ := pop_some h3
  obtain ⟨x5, d5, rfl, h5⟩ := pop_some h4
  obtain ⟨x6, d6, rfl, h6⟩ := pop_some h5
  obtain ⟨x7, d7, rfl, h7⟩ := pop_some h6
  obtain ⟨rfl, g⟩ := popN_some h7
  cases k with
  | zero => cases (show none = some r from g)
  | succ k => exact ⟨k, Nat.lt_succ_self k, _, det_After.s5, (det_After.e5 k x0 x1 x2 x3 x4 x5 x6 x7).symm.trans g⟩
theorem det_After.e (k : Nat) (x0 : (Int × (Int × ((List (List Int)) × ((List Int) × Unit))))) (x1 : Int) (x2 : (List Int)) : det_After.f k x0 x1 x2 = det_After.R k ([.code det_After.body]) (det_After.ti.fill [⟨(.pair (.int .i64) (.pair (.int .i64) (.pair (.slice (.slice (.int .i64))) (.pair (.slice (.int .i64)) .unit)))), x0⟩, ⟨(.int .i64), x1⟩, ⟨(.slice (.int .i64)), x2⟩]) := by kernel_rfl
theorem det_After.h (k : Nat) (ds : List Dat) (r : Int) (h : det_After.g k ds = some r) : ∃ k', k' < k ∧ det_After.R k' ([.code det_After.body]) (det_After.ti.fill ds) = some r := by
  cases k with
  | zero => cases (show none = some r from h)
  | succ k =>
  replace h : det_After.c k ds = some r := h
  unfold det_After.c at h
  obtain ⟨x0, d0, rfl, h0⟩ := pop_some h
  obtain ⟨x1, d1, rfl, h1⟩ := pop_some h0
  obtain ⟨x2, d2, rfl, h2⟩ := pop_some h1
  obtain ⟨rfl, g⟩ := popN_some h2
  exact ⟨k, Nat.lt_succ_self k, (det_After.e k x0 x1 x2).symm.trans g⟩
theorem det_After.o (ds : List Dat) (r : Int) (h : det_After.out ds = some r) : ds = det_After.rs r := by
  unfold det_After.out at h
  obtain ⟨x0, d0, rfl, h0⟩ := pop_some h
  obtain ⟨rfl, g⟩ := popN_some h0
  cases g
  rfl
theorem det_After.fn : FnOk Try.prog 73 Try.f73 det_After.body Try.f73.ntmps 3 (fnRes Try.f73) :=
  fnOk_of (by kernel_rfl) (by kernel_rfl) (by kernel_rfl) (by kernel_rfl)
theorem det_After.con' : ∀ k ds r, det_After.g k ds = some r → Con Try.prog 73 3 det_After.ti det_After.to ds (det_After.rs r) :=
  fun_ok (T := T) T_ok mixed det_After.fn (env := det_After.env) (tbl := det_After.tbl) (gOut := det_After.out) (nin := 0) (cuts := []) (fuel := 100000) rfl (by kernel_rfl) (by kernel_rfl) (by kernel_rfl) (fun x hx => by
    simp only [det_After.tbl, List.mem_cons, List.not_mem_nil, or_false] at hx
    subst hx
    · exact det_After.h5
) det_After.o det_After.h (fun k _ => by unfold det_After.env; exact env0_ok)
theorem det_After.con (k : Nat) {x0 : (Int × (Int × ((List (List Int)) × ((List Int) × Unit))))} {x1 : Int} {x2 : (List Int)} (r : Int) (h : det_After.f k x0 x1 x2 = some r) : Con Try.prog 73 3 det_After.ti det_After.to [⟨(.pair (.int .i64) (.pair (.int .i64) (.pair (.slice (.slice (.int .i64))) (.pair (.slice (.int .i64)) .unit)))), x0⟩, ⟨(.int .i64), x1⟩, ⟨(.slice (.int .i64)), x2⟩] (det_After.rs r) :=
  det_After.con' (k + 1) _ r (by show det_After.c k _ = some r; unfold det_After.c; simp only [pop_self, popN]; exact h)
def slices_Clone___int_int_.f (k : Nat) (x0 : List (Int)) : Option (List (Int)) := if Short x0.length then some x0 else none
def slices_Clone___int_int_.ti : Tm := cloneIn (.int .i64)
def slices_Clone___int_int_.to : Tm := cloneOut (.int .i64)
def slices_Clone___int_int_.rs (r : List Int) : List Dat := [⟨.slice (.int .i64), r⟩]
theorem slices_Clone___int_int_.fn : FnOk Try.prog 74 Try.f74 (fnBody Try.f74) Try.f74.ntmps 1 (fnRes Try.f74) :=
  fnOk_of (by kernel_rfl) (by kernel_rfl) (by kernel_rfl) (by kernel_rfl)
theorem slices_Clone___int_int_.con (k : Nat) {x0 : List Int} (r : List Int) (h : slices_Clone___int_int_.f k x0 = some r) : Con Try.prog 74 1 slices_Clone___int_int_.ti slices_Clone___int_int_.to [⟨.slice (.int .i64), x0⟩] (slices_Clone___int_int_.rs r) := by
  unfold slices_Clone___int_int_.f at h
  split at h
  · rename_i hs
    cases h
    exact clone_con (by_ := elemB T 23) (u := (.int .i64)) (t := 23) (t' := 23) (k := restOf (stackOf 2 (fnBody Try.f74))) (ops := opsAt 1 (fnBody Try.f74)) (o1 := opAt 0 (opsAt 1 (fnBody Try.f74))) (o2 := opAt 1 (opsAt 1 (fnBody Try.f74))) T_ok mixed slices_Clone___int_int_.fn (by kernel_rfl) ⟨by kernel_rfl, by kernel_rfl, by kernel_rfl, by kernel_rfl, by kernel_rfl, by kernel_rfl, by kernel_rfl, ⟨3, by kernel_rfl⟩⟩ (Nat.le_of_ble_eq_true (by kernel_rfl)) (by kernel_rfl) (by kernel_rfl) (fun L => by kernel_rfl) (by kernel_rfl) (fun L => by kernel_rfl) (by kernel_rfl) x0 hs
  · cases h
mutual
def higman_Least.l6 : Nat → Int → Int → List (List (Int)) → List (Int) → List (List (Int)) → List (List (Int)) → Option (Int × List (List Int))
 | 0, _, _, _, _, _, _ => none
 | k + 1, d1_0, d1_1, d1_2, d1_3, out5, row6 =>
  if 0 < (↑row6.length : Int) then
   if 0 ≤ 0 then
   if 0 < (↑row6.length : Int) then
    if (↑(row6.getD (Int.toNat 0) []).length : Int) < (↑d1_2.length : Int) then
      if 0 ≤ 0 then
      if 0 < (↑row6.length : Int) then
       (slices_ContainsFunc_____int___int__3.f k out5 (row6.getD (Int.toNat 0) [])).bind fun r_8 =>
         if r_8 = true then
          if 0 ≤ 1 then
          if 1 ≤ (↑row6.length : Int) then
           if (↑row6.length : Int) ≤ (↑row6.length : Int) then
            higman_Least.l6 k d1_0 d1_1 d1_2 d1_3 out5 (List.take ((↑row6.length : Int).toNat - Int.toNat 1) (List.drop (Int.toNat 1) row6))
            else none
           else none
          else none
         else
          (det_After.f k (d1_0, d1_1, d1_2, d1_3, ()) d1_1 (row6.getD (Int.toNat 0) [])).bind fun r_10 =>
           if 0 ≤ r_10 then
           if r_10 < (↑d1_3.length : Int) then
            if Go.Proofs.YtmagglebkbiffaaSx.rd (Int.ofNat 0) d1_3 r_10 = 1 then
              if Go.Proofs.YtmagglebkbiffaaSx.fitsIn (out5 ++ [row6.getD (Int.toNat 0) []]).length 24 = true then
              if 0 ≤ 1 then
               if 1 ≤ (↑row6.length : Int) then
                if (↑row6.length : Int) ≤ (↑row6.length : Int) then
                 higman_Least.l6 k d1_0 d1_1 d1_2 d1_3 (out5 ++ [row6.getD (Int.toNat 0) []]) (List.take ((↑row6.length : Int).toNat - Int.toNat 1) (List.drop (Int.toNat 1) row6))
                 else none
                else none
               else none
              else none
             else
              higman_Least.l13 k d1_0 0 d1_0 d1_1 d1_2 d1_3 out5 row6 (row6.getD (Int.toNat 0) [])
            else none
           else none
       else none
      else none
     else
      some (0, out5)
    else none
   else none
  else
   some (0, out5)
def higman_Least.l13 : Nat → Int → Int → Int → Int → List (List (Int)) → List (Int) → List (List (Int)) → List (List (Int)) → List (Int) → Option (Int × List (List Int))
 | 0, _, _, _, _, _, _, _, _, _ => none
 | k + 1, x52, x53, d1_0, d1_1, d1_2, d1_3, out5, row6, w7_0 =>
  if x53 < x52 then
   (slices_Clone___int_int_.f k w7_0).bind fun r_3 =>
    if Go.Proofs.YtmagglebkbiffaaSx.fitsIn (r_3 ++ [x53]).length 8 = true then
    if Go.Proofs.YtmagglebkbiffaaSx.fitsIn (row6 ++ [r_3 ++ [x53]]).length 24 = true then
     higman_Least.l13 k x52 (Go.IntKind.i64.wrap (x53 + 1)) d1_0 d1_1 d1_2 d1_3 out5 (row6 ++ [r_3 ++ [x53]]) w7_0
     else none
    else none
  else
   if 0 ≤ 1 then
   if 1 ≤ (↑row6.length : Int) then
    if (↑row6.length : Int) ≤ (↑row6.length : Int) then
     higman_Least.l6 k d1_0 d1_1 d1_2 d1_3 out5 (List.take ((↑row6.length : Int).toNat - Int.toNat 1) (List.drop (Int.toNat 1) row6))
     else none
    else none
   else none
end
def higman_Least.f (k : Nat) (d0 : (Int × (Int × (List (List (Int)) × (List (Int) × Unit))))) : Option (Int × List (List Int)) :=
 (higman_small.f k (d0.fst, d0.snd.fst, d0.snd.snd.fst, d0.snd.snd.snd.fst, ())).bind fun r_1 =>
  if r_1 = 0 then
   higman_Least.l6 k d0.fst d0.snd.fst d0.snd.snd.fst d0.snd.snd.snd.fst [] [[]]
  else
   some (r_1, [])

noncomputable def higman_Least.body : Code := fnBody Try.f15
def higman_Least.ti : Tm := ⟨[(0, .p (.pair (.int .i64) (.pair (.int .i64) (.pair (.slice (.slice (.int .i64))) (.pair (.slice (.int .i64)) .unit)))))], []⟩
def higman_Least.to : Tm := ⟨[(0, .own 0), (1, .p (.int .i64))], [.own (.slice (.int .i64))]⟩
def higman_Least.rs (r : Int × (List (List Int))) : List Dat := [⟨(.int .i64), r.1⟩, ⟨(.slice (.slice (.int .i64))), r.2⟩]
def higman_Least.out (ds : List Dat) : Option (Int × (List (List Int))) := pop (.int .i64) ds fun x0 ds => pop (.slice (.slice (.int .i64))) ds fun x1 ds => popN ds (some (x0, x1))
def higman_Least.c (k : Nat) (ds : List Dat) : Option (Int × (List (List Int))) := pop (.pair (.int .i64) (.pair (.int .i64) (.pair (.slice (.slice (.int .i64))) (.pair (.slice (.int .i64)) .unit)))) ds fun x0 ds => popN ds (higman_Least.f k x0)
def higman_Least.g : Nat → List Dat → Option (Int × (List (List Int)))
 | 0, _ => none
 | k + 1, ds => higman_Least.c k ds
def higman_Least.env (k : Nat) : Nat → List SV → List Chunk → KT (Int × (List (List Int))) → Option (Int × (List (List Int))) := (envC 70 2 slices_ContainsFunc_____int___int__3.ti slices_ContainsFunc_____int___int__3.to (fun ds K => pop (.slice (.slice (.int .i64))) ds fun x0 ds => pop (.slice (.int .i64)) ds fun x1 ds => popN ds ((slices_ContainsFunc_____int___int__3.f k x0 x1).bind fun r => K (slices_ContainsFunc_____int___int__3.rs r))) (envC 73 3 det_After.ti det_After.to (fun ds K => pop (.pair (.int .i64) (.pair (.int .i64) (.pair (.slice (.slice (.int .i64))) (.pair (.slice (.int .i64)) .unit)))) ds fun x0 ds => pop (.int .i64) ds fun x1 ds => pop (.slice (.int .i64)) ds fun x2 ds => popN ds ((det_After.f k x0 x1 x2).bind fun r => K (det_After.rs r))) (envC 74 1 slices_Clone___int_int_.ti slices_Clone___int_int_.to (fun ds K => pop (.slice (.int .i64)) ds fun x0 ds => popN ds ((slices_Clone___int_int_.f k x0).bind fun r => K (slices_Clone___int_int_.rs r))) (envC 69 1 higman_small.ti higman_small.to (fun ds K => pop (.pair (.int .i64) (.pair (.int .i64) (.pair (.slice (.slice (.int .i64))) (.pair (.slice (.int .i64)) .unit)))) ds fun x0 ds => popN ds ((higman_small.f k x0).bind fun r => K (higman_small.rs r))) env0))))
def higman_Least.t13 : Tm := ⟨[(1, .ptr 0 0), (5, .own 1), (6, .own 2)], [.box [.p (.int .i64), .p (.int .i64), .p (.slice (.slice (.int .i64))), .p (.slice (.int .i64))] 25, .own (.slice (.int .i64)), .own (.slice (.int .i64))]⟩
def higman_Least.c13 (k : Nat) (ds : List Dat) : Option (Int × (List (List Int))) := pop (.int .i64) ds fun x0 ds => pop (.int .i64) ds fun x1 ds => pop (.slice (.slice (.int .i64))) ds fun x2 ds => pop (.slice (.int .i64)) ds fun x3 ds => pop (.slice (.slice (.int .i64))) ds fun x4 ds => pop (.slice (.slice (.int .i64))) ds fun x5 ds => popN ds (higman_Least.l6 k x0 x1 x2 x3 x4 x5)
def higman_Least.t27 : Tm := ⟨[(1, .ptr 0 0), (5, .own 1), (6, .own 2), (7, .ptr 3 0), (52, .p (.int .i64)), (53, .p (.int .i64))], [.box [.p (.int .i64), .p (.int .i64), .p (.slice (.slice (.int .i64))), .p (.slice (.int .i64))] 25, .own (.slice (.int .i64)), .own (.slice (.int .i64)), .box [.p (.slice (.int .i64))] 23]⟩
def higman_Least.c27 (k : Nat) (ds : List Dat) : Option (Int × (List (List Int))) := pop (.int .i64) ds fun x0 ds => pop (.int .i64) ds fun x1 ds => pop (.int .i64) ds fun x2 ds => pop (.int .i64) ds fun x3 ds => pop (.slice (.slice (.int .i64))) ds fun x4 ds => pop (.slice (.int .i64)) ds fun x5 ds => pop (.slice (.slice (.int .i64))) ds fun x6 ds => pop (.slice (.slice (.int .i64))) ds fun x7 ds => pop (.slice (.int .i64)) ds fun x8 ds => popN ds (higman_Least.l13 k x0 x1 x2 x3 x4 x5 x6 x7 x8)
def higman_Least.tbl : List (Nat × Tm × (Nat → List Dat → Option (Int × (List (List Int))))) := [(13, higman_Least.t13, higman_Least.c13), (27, higman_Least.t27, higman_Least.c27)]
noncomputable abbrev higman_Least.R (k : Nat) := run T (higman_Least.env k) Try.f15.ntmps (cutE 0 higman_Least.tbl k) (finE 0 higman_Least.to higman_Least.out) (fnRes Try.f15) [] 100000 true
theorem higman_Least.e13 (k : Nat) (x0 : Int) (x1 : Int) (x2 : (List (List Int))) (x3 : (List Int)) (x4 : (List (List Int))) (x5 : (List (List Int))) : higman_Least.l6 (k + 1) x0 x1 x2 x3 x4 x5 = higman_Least.R k (start (stackOf 13 higman_Least.body)) (higman_Least.t13.fill [⟨(.int .i64), x0⟩, ⟨(.int .i64), x1⟩, ⟨(.slice (.slice (.int .i64))), x2⟩, ⟨(.slice (.int .i64)), x3⟩, ⟨(.slice (.slice (.int .i64))), x4⟩, ⟨(.slice (.slice (.int .i64))), x5⟩]) := by kernel_rfl
theorem higman_Least.s13 : stackAt 13 higman_Least.body [] = some (stackOf 13 higman_Least.body) := by kernel_rfl
theorem higman_Least.h13 (k : Nat) (ds : List Dat) (r : Int × (List (List Int))) (h : higman_Least.c13 k ds = some r) : ∃ k', k' < k ∧ ∃ s, stackAt 13 higman_Least.body [] = some s ∧ higman_Least.R k' (start s) (higman_Least.t13.fill ds) = some r := by
  unfold higman_Least.c13 at h
  obtain ⟨x0, d0, rfl, h0⟩ := pop_some h
  obtain ⟨x1, d1, rfl, h1⟩ := pop_some h0
  obtain ⟨x2, d2, rfl, h2⟩ := pop_some h1
  obtain ⟨x3, d3, rfl, h3⟩ := pop_some h2
  obtain ⟨x4, d4, rfl, h4⟩ := pop_some h3
  obtain ⟨x5, d5, rfl, h5⟩ := pop_some h4
  obtain ⟨rfl, g⟩ := popN_some h5
  cases k with
  | zero => cases (show none = some r from g)
  | succ k => exact ⟨k, Nat.lt_succ_self k, _, higman_Least.s13, (higman_Least.e13 k x0 x1 x2 x3 x4 x5).symm.trans g⟩
theorem higman_Least.e27 (k : Nat) (x0 : Int) (x1 : Int) (x2 : Int) (x3 : Int) (x4 : (List (List Int))) (x5 : (List Int)) (x6 : (List (List Int))) (x7 : (List (List Int))) (x8 : (List Int)) : higman_Least.l13 (k + 1) x0 x1 x2 x3 x4 x5 x6 x7 x8 = higman_Least.R k (start (stackOf 27 higman_Least.body)) (higman_Least.t27.fill [⟨(.int .i64), x0⟩, ⟨(.int .i64), x1⟩, ⟨(.int .i64), x2⟩, ⟨(.int .i64), x3⟩, ⟨(.slice (.slice (.int .i64))), x4⟩, ⟨(.slice (.int .i64)), x5⟩, ⟨(.slice (.slice (.int .i64))), x6⟩, ⟨(.slice (.slice (.int .i64))), x7⟩, ⟨(.slice (.int .i64)), x8⟩]) := by kernel_rfl
theorem higman_Least.s27 : stackAt 27 higman_Least.body [] = some (stackOf 27 higman_Least.body) := by kernel_rfl
theorem higman_Least.h27 (k : Nat) (ds : List Dat) (r : Int × (List (List Int))) (h : higman_Least.c27 k ds = some r) : ∃ k', k' < k ∧ ∃ s, stackAt 27 higman_Least.body [] = some s ∧ higman_Least.R k' (start s) (higman_Least.t27.fill ds) = some r := by
  unfold higman_Least.c27 at h
  obtain ⟨x0, d0, rfl, h0⟩ := pop_some h
  obtain ⟨x1, d1, rfl, h1⟩ := pop_some h0
  obtain ⟨x2, d2, rfl, h2⟩ := pop_some h1
  obtain ⟨x3, d3, rfl, h3⟩ := pop_some h2
  obtain ⟨x4, d4, rfl, h4⟩ := pop_some h3
  obtain ⟨x5, d5, rfl, h5⟩ := pop_some h4
  obtain ⟨x6, d6, rfl, h6⟩ := pop_some h5
  obtain ⟨x7, d7, rfl, h7⟩ := pop_some h6
  obtain ⟨x8, d8, rfl, h8⟩ := pop_some h7
  obtain ⟨rfl, g⟩ := popN_some h8
  cases k with
  | zero => cases (show none = some r from g)
  | succ k => exact ⟨k, Nat.lt_succ_self k, _, higman_Least.s27, (higman_Least.e27 k x0 x1 x2 x3 x4 x5 x6 x7 x8).symm.trans g⟩
theorem higman_Least.e (k : Nat) (x0 : (Int × (Int × ((List (List Int)) × ((List Int) × Unit))))) : higman_Least.f k x0 = higman_Least.R k ([.code higman_Least.body]) (higman_Least.ti.fill [⟨(.pair (.int .i64) (.pair (.int .i64) (.pair (.slice (.slice (.int .i64))) (.pair (.slice (.int .i64)) .unit)))), x0⟩]) := by kernel_rfl
theorem higman_Least.h (k : Nat) (ds : List Dat) (r : Int × (List (List Int))) (h : higman_Least.g k ds = some r) : ∃ k', k' < k ∧ higman_Least.R k' ([.code higman_Least.body]) (higman_Least.ti.fill ds) = some r := by
  cases k with
  | zero => cases (show none = some r from h)
  | succ k =>
  replace h : higman_Least.c k ds = some r := h
  unfold higman_Least.c at h
  obtain ⟨x0, d0, rfl, h0⟩ := pop_some h
  obtain ⟨rfl, g⟩ := popN_some h0
  exact ⟨k, Nat.lt_succ_self k, (higman_Least.e k x0).symm.trans g⟩
theorem higman_Least.o (ds : List Dat) (r : Int × (List (List Int))) (h : higman_Least.out ds = some r) : ds = higman_Least.rs r := by
  unfold higman_Least.out at h
  obtain ⟨x0, d0, rfl, h0⟩ := pop_some h
  obtain ⟨x1, d1, rfl, h1⟩ := pop_some h0
  obtain ⟨rfl, g⟩ := popN_some h1
  cases g
  rfl
theorem higman_Least.fn : FnOk Try.prog 15 Try.f15 higman_Least.body Try.f15.ntmps 1 (fnRes Try.f15) :=
  fnOk_of (by kernel_rfl) (by kernel_rfl) (by kernel_rfl) (by kernel_rfl)
theorem higman_Least.con' : ∀ k ds r, higman_Least.g k ds = some r → Con Try.prog 15 1 higman_Least.ti higman_Least.to ds (higman_Least.rs r) :=
  fun_ok (T := T) T_ok mixed higman_Least.fn (env := higman_Least.env) (tbl := higman_Least.tbl) (gOut := higman_Least.out) (nin := 0) (cuts := []) (fuel := 100000) rfl (by kernel_rfl) (by kernel_rfl) (by kernel_rfl) (fun x hx => by
    simp only [higman_Least.tbl, List.mem_cons, List.not_mem_nil, or_false] at hx
    rcases hx with rfl | rfl
    · exact higman_Least.h13
    · exact higman_Least.h27
) higman_Least.o higman_Least.h (fun k _ => by unfold higman_Least.env; exact (envC_ok (fun ds K r h => by
    obtain ⟨x0, d0, rfl, h0⟩ := pop_some h
    obtain ⟨x1, d1, rfl, h1⟩ := pop_some h0
    obtain ⟨rfl, g⟩ := popN_some h1
    obtain ⟨r1, h1, h2⟩ := bind_some g
    exact ⟨_, h2, slices_ContainsFunc_____int___int__3.con k _ h1⟩) (envC_ok (fun ds K r h => by
    obtain ⟨x0, d0, rfl, h0⟩ := pop_some h
    obtain ⟨x1, d1, rfl, h1⟩ := pop_some h0
    obtain ⟨x2, d2, rfl, h2⟩ := pop_some h1
    obtain ⟨rfl, g⟩ := popN_some h2
    obtain ⟨r1, h1, h2⟩ := bind_some g
    exact ⟨_, h2, det_After.con k _ h1⟩) (envC_ok (fun ds K r h => by
    obtain ⟨x0, d0, rfl, h0⟩ := pop_some h
    obtain ⟨rfl, g⟩ := popN_some h0
    obtain ⟨r1, h1, h2⟩ := bind_some g
    exact ⟨_, h2, slices_Clone___int_int_.con k _ h1⟩) (envC_ok (fun ds K r h => by
    obtain ⟨x0, d0, rfl, h0⟩ := pop_some h
    obtain ⟨rfl, g⟩ := popN_some h0
    obtain ⟨r1, h1, h2⟩ := bind_some g
    exact ⟨_, h2, higman_small.con k _ h1⟩) env0_ok)))))
theorem higman_Least.con (k : Nat) {x0 : (Int × (Int × ((List (List Int)) × ((List Int) × Unit))))} (r : Int × (List (List Int))) (h : higman_Least.f k x0 = some r) : Con Try.prog 15 1 higman_Least.ti higman_Least.to [⟨(.pair (.int .i64) (.pair (.int .i64) (.pair (.slice (.slice (.int .i64))) (.pair (.slice (.int .i64)) .unit)))), x0⟩] (higman_Least.rs r) :=
  higman_Least.con' (k + 1) _ r (by show higman_Least.c k _ = some r; unfold higman_Least.c; simp only [pop_self, popN]; exact h)
mutual
def evermoreref3_Check.l9 : Nat → Int → Int → Int → Int → List (List (Int)) → List (Int) → Option (Int)
 | 0, _, _, _, _, _, _ => none
 | k + 1, n3, i4, d1_0, d1_1, d1_2, d1_3 =>
  if i4 < n3 then
   if 0 ≤ i4 then
   if i4 < (↑d1_2.length : Int) then
    if (↑(Go.Proofs.YtmagglebkbiffaaSx.rd [] d1_2 i4).length : Int) = d1_0 then
      evermoreref3_Check.l9 k n3 (Go.IntKind.i64.wrap (i4 + 1)) d1_0 d1_1 d1_2 d1_3
     else
      some (3)
    else none
   else none
  else
   if d1_1 < 0 then
    some (2)
   else
    if n3 ≤ d1_1 then
     some (2)
    else
     evermoreref3_Check.l16 k n3 0 d1_0 d1_1 d1_2 d1_3
def evermoreref3_Check.l16 : Nat → Int → Int → Int → Int → List (List (Int)) → List (Int) → Option (Int)
 | 0, _, _, _, _, _, _ => none
 | k + 1, n3, i5, d1_0, d1_1, d1_2, d1_3 =>
  if i5 < n3 then
   evermoreref3_Check.l19 k n3 i5 0 d1_0 d1_1 d1_2 d1_3
  else
   evermoreref3_Check.l24 k n3 0 d1_0 d1_1 d1_2 d1_3
def evermoreref3_Check.l19 : Nat → Int → Int → Int → Int → Int → List (List (Int)) → List (Int) → Option (Int)
 | 0, _, _, _, _, _, _, _ => none
 | k + 1, n3, i5, k6, d1_0, d1_1, d1_2, d1_3 =>
  if k6 < d1_0 then
   if 0 ≤ i5 then
   if i5 < (↑d1_2.length : Int) then
    if 0 ≤ k6 then
     if k6 < (↑(Go.Proofs.YtmagglebkbiffaaSx.rd [] d1_2 i5).length : Int) then
      if Go.Proofs.YtmagglebkbiffaaSx.rd (Int.ofNat 0) (Go.Proofs.YtmagglebkbiffaaSx.rd [] d1_2 i5) k6 < 0 then
        some (2)
       else
        if 0 ≤ i5 then
        if i5 < (↑d1_2.length : Int) then
         if 0 ≤ k6 then
          if k6 < (↑(Go.Proofs.YtmagglebkbiffaaSx.rd [] d1_2 i5).length : Int) then
           if n3 ≤ Go.Proofs.YtmagglebkbiffaaSx.rd (Int.ofNat 0) (Go.Proofs.YtmagglebkbiffaaSx.rd [] d1_2 i5) k6 then
             some (2)
            else
             evermoreref3_Check.l19 k n3 i5 (Go.IntKind.i64.wrap (k6 + 1)) d1_0 d1_1 d1_2 d1_3
           else none
          else none
         else none
        else none
      else none
     else none
    else none
   else none
  else
   evermoreref3_Check.l16 k n3 (Go.IntKind.i64.wrap (i5 + 1)) d1_0 d1_1 d1_2 d1_3
def evermoreref3_Check.l24 : Nat → Int → Int → Int → Int → List (List (Int)) → List (Int) → Option (Int)
 | 0, _, _, _, _, _, _ => none
 | k + 1, n3, i7, d1_0, d1_1, d1_2, d1_3 =>
  if i7 < n3 then
   if 0 ≤ i7 then
   if i7 < (↑d1_3.length : Int) then
    if Go.Proofs.YtmagglebkbiffaaSx.rd (Int.ofNat 0) d1_3 i7 = 0 then
      evermoreref3_Check.l24 k n3 (Go.IntKind.i64.wrap (i7 + 1)) d1_0 d1_1 d1_2 d1_3
     else
      if 0 ≤ i7 then
      if i7 < (↑d1_3.length : Int) then
       if Go.Proofs.YtmagglebkbiffaaSx.rd (Int.ofNat 0) d1_3 i7 = 1 then
         evermoreref3_Check.l24 k n3 (Go.IntKind.i64.wrap (i7 + 1)) d1_0 d1_1 d1_2 d1_3
        else
         some (2)
       else none
      else none
    else none
   else none
  else
   some (0)
end
def evermoreref3_Check.f (k : Nat) (d0 : (Int × (Int × (List (List (Int)) × (List (Int) × Unit))))) : Option (Int) :=
 if d0.fst < 1 then
  some (2)
 else
  if 4 < d0.fst then
   some (2)
  else
   if (↑d0.snd.snd.fst.length : Int) < 1 then
    some (1)
   else
    if 3000 < (↑d0.snd.snd.fst.length : Int) then
     some (1)
    else
     if (↑d0.snd.snd.snd.fst.length : Int) = (↑d0.snd.snd.fst.length : Int) then
      evermoreref3_Check.l9 k ((↑d0.snd.snd.fst.length : Int)) 0 d0.fst d0.snd.fst d0.snd.snd.fst d0.snd.snd.snd.fst
     else
      some (3)

noncomputable def evermoreref3_Check.body : Code := fnBody Try.f16
def evermoreref3_Check.ti : Tm := ⟨[(0, .p (.pair (.int .i64) (.pair (.int .i64) (.pair (.slice (.slice (.int .i64))) (.pair (.slice (.int .i64)) .unit)))))], []⟩
def evermoreref3_Check.to : Tm := ⟨[(0, .p (.int .i64))], []⟩
def evermoreref3_Check.rs (r : Int) : List Dat := [⟨(.int .i64), r⟩]
def evermoreref3_Check.out (ds : List Dat) : Option (Int) := pop (.int .i64) ds fun x0 ds => popN ds (some (x0))
def evermoreref3_Check.c (k : Nat) (ds : List Dat) : Option (Int) := pop (.pair (.int .i64) (.pair (.int .i64) (.pair (.slice (.slice (.int .i64))) (.pair (.slice (.int .i64)) .unit)))) ds fun x0 ds => popN ds (evermoreref3_Check.f k x0)
def evermoreref3_Check.g : Nat → List Dat → Option (Int)
 | 0, _ => none
 | k + 1, ds => evermoreref3_Check.c k ds
def evermoreref3_Check.env (k : Nat) : Nat → List SV → List Chunk → KT (Int) → Option (Int) := env0
def evermoreref3_Check.t19 : Tm := ⟨[(1, .ptr 0 0), (3, .p (.int .i64)), (4, .p (.int .i64))], [.box [.p (.int .i64), .p (.int .i64), .p (.slice (.slice (.int .i64))), .p (.slice (.int .i64))] 25]⟩
def evermoreref3_Check.c19 (k : Nat) (ds : List Dat) : Option (Int) := pop (.int .i64) ds fun x0 ds => pop (.int .i64) ds fun x1 ds => pop (.int .i64) ds fun x2 ds => pop (.int .i64) ds fun x3 ds => pop (.slice (.slice (.int .i64))) ds fun x4 ds => pop (.slice (.int .i64)) ds fun x5 ds => popN ds (evermoreref3_Check.l9 k x0 x1 x2 x3 x4 x5)
def evermoreref3_Check.t33 : Tm := ⟨[(1, .ptr 0 0), (3, .p (.int .i64)), (5, .p (.int .i64))], [.box [.p (.int .i64), .p (.int .i64), .p (.slice (.slice (.int .i64))), .p (.slice (.int .i64))] 25]⟩
def evermoreref3_Check.c33 (k : Nat) (ds : List Dat) : Option (Int) := pop (.int .i64) ds fun x0 ds => pop (.int .i64) ds fun x1 ds => pop (.int .i64) ds fun x2 ds => pop (.int .i64) ds fun x3 ds => pop (.slice (.slice (.int .i64))) ds fun x4 ds => pop (.slice (.int .i64)) ds fun x5 ds => popN ds (evermoreref3_Check.l16 k x0 x1 x2 x3 x4 x5)
def evermoreref3_Check.t39 : Tm := ⟨[(1, .ptr 0 0), (3, .p (.int .i64)), (5, .p (.int .i64)), (6, .p (.int .i64))], [.box [.p (.int .i64), .p (.int .i64), .p (.slice (.slice (.int .i64))), .p (.slice (.int .i64))] 25]⟩
def evermoreref3_Check.c39 (k : Nat) (ds : List Dat) : Option (Int) := pop (.int .i64) ds fun x0 ds => pop (.int .i64) ds fun x1 ds => pop (.int .i64) ds fun x2 ds => pop (.int .i64) ds fun x3 ds => pop (.int .i64) ds fun x4 ds => pop (.slice (.slice (.int .i64))) ds fun x5 ds => pop (.slice (.int .i64)) ds fun x6 ds => popN ds (evermoreref3_Check.l19 k x0 x1 x2 x3 x4 x5 x6)
def evermoreref3_Check.t49 : Tm := ⟨[(1, .ptr 0 0), (3, .p (.int .i64)), (7, .p (.int .i64))], [.box [.p (.int .i64), .p (.int .i64), .p (.slice (.slice (.int .i64))), .p (.slice (.int .i64))] 25]⟩
def evermoreref3_Check.c49 (k : Nat) (ds : List Dat) : Option (Int) := pop (.int .i64) ds fun x0 ds => pop (.int .i64) ds fun x1 ds => pop (.int .i64) ds fun x2 ds => pop (.int .i64) ds fun x3 ds => pop (.slice (.slice (.int .i64))) ds fun x4 ds => pop (.slice (.int .i64)) ds fun x5 ds => popN ds (evermoreref3_Check.l24 k x0 x1 x2 x3 x4 x5)
def evermoreref3_Check.tbl : List (Nat × Tm × (Nat → List Dat → Option (Int))) := [(19, evermoreref3_Check.t19, evermoreref3_Check.c19), (33, evermoreref3_Check.t33, evermoreref3_Check.c33), (39, evermoreref3_Check.t39, evermoreref3_Check.c39), (49, evermoreref3_Check.t49, evermoreref3_Check.c49)]
noncomputable abbrev evermoreref3_Check.R (k : Nat) := run T (evermoreref3_Check.env k) Try.f16.ntmps (cutE 0 evermoreref3_Check.tbl k) (finE 0 evermoreref3_Check.to evermoreref3_Check.out) (fnRes Try.f16) [] 100000 true
theorem evermoreref3_Check.e19 (k : Nat) (x0 : Int) (x1 : Int) (x2 : Int) (x3 : Int) (x4 : (List (List Int))) (x5 : (List Int)) : evermoreref3_Check.l9 (k + 1) x0 x1 x2 x3 x4 x5 = evermoreref3_Check.R k (start (stackOf 19 evermoreref3_Check.body)) (evermoreref3_Check.t19.fill [⟨(.int .i64), x0⟩, ⟨(.int .i64), x1⟩, ⟨(.int .i64), x2⟩, ⟨(.int .i64), x3⟩, ⟨(.slice (.slice (.int .i64))), x4⟩, ⟨(.slice (.int .i64)), x5⟩]) := by kernel_rfl
theorem evermoreref3_Check.s19 : stackAt 19 evermoreref3_Check.body [] = some (stackOf 19 evermoreref3_Check.body) := by kernel_rfl
theorem evermoreref3_Check.h19 (k : Nat) (ds : List Dat) (r : Int) (h : evermoreref3_Check.c19 k ds = some r) : ∃ k', k' < k ∧ ∃ s, stackAt 19 evermoreref3_Check.body [] = some s ∧ evermoreref3_Check.R k' (start s) (evermoreref3_Check.t19.fill ds) = some r := by
  unfold evermoreref3_Check.c19 at h
  obtain ⟨x0, d0, rfl, h0⟩ := pop_some h
  obtain ⟨x1, d1, rfl, h1⟩ := pop_some h0
  obtain ⟨x2, d2, rfl, h2⟩ := pop_some h1
  obtain ⟨x3, d3, rfl, h3⟩ := pop_some h2
  obtain ⟨x4, d4, rfl, h4⟩ := pop_some h3
  obtain ⟨x5, d5, rfl, h5⟩ := pop_some h4
  obtain ⟨rfl, g⟩ := popN_some h5
  cases k with
  | zero => cases (show none = some r from g)
  | succ k => exact ⟨k, Nat.lt_succ_self k, _, evermoreref3_Check.s19, (evermoreref3_Check.e19 k x0 x1 x2 x3 x4 x5).symm.trans g⟩
theorem evermoreref3_Check.e33 (k : Nat) (x0 : Int) (x1 : Int) (x2 : Int) (x3 : Int) (x4 : (List (List Int))) (x5 : (List Int)) : evermoreref3_Check.l16 (k + 1) x0 x1 x2 x3 x4 x5 = evermoreref3_Check.R k (start (stackOf 33 evermoreref3_Check.body)) (evermoreref3_Check.t33.fill [⟨(.int .i64), x0⟩, ⟨(.int .i64), x1⟩, ⟨(.int .i64), x2⟩, ⟨(.int .i64), x3⟩, ⟨(.slice (.slice (.int .i64))), x4⟩, ⟨(.slice (.int .i64)), x5⟩]) := by kernel_rfl
theorem evermoreref3_Check.s33 : stackAt 33 evermoreref3_Check.body [] = some (stackOf 33 evermoreref3_Check.body) := by kernel_rfl
theorem evermoreref3_Check.h33 (k : Nat) (ds : List Dat) (r : Int) (h : evermoreref3_Check.c33 k ds = some r) : ∃ k', k' < k ∧ ∃ s, stackAt 33 evermoreref3_Check.body [] = some s ∧ evermoreref3_Check.R k' (start s) (evermoreref3_Check.t33.fill ds) = some r := by
  unfold evermoreref3_Check.c33 at h
  obtain ⟨x0, d0, rfl, h0⟩ := pop_some h
  obtain ⟨x1, d1, rfl, h1⟩ := pop_some h0
  obtain ⟨x2, d2, rfl, h2⟩ := pop_some h1
  obtain ⟨x3, d3, rfl, h3⟩ := pop_some h2
  obtain ⟨x4, d4, rfl, h4⟩ := pop_some h3
  obtain ⟨x5, d5, rfl, h5⟩ := pop_some h4
  obtain ⟨rfl, g⟩ := popN_some h5
  cases k with
  | zero => cases (show none = some r from g)
  | succ k => exact ⟨k, Nat.lt_succ_self k, _, evermoreref3_Check.s33, (evermoreref3_Check.e33 k x0 x1 x2 x3 x4 x5).symm.trans g⟩
theorem evermoreref3_Check.e39 (k : Nat) (x0 : Int) (x1 : Int) (x2 : Int) (x3 : Int) (x4 : Int) (x5 : (List (List Int))) (x6 : (List Int)) : evermoreref3_Check.l19 (k + 1) x0 x1 x2 x3 x4 x5 x6 = evermoreref3_Check.R k (start (stackOf 39 evermoreref3_Check.body)) (evermoreref3_Check.t39.fill [⟨(.int .i64), x0⟩, ⟨(.int .i64), x1⟩, ⟨(.int .i64), x2⟩, ⟨(.int .i64), x3⟩, ⟨(.int .i64), x4⟩, ⟨(.slice (.slice (.int .i64))), x5⟩, ⟨(.slice (.int .i64)), x6⟩]) := by kernel_rfl
theorem evermoreref3_Check.s39 : stackAt 39 evermoreref3_Check.body [] = some (stackOf 39 evermoreref3_Check.body) := by kernel_rfl
theorem evermoreref3_Check.h39 (k : Nat) (ds : List Dat) (r : Int) (h : evermoreref3_Check.c39 k ds = some r) : ∃ k', k' < k ∧ ∃ s, stackAt 39 evermoreref3_Check.body [] = some s ∧ evermoreref3_Check.R k' (start s) (evermoreref3_Check.t39.fill ds) = some r := by
  unfold evermoreref3_Check.c39 at h
  obtain ⟨x0, d0, rfl, h0⟩ := pop_some h
  obtain ⟨x1, d1, rfl, h1⟩ := pop_some h0
  obtain ⟨x2, d2, rfl, h2⟩ := pop_some h1
  obtain ⟨x3, d3, rfl, h3⟩ := pop_some h2
  obtain ⟨x4, d4, rfl, h4⟩ := pop_some h3
  obtain ⟨x5, d5, rfl, h5⟩ := pop_some h4
  obtain ⟨x6, d6, rfl, h6⟩ := pop_some h5
  obtain ⟨rfl, g⟩ := popN_some h6
  cases k with
  | zero => cases (show none = some r from g)
  | succ k => exact ⟨k, Nat.lt_succ_self k, _, evermoreref3_Check.s39, (evermoreref3_Check.e39 k x0 x1 x2 x3 x4 x5 x6).symm.trans g⟩
theorem evermoreref3_Check.e49 (k : Nat) (x0 : Int) (x1 : Int) (x2 : Int) (x3 : Int) (x4 : (List (List Int))) (x5 : (List Int)) : evermoreref3_Check.l24 (k + 1) x0 x1 x2 x3 x4 x5 = evermoreref3_Check.R k (start (stackOf 49 evermoreref3_Check.body)) (evermoreref3_Check.t49.fill [⟨(.int .i64), x0⟩, ⟨(.int .i64), x1⟩, ⟨(.int .i64), x2⟩, ⟨(.int .i64), x3⟩, ⟨(.slice (.slice (.int .i64))), x4⟩, ⟨(.slice (.int .i64)), x5⟩]) := by kernel_rfl
theorem evermoreref3_Check.s49 : stackAt 49 evermoreref3_Check.body [] = some (stackOf 49 evermoreref3_Check.body) := by kernel_rfl
theorem evermoreref3_Check.h49 (k : Nat) (ds : List Dat) (r : Int) (h : evermoreref3_Check.c49 k ds = some r) : ∃ k', k' < k ∧ ∃ s, stackAt 49 evermoreref3_Check.body [] = some s ∧ evermoreref3_Check.R k' (start s) (evermoreref3_Check.t49.fill ds) = some r := by
  unfold evermoreref3_Check.c49 at h
  obtain ⟨x0, d0, rfl, h0⟩ := pop_some h
  obtain ⟨x1, d1, rfl, h1⟩ := pop_some h0
  obtain ⟨x2, d2, rfl, h2⟩ := pop_some h1
  obtain ⟨x3, d3, rfl, h3⟩ := pop_some h2
  obtain ⟨x4, d4, rfl, h4⟩ := pop_some h3
  obtain ⟨x5, d5, rfl, h5⟩ := pop_some h4
  obtain ⟨rfl, g⟩ := popN_some h5
  cases k with
  | zero => cases (show none = some r from g)
  | succ k => exact ⟨k, Nat.lt_succ_self k, _, evermoreref3_Check.s49, (evermoreref3_Check.e49 k x0 x1 x2 x3 x4 x5).symm.trans g⟩
theorem evermoreref3_Check.e (k : Nat) (x0 : (Int × (Int × ((List (List Int)) × ((List Int) × Unit))))) : evermoreref3_Check.f k x0 = evermoreref3_Check.R k ([.code evermoreref3_Check.body]) (evermoreref3_Check.ti.fill [⟨(.pair (.int .i64) (.pair (.int .i64) (.pair (.slice (.slice (.int .i64))) (.pair (.slice (.int .i64)) .unit)))), x0⟩]) := by kernel_rfl
theorem evermoreref3_Check.h (k : Nat) (ds : List Dat) (r : Int) (h : evermoreref3_Check.g k ds = some r) : ∃ k', k' < k ∧ evermoreref3_Check.R k' ([.code evermoreref3_Check.body]) (evermoreref3_Check.ti.fill ds) = some r := by
  cases k with
  | zero => cases (show none = some r from h)
  | succ k =>
  replace h : evermoreref3_Check.c k ds = some r := h
  unfold evermoreref3_Check.c at h
  obtain ⟨x0, d0, rfl, h0⟩ := pop_some h
  obtain ⟨rfl, g⟩ := popN_some h0
  exact ⟨k, Nat.lt_succ_self k, (evermoreref3_Check.e k x0).symm.trans g⟩
theorem evermoreref3_Check.o (ds : List Dat) (r : Int) (h : evermoreref3_Check.out ds = some r) : ds = evermoreref3_Check.rs r := by
  unfold evermoreref3_Check.out at h
  obtain ⟨x0, d0, rfl, h0⟩ := pop_some h
  obtain ⟨rfl, g⟩ := popN_some h0
  cases g
  rfl
theorem evermoreref3_Check.fn : FnOk Try.prog 16 Try.f16 evermoreref3_Check.body Try.f16.ntmps 1 (fnRes Try.f16) :=
  fnOk_of (by kernel_rfl) (by kernel_rfl) (by kernel_rfl) (by kernel_rfl)
theorem evermoreref3_Check.con' : ∀ k ds r, evermoreref3_Check.g k ds = some r → Con Try.prog 16 1 evermoreref3_Check.ti evermoreref3_Check.to ds (evermoreref3_Check.rs r) :=
  fun_ok (T := T) T_ok mixed evermoreref3_Check.fn (env := evermoreref3_Check.env) (tbl := evermoreref3_Check.tbl) (gOut := evermoreref3_Check.out) (nin := 0) (cuts := []) (fuel := 100000) rfl (by kernel_rfl) (by kernel_rfl) (by kernel_rfl) (fun x hx => by
    simp only [evermoreref3_Check.tbl, List.mem_cons, List.not_mem_nil, or_false] at hx
    rcases hx with rfl | rfl | rfl | rfl
    · exact evermoreref3_Check.h19
    · exact evermoreref3_Check.h33
    · exact evermoreref3_Check.h39
    · exact evermoreref3_Check.h49
) evermoreref3_Check.o evermoreref3_Check.h (fun k _ => by unfold evermoreref3_Check.env; exact env0_ok)
theorem evermoreref3_Check.con (k : Nat) {x0 : (Int × (Int × ((List (List Int)) × ((List Int) × Unit))))} (r : Int) (h : evermoreref3_Check.f k x0 = some r) : Con Try.prog 16 1 evermoreref3_Check.ti evermoreref3_Check.to [⟨(.pair (.int .i64) (.pair (.int .i64) (.pair (.slice (.slice (.int .i64))) (.pair (.slice (.int .i64)) .unit)))), x0⟩] (evermoreref3_Check.rs r) :=
  evermoreref3_Check.con' (k + 1) _ r (by show evermoreref3_Check.c k _ = some r; unfold evermoreref3_Check.c; simp only [pop_self, popN]; exact h)
mutual
def evermoreref3_After.l2 : Nat → Int → List (Int) → Int → Int → Int → List (List (Int)) → List (Int) → Option (Int)
 | 0, _, _, _, _, _, _, _ => none
 | k + 1, q1, w2, i7, d3_0, d3_1, d3_2, d3_3 =>
  if i7 < (↑w2.length : Int) then
   if 0 ≤ q1 then
   if q1 < (↑d3_2.length : Int) then
    if 0 ≤ i7 then
     if i7 < (↑w2.length : Int) then
      if 0 ≤ Go.Proofs.YtmagglebkbiffaaSx.rd (Int.ofNat 0) w2 i7 then
       if Go.Proofs.YtmagglebkbiffaaSx.rd (Int.ofNat 0) w2 i7 < (↑(Go.Proofs.YtmagglebkbiffaaSx.rd [] d3_2 q1).length : Int) then
        evermoreref3_After.l2 k (Go.Proofs.YtmagglebkbiffaaSx.rd (Int.ofNat 0) (Go.Proofs.YtmagglebkbiffaaSx.rd [] d3_2 q1) (Go.Proofs.YtmagglebkbiffaaSx.rd (Int.ofNat 0) w2 i7)) w2 (Go.IntKind.i64.wrap (i7 + 1)) d3_0 d3_1 d3_2 d3_3
        else none
       else none
      else none
     else none
    else none
   else none
  else
   some (q1)
end
def evermoreref3_After.f (k : Nat) (d0 : (Int × (Int × (List (List (Int)) × (List (Int) × Unit))))) (q1 : Int) (w2 : List (Int)) : Option (Int) :=
 evermoreref3_After.l2 k q1 w2 0 d0.fst d0.snd.fst d0.snd.snd.fst d0.snd.snd.snd.fst

noncomputable def evermoreref3_After.body : Code := fnBody Try.f76
def evermoreref3_After.ti : Tm := ⟨[(0, .p (.pair (.int .i64) (.pair (.int .i64) (.pair (.slice (.slice (.int .i64))) (.pair (.slice (.int .i64)) .unit))))), (1, .p (.int .i64)), (2, .p (.slice (.int .i64)))], []⟩
def evermoreref3_After.to : Tm := ⟨[(0, .p (.int .i64))], []⟩
def evermoreref3_After.rs (r : Int) : List Dat := [⟨(.int .i64), r⟩]
def evermoreref3_After.out (ds : List Dat) : Option (Int) := pop (.int .i64) ds fun x0 ds => popN ds (some (x0))
def evermoreref3_After.c (k : Nat) (ds : List Dat) : Option (Int) := pop (.pair (.int .i64) (.pair (.int .i64) (.pair (.slice (.slice (.int .i64))) (.pair (.slice (.int .i64)) .unit)))) ds fun x0 ds => pop (.int .i64) ds fun x1 ds => pop (.slice (.int .i64)) ds fun x2 ds => popN ds (evermoreref3_After.f k x0 x1 x2)
def evermoreref3_After.g : Nat → List Dat → Option (Int)
 | 0, _ => none
 | k + 1, ds => evermoreref3_After.c k ds
def evermoreref3_After.env (k : Nat) : Nat → List SV → List Chunk → KT (Int) → Option (Int) := env0
def evermoreref3_After.t5 : Tm := ⟨[(1, .p (.int .i64)), (2, .p (.slice (.int .i64))), (3, .ptr 0 0), (7, .p (.int .i64))], [.box [.p (.int .i64), .p (.int .i64), .p (.slice (.slice (.int .i64))), .p (.slice (.int .i64))] 25]⟩
def evermoreref3_After.c5 (k : Nat) (ds : List Dat) : Option (Int) := pop (.int .i64) ds fun x0 ds => pop (.slice (.int .i64)) ds fun x1 ds => pop (.int .i64) ds fun x2 ds => pop (.int .i64) ds fun x3 ds => pop (.int .i64) ds fun x4 ds => pop (.slice (.slice (.int .i64))) ds fun x5 ds => pop (.slice (.int .i64)) ds fun x6 ds => popN ds (evermoreref3_After.l2 k x0 x1 x2 x3 x4 x5 x6)
def evermoreref3_After.tbl : List (Nat × Tm × (Nat → List Dat → Option (Int))) := [(5, evermoreref3_After.t5, evermoreref3_After.c5)]
noncomputable abbrev evermoreref3_After.R (k : Nat) := run T (evermoreref3_After.env k) Try.f76.ntmps (cutE 0 evermoreref3_After.tbl k) (finE 0 evermoreref3_After.to evermoreref3_After.out) (fnRes Try.f76) [] 100000 true
theorem evermoreref3_After.e5 (k : Nat) (x0 : Int) (x1 : (List Int)) (x2 : Int) (x3 : Int) (x4 : Int) (x5 : (List (List Int))) (x6 : (List Int)) : evermoreref3_After.l2 (k + 1) x0 x1 x2 x3 x4 x5 x6 = evermoreref3_After.R k (start (stackOf 5 evermoreref3_After.body)) (evermoreref3_After.t5.fill [⟨(.int .i64), x0⟩, ⟨(.slice (.int .i64)), x1⟩, ⟨(.int .i64), x2⟩, ⟨(.int .i64), x3⟩, ⟨(.int .i64), x4⟩, ⟨(.slice (.slice (.int .i64))), x5⟩, ⟨(.slice (.int .i64)), x6⟩]) := by kernel_rfl
theorem evermoreref3_After.s5 : stackAt 5 evermoreref3_After.body [] = some (stackOf 5 evermoreref3_After.body) := by kernel_rfl
theorem evermoreref3_After.h5 (k : Nat) (ds : List Dat) (r : Int) (h : evermoreref3_After.c5 k ds = some r) : ∃ k', k' < k ∧ ∃ s, stackAt 5 evermoreref3_After.body [] = some s ∧ evermoreref3_After.R k' (start s) (evermoreref3_After.t5.fill ds) = some r := by
  unfold evermoreref3_After.c5 at h
  obtain ⟨x0, d0, rfl, h0⟩ := pop_some h
  obtain ⟨x1, d1, rfl, h1⟩ := pop_some h0
  obtain ⟨x2, d2, rfl, h2⟩ := pop_some h1
  obtain ⟨x3, d3, rfl, h3⟩ := pop_some h2
  obtain ⟨x4, d4, rfl, h4⟩ := pop_some h3
  obtain ⟨x5, d5, rfl, h5⟩ := pop_some h4
  obtain ⟨x6, d6, rfl, h6⟩ := pop_some h5
  obtain ⟨rfl, g⟩ := popN_some h6
  cases k with
  | zero => cases (show none = some r from g)
  | succ k => exact ⟨k, Nat.lt_succ_self k, _, evermoreref3_After.s5, (evermoreref3_After.e5 k x0 x1 x2 x3 x4 x5 x6).symm.trans g⟩
theorem evermoreref3_After.e (k : Nat) (x0 : (Int × (Int × ((List (List Int)) × ((List Int) × Unit))))) (x1 : Int) (x2 : (List Int)) : evermoreref3_After.f k x0 x1 x2 = evermoreref3_After.R k ([.code evermoreref3_After.body]) (evermoreref3_After.ti.fill [⟨(.pair (.int .i64) (.pair (.int .i64) (.pair (.slice (.slice (.int .i64))) (.pair (.slice (.int .i64)) .unit)))), x0⟩, ⟨(.int .i64), x1⟩, ⟨(.slice (.int .i64)), x2⟩]) := by kernel_rfl
theorem evermoreref3_After.h (k : Nat) (ds : List Dat) (r : Int) (h : evermoreref3_After.g k ds = some r) : ∃ k', k' < k ∧ evermoreref3_After.R k' ([.code evermoreref3_After.body]) (evermoreref3_After.ti.fill ds) = some r := by
  cases k with
  | zero => cases (show none = some r from h)
  | succ k =>
  replace h : evermoreref3_After.c k ds = some r := h
  unfold evermoreref3_After.c at h
  obtain ⟨x0, d0, rfl, h0⟩ := pop_some h
  obtain ⟨x1, d1, rfl, h1⟩ := pop_some h0
  obtain ⟨x2, d2, rfl, h2⟩ := pop_some h1
  obtain ⟨rfl, g⟩ := popN_some h2
  exact ⟨k, Nat.lt_succ_self k, (evermoreref3_After.e k x0 x1 x2).symm.trans g⟩
theorem evermoreref3_After.o (ds : List Dat) (r : Int) (h : evermoreref3_After.out ds = some r) : ds = evermoreref3_After.rs r := by
  unfold evermoreref3_After.out at h
  obtain ⟨x0, d0, rfl, h0⟩ := pop_some h
  obtain ⟨rfl, g⟩ := popN_some h0
  cases g
  rfl
theorem evermoreref3_After.fn : FnOk Try.prog 76 Try.f76 evermoreref3_After.body Try.f76.ntmps 3 (fnRes Try.f76) :=
  fnOk_of (by kernel_rfl) (by kernel_rfl) (by kernel_rfl) (by kernel_rfl)
theorem evermoreref3_After.con' : ∀ k ds r, evermoreref3_After.g k ds = some r → Con Try.prog 76 3 evermoreref3_After.ti evermoreref3_After.to ds (evermoreref3_After.rs r) :=
  fun_ok (T := T) T_ok mixed evermoreref3_After.fn (env := evermoreref3_After.env) (tbl := evermoreref3_After.tbl) (gOut := evermoreref3_After.out) (nin := 0) (cuts := []) (fuel := 100000) rfl (by kernel_rfl) (by kernel_rfl) (by kernel_rfl) (fun x hx => by
    simp only [evermoreref3_After.tbl, List.mem_cons, List.not_mem_nil, or_false] at hx
    subst hx
    · exact evermoreref3_After.h5
) evermoreref3_After.o evermoreref3_After.h (fun k _ => by unfold evermoreref3_After.env; exact env0_ok)
theorem evermoreref3_After.con (k : Nat) {x0 : (Int × (Int × ((List (List Int)) × ((List Int) × Unit))))} {x1 : Int} {x2 : (List Int)} (r : Int) (h : evermoreref3_After.f k x0 x1 x2 = some r) : Con Try.prog 76 3 evermoreref3_After.ti evermoreref3_After.to [⟨(.pair (.int .i64) (.pair (.int .i64) (.pair (.slice (.slice (.int .i64))) (.pair (.slice (.int .i64)) .unit)))), x0⟩, ⟨(.int .i64), x1⟩, ⟨(.slice (.int .i64)), x2⟩] (evermoreref3_After.rs r) :=
  evermoreref3_After.con' (k + 1) _ r (by show evermoreref3_After.c k _ = some r; unfold evermoreref3_After.c; simp only [pop_self, popN]; exact h)
def evermoreref3_Accepts.f (k : Nat) (d0 : (Int × (Int × (List (List (Int)) × (List (Int) × Unit))))) (w1 : List (Int)) : Option (Bool) :=
 (evermoreref3_After.f k (d0.fst, d0.snd.fst, d0.snd.snd.fst, d0.snd.snd.snd.fst, ()) d0.snd.fst w1).bind fun r_1 =>
  if 0 ≤ r_1 then
  if r_1 < (↑d0.snd.snd.snd.fst.length : Int) then
   some (decide (Go.Proofs.YtmagglebkbiffaaSx.rd (Int.ofNat 0) d0.snd.snd.snd.fst r_1 = 1))
   else none
  else none

noncomputable def evermoreref3_Accepts.body : Code := fnBody Try.f20
def evermoreref3_Accepts.ti : Tm := ⟨[(0, .p (.pair (.int .i64) (.pair (.int .i64) (.pair (.slice (.slice (.int .i64))) (.pair (.slice (.int .i64)) .unit))))), (1, .p (.slice (.int .i64)))], []⟩
def evermoreref3_Accepts.to : Tm := ⟨[(0, .p .bool)], []⟩
def evermoreref3_Accepts.rs (r : Bool) : List Dat := [⟨.bool, r⟩]
def evermoreref3_Accepts.out (ds : List Dat) : Option (Bool) := pop .bool ds fun x0 ds => popN ds (some (x0))
def evermoreref3_Accepts.c (k : Nat) (ds : List Dat) : Option (Bool) := pop (.pair (.int .i64) (.pair (.int .i64) (.pair (.slice (.slice (.int .i64))) (.pair (.slice (.int .i64)) .unit)))) ds fun x0 ds => pop (.slice (.int .i64)) ds fun x1 ds => popN ds (evermoreref3_Accepts.f k x0 x1)
def evermoreref3_Accepts.g : Nat → List Dat → Option (Bool)
 | 0, _ => none
 | k + 1, ds => evermoreref3_Accepts.c k ds
def evermoreref3_Accepts.env (k : Nat) : Nat → List SV → List Chunk → KT (Bool) → Option (Bool) := (envC 76 3 evermoreref3_After.ti evermoreref3_After.to (fun ds K => pop (.pair (.int .i64) (.pair (.int .i64) (.pair (.slice (.slice (.int .i64))) (.pair (.slice (.int .i64)) .unit)))) ds fun x0 ds => pop (.int .i64) ds fun x1 ds => pop (.slice (.int .i64)) ds fun x2 ds => popN ds ((evermoreref3_After.f k x0 x1 x2).bind fun r => K (evermoreref3_After.rs r))) env0)
def evermoreref3_Accepts.tbl : List (Nat × Tm × (Nat → List Dat → Option (Bool))) := []
noncomputable abbrev evermoreref3_Accepts.R (k : Nat) := run T (evermoreref3_Accepts.env k) Try.f20.ntmps (cutE 0 evermoreref3_Accepts.tbl k) (finE 0 evermoreref3_Accepts.to evermoreref3_Accepts.out) (fnRes Try.f20) [] 100000 true
theorem evermoreref3_Accepts.e (k : Nat) (x0 : (Int × (Int × ((List (List Int)) × ((List Int) × Unit))))) (x1 : (List Int)) : evermoreref3_Accepts.f k x0 x1 = evermoreref3_Accepts.R k ([.code evermoreref3_Accepts.body]) (evermoreref3_Accepts.ti.fill [⟨(.pair (.int .i64) (.pair (.int .i64) (.pair (.slice (.slice (.int .i64))) (.pair (.slice (.int .i64)) .unit)))), x0⟩, ⟨(.slice (.int .i64)), x1⟩]) := by kernel_rfl
theorem evermoreref3_Accepts.h (k : Nat) (ds : List Dat) (r : Bool) (h : evermoreref3_Accepts.g k ds = some r) : ∃ k', k' < k ∧ evermoreref3_Accepts.R k' ([.code evermoreref3_Accepts.body]) (evermoreref3_Accepts.ti.fill ds) = some r := by
  cases k with
  | zero => cases (show none = some r from h)
  | succ k =>
  replace h : evermoreref3_Accepts.c k ds = some r := h
  unfold evermoreref3_Accepts.c at h
  obtain ⟨x0, d0, rfl, h0⟩ := pop_some h
  obtain ⟨x1, d1, rfl, h1⟩ := pop_some h0
  obtain ⟨rfl, g⟩ := popN_some h1
  exact ⟨k, Nat.lt_succ_self k, (evermoreref3_Accepts.e k x0 x1).symm.trans g⟩
theorem evermoreref3_Accepts.o (ds : List Dat) (r : Bool) (h : evermoreref3_Accepts.out ds = some r) : ds = evermoreref3_Accepts.rs r := by
  unfold evermoreref3_Accepts.out at h
  obtain ⟨x0, d0, rfl, h0⟩ := pop_some h
  obtain ⟨rfl, g⟩ := popN_some h0
  cases g
  rfl
theorem evermoreref3_Accepts.fn : FnOk Try.prog 20 Try.f20 evermoreref3_Accepts.body Try.f20.ntmps 2 (fnRes Try.f20) :=
  fnOk_of (by kernel_rfl) (by kernel_rfl) (by kernel_rfl) (by kernel_rfl)
theorem evermoreref3_Accepts.con' : ∀ k ds r, evermoreref3_Accepts.g k ds = some r → Con Try.prog 20 2 evermoreref3_Accepts.ti evermoreref3_Accepts.to ds (evermoreref3_Accepts.rs r) :=
  fun_ok (T := T) T_ok mixed evermoreref3_Accepts.fn (env := evermoreref3_Accepts.env) (tbl := evermoreref3_Accepts.tbl) (gOut := evermoreref3_Accepts.out) (nin := 0) (cuts := []) (fuel := 100000) rfl (by kernel_rfl) (by kernel_rfl) (by kernel_rfl) (fun x hx => by simp [evermoreref3_Accepts.tbl] at hx) evermoreref3_Accepts.o evermoreref3_Accepts.h (fun k _ => by unfold evermoreref3_Accepts.env; exact (envC_ok (fun ds K r h => by
    obtain ⟨x0, d0, rfl, h0⟩ := pop_some h
    obtain ⟨x1, d1, rfl, h1⟩ := pop_some h0
    obtain ⟨x2, d2, rfl, h2⟩ := pop_some h1
    obtain ⟨rfl, g⟩ := popN_some h2
    obtain ⟨r1, h1, h2⟩ := bind_some g
    exact ⟨_, h2, evermoreref3_After.con k _ h1⟩) env0_ok))
theorem evermoreref3_Accepts.con (k : Nat) {x0 : (Int × (Int × ((List (List Int)) × ((List Int) × Unit))))} {x1 : (List Int)} (r : Bool) (h : evermoreref3_Accepts.f k x0 x1 = some r) : Con Try.prog 20 2 evermoreref3_Accepts.ti evermoreref3_Accepts.to [⟨(.pair (.int .i64) (.pair (.int .i64) (.pair (.slice (.slice (.int .i64))) (.pair (.slice (.int .i64)) .unit)))), x0⟩, ⟨(.slice (.int .i64)), x1⟩] (evermoreref3_Accepts.rs r) :=
  evermoreref3_Accepts.con' (k + 1) _ r (by show evermoreref3_Accepts.c k _ = some r; unfold evermoreref3_Accepts.c; simp only [pop_self, popN]; exact h)
mutual
def evermoreref32_Within.l4 : Nat → List (Int) → List (Int) → Int → Int → List (Int) → Option (Bool × List Int)
 | 0, _, _, _, _, _ => none
 | k + 1, u0, v1, at7, i8, places6 =>
  if i8 < (↑u0.length : Int) then
   evermoreref32_Within.l6 k u0 v1 at7 i8 places6
  else
   some (true, places6)
def evermoreref32_Within.l6 : Nat → List (Int) → List (Int) → Int → Int → List (Int) → Option (Bool × List Int)
 | 0, _, _, _, _, _ => none
 | k + 1, u0, v1, at7, i8, places6 =>
  if at7 < (↑v1.length : Int) then
   if 0 ≤ at7 then
   if at7 < (↑v1.length : Int) then
    if 0 ≤ i8 then
     if i8 < (↑u0.length : Int) then
      if Go.Proofs.YtmagglebkbiffaaSx.rd (Int.ofNat 0) v1 at7 = Go.Proofs.YtmagglebkbiffaaSx.rd (Int.ofNat 0) u0 i8 then
        if at7 = (↑v1.length : Int) then
         some (false, [])
        else
         if Go.Proofs.YtmagglebkbiffaaSx.fitsIn (places6 ++ [at7]).length 8 = true then
         evermoreref32_Within.l4 k u0 v1 (Go.IntKind.i64.wrap (at7 + 1)) (Go.IntKind.i64.wrap (i8 + 1)) (places6 ++ [at7])
         else none
       else
        evermoreref32_Within.l6 k u0 v1 (Go.IntKind.i64.wrap (at7 + 1)) i8 places6
      else none
     else none
    else none
   else none
  else
   if at7 = (↑v1.length : Int) then
    some (false, [])
   else
    if Go.Proofs.YtmagglebkbiffaaSx.fitsIn (places6 ++ [at7]).length 8 = true then
    evermoreref32_Within.l4 k u0 v1 (Go.IntKind.i64.wrap (at7 + 1)) (Go.IntKind.i64.wrap (i8 + 1)) (places6 ++ [at7])
    else none
end
def evermoreref32_Within.f (k : Nat) (u0 : List (Int)) (v1 : List (Int)) : Option (Bool × List Int) :=
 evermoreref32_Within.l4 k u0 v1 0 0 []

noncomputable def evermoreref32_Within.body : Code := fnBody Try.f21
def evermoreref32_Within.ti : Tm := ⟨[(0, .p (.slice (.int .i64))), (1, .p (.slice (.int .i64)))], []⟩
def evermoreref32_Within.to : Tm := ⟨[(0, .own 0), (1, .p .bool)], [.own (.int .i64)]⟩
def evermoreref32_Within.rs (r : Bool × (List Int)) : List Dat := [⟨.bool, r.1⟩, ⟨(.slice (.int .i64)), r.2⟩]
def evermoreref32_Within.out (ds : List Dat) : Option (Bool × (List Int)) := pop .bool ds fun x0 ds => pop (.slice (.int .i64)) ds fun x1 ds => popN ds (some (x0, x1))
def evermoreref32_Within.c (k : Nat) (ds : List Dat) : Option (Bool × (List Int)) := pop (.slice (.int .i64)) ds fun x0 ds => pop (.slice (.int .i64)) ds fun x1 ds => popN ds (evermoreref32_Within.f k x0 x1)
def evermoreref32_Within.g : Nat → List Dat → Option (Bool × (List Int))
 | 0, _ => none
 | k + 1, ds => evermoreref32_Within.c k ds
def evermoreref32_Within.env (k : Nat) : Nat → List SV → List Chunk → KT (Bool × (List Int)) → Option (Bool × (List Int)) := env0
def evermoreref32_Within.t9 : Tm := ⟨[(0, .p (.slice (.int .i64))), (1, .p (.slice (.int .i64))), (6, .own 0), (7, .p (.int .i64)), (8, .p (.int .i64))], [.own (.int .i64)]⟩
def evermoreref32_Within.c9 (k : Nat) (ds : List Dat) : Option (Bool × (List Int)) := pop (.slice (.int .i64)) ds fun x0 ds => pop (.slice (.int .i64)) ds fun x1 ds => pop (.int .i64) ds fun x2 ds => pop (.int .i64) ds fun x3 ds => pop (.slice (.int .i64)) ds fun x4 ds => popN ds (evermoreref32_Within.l4 k x0 x1 x2 x3 x4)
def evermoreref32_Within.t13 : Tm := ⟨[(0, .p (.slice (.int .i64))), (1, .p (.slice (.int .i64))), (6, .own 0), (7, .p (.int .i64)), (8, .p (.int .i64))], [.own (.int .i64)]⟩
def evermoreref32_Within.c13 (k : Nat) (ds : List Dat) : Option (Bool × (List Int)) := pop (.slice (.int .i64)) ds fun x0 ds => pop (.slice (.int .i64)) ds fun x1 ds => pop (.int .i64) ds fun x2 ds => pop (.int .i64) ds fun x3 ds => pop (.slice (.int .i64)) ds fun x4 ds => popN ds (evermoreref32_Within.l6 k x0 x1 x2 x3 x4)
def evermoreref32_Within.tbl : List (Nat × Tm × (Nat → List Dat → Option (Bool × (List Int)))) := [(9, evermoreref32_Within.t9, evermoreref32_Within.c9), (13, evermoreref32_Within.t13, evermoreref32_Within.c13)]
noncomputable abbrev evermoreref32_Within.R (k : Nat) := run T (evermoreref32_Within.env k) Try.f21.ntmps (cutE 0 evermoreref32_Within.tbl k) (finE 0 evermoreref32_Within.to evermoreref32_Within.out) (fnRes Try.f21) [] 100000 true
theorem evermoreref32_Within.e9 (k : Nat) (x0 : (List Int)) (x1 : (List Int)) (x2 : Int) (x3 : Int) (x4 : (List Int)) : evermoreref32_Within.l4 (k + 1) x0 x1 x2 x3 x4 = evermoreref32_Within.R k (start (stackOf 9 evermoreref32_Within.body)) (evermoreref32_Within.t9.fill [⟨(.slice (.int .i64)), x0⟩, ⟨(.slice (.int .i64)), x1⟩, ⟨(.int .i64), x2⟩, ⟨(.int .i64), x3⟩, ⟨(.slice (.int .i64)), x4⟩]) := by kernel_rfl
theorem evermoreref32_Within.s9 : stackAt 9 evermoreref32_Within.body [] = some (stackOf 9 evermoreref32_Within.body) := by kernel_rfl
theorem evermoreref32_Within.h9 (k : Nat) (ds : List Dat) (r : Bool × (List Int)) (h : evermoreref32_Within.c9 k ds = some r) : ∃ k', k' < k ∧ ∃ s, stackAt 9 evermoreref32_Within.body [] = some s ∧ evermoreref32_Within.R k' (start s) (evermoreref32_Within.t9.fill ds) = some r := by
  unfold evermoreref32_Within.c9 at h
  obtain ⟨x0, d0, rfl, h0⟩ := pop_some h
  obtain ⟨x1, d1, rfl, h1⟩ := pop_some h0
  obtain ⟨x2, d2, rfl, h2⟩ := pop_some h1
  obtain ⟨x3, d3, rfl, h3⟩ := pop_some h2
  obtain ⟨x4, d4, rfl, h4⟩ := pop_some h3
  obtain ⟨rfl, g⟩ := popN_some h4
  cases k with
  | zero => cases (show none = some r from g)
  | succ k => exact ⟨k, Nat.lt_succ_self k, _, evermoreref32_Within.s9, (evermoreref32_Within.e9 k x0 x1 x2 x3 x4).symm.trans g⟩
theorem evermoreref32_Within.e13 (k : Nat) (x0 : (List Int)) (x1 : (List Int)) (x2 : Int) (x3 : Int) (x4 : (List Int)) : evermoreref32_Within.l6 (k + 1) x0 x1 x2 x3 x4 = evermoreref32_Within.R k (start (stackOf 13 evermoreref32_Within.body)) (evermoreref32_Within.t13.fill [⟨(.slice (.int .i64)), x0⟩, ⟨(.slice (.int .i64)), x1⟩, ⟨(.int .i64), x2⟩, ⟨(.int .i64), x3⟩, ⟨(.slice (.int .i64)), x4⟩]) := by kernel_rfl
theorem evermoreref32_Within.s13 : stackAt 13 evermoreref32_Within.body [] = some (stackOf 13 evermoreref32_Within.body) := by kernel_rfl
theorem evermoreref32_Within.h13 (k : Nat) (ds : List Dat) (r : Bool × (List Int)) (h : evermoreref32_Within.c13 k ds = some r) : ∃ k', k' < k ∧ ∃ s, stackAt 13 evermoreref32_Within.body [] = some s ∧ evermoreref32_Within.R k' (start s) (evermoreref32_Within.t13.fill ds) = some r := by
  unfold evermoreref32_Within.c13 at h
  obtain ⟨x0, d0, rfl, h0⟩ := pop_some h
  obtain ⟨x1, d1, rfl, h1⟩ := pop_some h0
  obtain ⟨x2, d2, rfl, h2⟩ := pop_some h1
  obtain ⟨x3, d3, rfl, h3⟩ := pop_some h2
  obtain ⟨x4, d4, rfl, h4⟩ := pop_some h3
  obtain ⟨rfl, g⟩ := popN_some h4
  cases k with
  | zero => cases (show none = some r from g)
  | succ k => exact ⟨k, Nat.lt_succ_self k, _, evermoreref32_Within.s13, (evermoreref32_Within.e13 k x0 x1 x2 x3 x4).symm.trans g⟩
theorem evermoreref32_Within.e (k : Nat) (x0 : (List Int)) (x1 : (List Int)) : evermoreref32_Within.f k x0 x1 = evermoreref32_Within.R k ([.code evermoreref32_Within.body]) (evermoreref32_Within.ti.fill [⟨(.slice (.int .i64)), x0⟩, ⟨(.slice (.int .i64)), x1⟩]) := by kernel_rfl
theorem evermoreref32_Within.h (k : Nat) (ds : List Dat) (r : Bool × (List Int)) (h : evermoreref32_Within.g k ds = some r) : ∃ k', k' < k ∧ evermoreref32_Within.R k' ([.code evermoreref32_Within.body]) (evermoreref32_Within.ti.fill ds) = some r := by
  cases k with
  | zero => cases (show none = some r from h)
  | succ k =>
  replace h : evermoreref32_Within.c k ds = some r := h
  unfold evermoreref32_Within.c at h
  obtain ⟨x0, d0, rfl, h0⟩ := pop_some h
  obtain ⟨x1, d1, rfl, h1⟩ := pop_some h0
  obtain ⟨rfl, g⟩ := popN_some h1
  exact ⟨k, Nat.lt_succ_self k, (evermoreref32_Within.e k x0 x1).symm.trans g⟩
theorem evermoreref32_Within.o (ds : List Dat) (r : Bool × (List Int)) (h : evermoreref32_Within.out ds = some r) : ds = evermoreref32_Within.rs r := by
  unfold evermoreref32_Within.out at h
  obtain ⟨x0, d0, rfl, h0⟩ := pop_some h
  obtain ⟨x1, d1, rfl, h1⟩ := pop_some h0
  obtain ⟨rfl, g⟩ := popN_some h1
  cases g
  rfl
theorem evermoreref32_Within.fn : FnOk Try.prog 21 Try.f21 evermoreref32_Within.body Try.f21.ntmps 2 (fnRes Try.f21) :=
  fnOk_of (by kernel_rfl) (by kernel_rfl) (by kernel_rfl) (by kernel_rfl)
theorem evermoreref32_Within.con' : ∀ k ds r, evermoreref32_Within.g k ds = some r → Con Try.prog 21 2 evermoreref32_Within.ti evermoreref32_Within.to ds (evermoreref32_Within.rs r) :=
  fun_ok (T := T) T_ok mixed evermoreref32_Within.fn (env := evermoreref32_Within.env) (tbl := evermoreref32_Within.tbl) (gOut := evermoreref32_Within.out) (nin := 0) (cuts := []) (fuel := 100000) rfl (by kernel_rfl) (by kernel_rfl) (by kernel_rfl) (fun x hx => by
    simp only [evermoreref32_Within.tbl, List.mem_cons, List.not_mem_nil, or_false] at hx
    rcases hx with rfl | rfl
    · exact evermoreref32_Within.h9
    · exact evermoreref32_Within.h13
) evermoreref32_Within.o evermoreref32_Within.h (fun k _ => by unfold evermoreref32_Within.env; exact env0_ok)
theorem evermoreref32_Within.con (k : Nat) {x0 : (List Int)} {x1 : (List Int)} (r : Bool × (List Int)) (h : evermoreref32_Within.f k x0 x1 = some r) : Con Try.prog 21 2 evermoreref32_Within.ti evermoreref32_Within.to [⟨(.slice (.int .i64)), x0⟩, ⟨(.slice (.int .i64)), x1⟩] (evermoreref32_Within.rs r) :=
  evermoreref32_Within.con' (k + 1) _ r (by show evermoreref32_Within.c k _ = some r; unfold evermoreref32_Within.c; simp only [pop_self, popN]; exact h)
mutual
def evermoreref1_Next.l3 : Nat → Int → Int → List (Int) → Option (List Int)
 | 0, _, _, _ => none
 | k + 1, letters0, i6, out5 =>
  if 0 ≤ i6 then
   if 0 ≤ i6 then
   if i6 < (↑out5.length : Int) then
    if out5.getD i6.toNat (Int.ofNat 0) < Go.IntKind.i64.wrap (letters0 - 1) then
      if 0 ≤ i6 then
      if i6 < (↑out5.length : Int) then
       if 0 ≤ i6 then
        if i6 < (↑out5.length : Int) then
         some (out5.set i6.toNat (Go.IntKind.i64.wrap (out5.getD i6.toNat (Int.ofNat 0) + 1)))
         else none
        else none
       else none
      else none
     else
      if 0 ≤ i6 then
      if i6 < (↑out5.length : Int) then
       evermoreref1_Next.l3 k letters0 (Go.IntKind.i64.wrap (i6 - 1)) (out5.set i6.toNat (Int.ofNat 0))
       else none
      else none
    else none
   else none
  else
   if Go.Proofs.YtmagglebkbiffaaSx.fitsIn (out5 ++ [Int.ofNat 0]).length 8 = true then
   some (out5 ++ [Int.ofNat 0])
   else none
end
def evermoreref1_Next.f (k : Nat) (letters0 : Int) (w1 : List (Int)) : Option (List Int) :=
 if Go.Proofs.YtmagglebkbiffaaSx.fitsIn ([] ++ w1).length 8 = true then
 evermoreref1_Next.l3 k letters0 (Go.IntKind.i64.wrap ((↑([] ++ w1).length : Int) - 1)) ([] ++ w1)
 else none

noncomputable def evermoreref1_Next.body : Code := fnBody Try.f75
def evermoreref1_Next.ti : Tm := ⟨[(0, .p (.int .i64)), (1, .p (.slice (.int .i64)))], []⟩
def evermoreref1_Next.to : Tm := ⟨[(0, .own 0)], [.own (.int .i64)]⟩
def evermoreref1_Next.rs (r : (List Int)) : List Dat := [⟨(.slice (.int .i64)), r⟩]
def evermoreref1_Next.out (ds : List Dat) : Option ((List Int)) := pop (.slice (.int .i64)) ds fun x0 ds => popN ds (some (x0))
def evermoreref1_Next.c (k : Nat) (ds : List Dat) : Option ((List Int)) := pop (.int .i64) ds fun x0 ds => pop (.slice (.int .i64)) ds fun x1 ds => popN ds (evermoreref1_Next.f k x0 x1)
def evermoreref1_Next.g : Nat → List Dat → Option ((List Int))
 | 0, _ => none
 | k + 1, ds => evermoreref1_Next.c k ds
def evermoreref1_Next.env (k : Nat) : Nat → List SV → List Chunk → KT ((List Int)) → Option ((List Int)) := env0
def evermoreref1_Next.t7 : Tm := ⟨[(0, .p (.int .i64)), (5, .own 0), (6, .p (.int .i64))], [.own (.int .i64)]⟩
def evermoreref1_Next.c7 (k : Nat) (ds : List Dat) : Option ((List Int)) := pop (.int .i64) ds fun x0 ds => pop (.int .i64) ds fun x1 ds => pop (.slice (.int .i64)) ds fun x2 ds => popN ds (evermoreref1_Next.l3 k x0 x1 x2)
def evermoreref1_Next.tbl : List (Nat × Tm × (Nat → List Dat → Option ((List Int)))) := [(7, evermoreref1_Next.t7, evermoreref1_Next.c7)]
noncomputable abbrev evermoreref1_Next.R (k : Nat) := run T (evermoreref1_Next.env k) Try.f75.ntmps (cutE 0 evermoreref1_Next.tbl k) (finE 0 evermoreref1_Next.to evermoreref1_Next.out) (fnRes Try.f75) [] 100000 true
theorem evermoreref1_Next.e7 (k : Nat) (x0 : Int) (x1 : Int) (x2 : (List Int)) : evermoreref1_Next.l3 (k + 1) x0 x1 x2 = evermoreref1_Next.R k (start (stackOf 7 evermoreref1_Next.body)) (evermoreref1_Next.t7.fill [⟨(.int .i64), x0⟩, ⟨(.int .i64), x1⟩, ⟨(.slice (.int .i64)), x2⟩]) := by kernel_rfl
theorem evermoreref1_Next.s7 : stackAt 7 evermoreref1_Next.body [] = some (stackOf 7 evermoreref1_Next.body) := by kernel_rfl
theorem evermoreref1_Next.h7 (k : Nat) (ds : List Dat) (r : (List Int)) (h : evermoreref1_Next.c7 k ds = some r) : ∃ k', k' < k ∧ ∃ s, stackAt 7 evermoreref1_Next.body [] = some s ∧ evermoreref1_Next.R k' (start s) (evermoreref1_Next.t7.fill ds) = some r := by
  unfold evermoreref1_Next.c7 at h
  obtain ⟨x0, d0, rfl, h0⟩ := pop_some h
  obtain ⟨x1, d1, rfl, h1⟩ := pop_some h0
  obtain ⟨x2, d2, rfl, h2⟩ := pop_some h1
  obtain ⟨rfl, g⟩ := popN_some h2
  cases k with
  | zero => cases (show none = some r from g)
  | succ k => exact ⟨k, Nat.lt_succ_self k, _, evermoreref1_Next.s7, (evermoreref1_Next.e7 k x0 x1 x2).symm.trans g⟩
theorem evermoreref1_Next.e (k : Nat) (x0 : Int) (x1 : (List Int)) : evermoreref1_Next.f k x0 x1 = evermoreref1_Next.R k ([.code evermoreref1_Next.body]) (evermoreref1_Next.ti.fill [⟨(.int .i64), x0⟩, ⟨(.slice (.int .i64)), x1⟩]) := by kernel_rfl
theorem evermoreref1_Next.h (k : Nat) (ds : List Dat) (r : (List Int)) (h : evermoreref1_Next.g k ds = some r) : ∃ k', k' < k ∧ evermoreref1_Next.R k' ([.code evermoreref1_Next.body]) (evermoreref1_Next.ti.fill ds) = some r := by
  cases k with
  | zero => cases (show none = some r from h)
  | succ k =>
  replace h : evermoreref1_Next.c k ds = some r := h
  unfold evermoreref1_Next.c at h
  obtain ⟨x0, d0, rfl, h0⟩ := pop_some h
  obtain ⟨x1, d1, rfl, h1⟩ := pop_some h0
  obtain ⟨rfl, g⟩ := popN_some h1
  exact ⟨k, Nat.lt_succ_self k, (evermoreref1_Next.e k x0 x1).symm.trans g⟩
theorem evermoreref1_Next.o (ds : List Dat) (r : (List Int)) (h : evermoreref1_Next.out ds = some r) : ds = evermoreref1_Next.rs r := by
  unfold evermoreref1_Next.out at h
  obtain ⟨x0, d0, rfl, h0⟩ := pop_some h
  obtain ⟨rfl, g⟩ := popN_some h0
  cases g
  rfl
theorem evermoreref1_Next.fn : FnOk Try.prog 75 Try.f75 evermoreref1_Next.body Try.f75.ntmps 2 (fnRes Try.f75) :=
  fnOk_of (by kernel_rfl) (by kernel_rfl) (by kernel_rfl) (by kernel_rfl)
theorem evermoreref1_Next.con' : ∀ k ds r, evermoreref1_Next.g k ds = some r → Con Try.prog 75 2 evermoreref1_Next.ti evermoreref1_Next.to ds (evermoreref1_Next.rs r) :=
  fun_ok (T := T) T_ok mixed evermoreref1_Next.fn (env := evermoreref1_Next.env) (tbl := evermoreref1_Next.tbl) (gOut := evermoreref1_Next.out) (nin := 0) (cuts := []) (fuel := 100000) rfl (by kernel_rfl) (by kernel_rfl) (by kernel_rfl) (fun x hx => by
    simp only [evermoreref1_Next.tbl, List.mem_cons, List.not_mem_nil, or_false] at hx
    subst hx
    · exact evermoreref1_Next.h7
) evermoreref1_Next.o evermoreref1_Next.h (fun k _ => by unfold evermoreref1_Next.env; exact env0_ok)
theorem evermoreref1_Next.con (k : Nat) {x0 : Int} {x1 : (List Int)} (r : (List Int)) (h : evermoreref1_Next.f k x0 x1 = some r) : Con Try.prog 75 2 evermoreref1_Next.ti evermoreref1_Next.to [⟨(.int .i64), x0⟩, ⟨(.slice (.int .i64)), x1⟩] (evermoreref1_Next.rs r) :=
  evermoreref1_Next.con' (k + 1) _ r (by show evermoreref1_Next.c k _ = some r; unfold evermoreref1_Next.c; simp only [pop_self, popN]; exact h)
mutual
def evermoreref32_Least.l3 : Nat → Int → Int → List (List (Int)) → List (Int) → List (List (Int)) → List (Int) → Option (List (List Int))
 | 0, _, _, _, _, _, _ => none
 | k + 1, d1_0, d1_1, d1_2, d1_3, out3, w4 =>
  if (↑w4.length : Int) < (↑d1_2.length : Int) then
   (evermoreref3_Accepts.f k (d1_0, d1_1, d1_2, d1_3, ()) w4).bind fun r_3 =>
    evermoreref32_Least.l6 k r_3 0 d1_0 d1_1 d1_2 d1_3 out3 w4
  else
   some (out3)
def evermoreref32_Least.l6 : Nat → Bool → Int → Int → Int → List (List (Int)) → List (Int) → List (List (Int)) → List (Int) → Option (List (List Int))
 | 0, _, _, _, _, _, _, _, _ => none
 | k + 1, is5, i6, d1_0, d1_1, d1_2, d1_3, out3, w4 =>
  if i6 < (↑out3.length : Int) then
   if is5 = true then
    if 0 ≤ i6 then
    if i6 < (↑out3.length : Int) then
     (evermoreref32_Within.f k (out3.getD i6.toNat []) w4).bind fun r_6 =>
       evermoreref32_Least.l6 k (!r_6.fst) (Go.IntKind.i64.wrap (i6 + 1)) d1_0 d1_1 d1_2 d1_3 out3 w4
     else none
    else none
   else
    if is5 = true then
     if Go.Proofs.YtmagglebkbiffaaSx.fitsIn (out3 ++ [w4]).length 24 = true then
     evermoreref32_Least.j12 k w4 d1_0 d1_1 d1_2 d1_3 (out3 ++ [w4])
     else none
    else
     evermoreref32_Least.j12 k w4 d1_0 d1_1 d1_2 d1_3 out3
  else
   if is5 = true then
    if Go.Proofs.YtmagglebkbiffaaSx.fitsIn (out3 ++ [w4]).length 24 = true then
    evermoreref32_Least.j12 k w4 d1_0 d1_1 d1_2 d1_3 (out3 ++ [w4])
    else none
   else
    evermoreref32_Least.j12 k w4 d1_0 d1_1 d1_2 d1_3 out3
def evermoreref32_Least.j12 : Nat → List (Int) → Int → Int → List (List (Int)) → List (Int) → List (List (Int)) → Option (List (List Int))
 | 0, _, _, _, _, _, _ => none
 | k + 1, w4, d1_0, d1_1, d1_2, d1_3, out3 =>
  (evermoreref1_Next.f k d1_0 w4).bind fun r_2 =>
   evermoreref32_Least.l3 k d1_0 d1_1 d1_2 d1_3 out3 r_2
end
def evermoreref32_Least.f (k : Nat) (d0 : (Int × (Int × (List (List (Int)) × (List (Int) × Unit))))) : Option (List (List Int)) :=
 evermoreref32_Least.l3 k d0.fst d0.snd.fst d0.snd.snd.fst d0.snd.snd.snd.fst [] []

noncomputable def evermoreref32_Least.body : Code := fnBody Try.f17
def evermoreref32_Least.ti : Tm := ⟨[(0, .p (.pair (.int .i64) (.pair (.int .i64) (.pair (.slice (.slice (.int .i64))) (.pair (.slice (.int .i64)) .unit)))))], []⟩
def evermoreref32_Least.to : Tm := ⟨[(0, .own 0)], [.own (.slice (.int .i64))]⟩
def evermoreref32_Least.rs (r : (List (List Int))) : List Dat := [⟨(.slice (.slice (.int .i64))), r⟩]
def evermoreref32_Least.out (ds : List Dat) : Option ((List (List Int))) := pop (.slice (.slice (.int .i64))) ds fun x0 ds => popN ds (some (x0))
def evermoreref32_Least.c (k : Nat) (ds : List Dat) : Option ((List (List Int))) := pop (.pair (.int .i64) (.pair (.int .i64) (.pair (.slice (.slice (.int .i64))) (.pair (.slice (.int .i64)) .unit)))) ds fun x0 ds => popN ds (evermoreref32_Least.f k x0)
def evermoreref32_Least.g : Nat → List Dat → Option ((List (List Int)))
 | 0, _ => none
 | k + 1, ds => evermoreref32_Least.c k ds
def evermoreref32_Least.env (k : Nat) : Nat → List SV → List Chunk → KT ((List (List Int))) → Option ((List (List Int))) := (envC 20 2 evermoreref3_Accepts.ti evermoreref3_Accepts.to (fun ds K => pop (.pair (.int .i64) (.pair (.int .i64) (.pair (.slice (.slice (.int .i64))) (.pair (.slice (.int .i64)) .unit)))) ds fun x0 ds => pop (.slice (.int .i64)) ds fun x1 ds => popN ds ((evermoreref3_Accepts.f k x0 x1).bind fun r => K (evermoreref3_Accepts.rs r))) (envC 21 2 evermoreref32_Within.ti evermoreref32_Within.to (fun ds K => pop (.slice (.int .i64)) ds fun x0 ds => pop (.slice (.int .i64)) ds fun x1 ds => popN ds ((evermoreref32_Within.f k x0 x1).bind fun r => K (evermoreref32_Within.rs r))) (envC 75 2 evermoreref1_Next.ti evermoreref1_Next.to (fun ds K => pop (.int .i64) ds fun x0 ds => pop (.slice (.int .i64)) ds fun x1 ds => popN ds ((evermoreref1_Next.f k x0 x1).bind fun r => K (evermoreref1_Next.rs r))) env0)))
def evermoreref32_Least.t7 : Tm := ⟨[(1, .ptr 0 0), (3, .own 1), (4, .own 2)], [.box [.p (.int .i64), .p (.int .i64), .p (.slice (.slice (.int .i64))), .p (.slice (.int .i64))] 25, .own (.slice (.int .i64)), .own (.int .i64)]⟩
def evermoreref32_Least.c7 (k : Nat) (ds : List Dat) : Option ((List (List Int))) := pop (.int .i64) ds fun x0 ds => pop (.int .i64) ds fun x1 ds => pop (.slice (.slice (.int .i64))) ds fun x2 ds => pop (.slice (.int .i64)) ds fun x3 ds => pop (.slice (.slice (.int .i64))) ds fun x4 ds => pop (.slice (.int .i64)) ds fun x5 ds => popN ds (evermoreref32_Least.l3 k x0 x1 x2 x3 x4 x5)
def evermoreref32_Least.t13 : Tm := ⟨[(1, .ptr 0 0), (3, .own 1), (4, .own 2), (5, .p .bool), (6, .p (.int .i64))], [.box [.p (.int .i64), .p (.int .i64), .p (.slice (.slice (.int .i64))), .p (.slice (.int .i64))] 25, .own (.slice (.int .i64)), .own (.int .i64)]⟩
def evermoreref32_Least.c13 (k : Nat) (ds : List Dat) : Option ((List (List Int))) := pop .bool ds fun x0 ds => pop (.int .i64) ds fun x1 ds => pop (.int .i64) ds fun x2 ds => pop (.int .i64) ds fun x3 ds => pop (.slice (.slice (.int .i64))) ds fun x4 ds => pop (.slice (.int .i64)) ds fun x5 ds => pop (.slice (.slice (.int .i64))) ds fun x6 ds => pop (.slice (.int .i64)) ds fun x7 ds => popN ds (evermoreref32_Least.l6 k x0 x1 x2 x3 x4 x5 x6 x7)
def evermoreref32_Least.t24 : Tm := ⟨[(1, .ptr 0 0), (3, .own 1), (4, .p (.slice (.int .i64)))], [.box [.p (.int .i64), .p (.int .i64), .p (.slice (.slice (.int .i64))), .p (.slice (.int .i64))] 25, .own (.slice (.int .i64))]⟩
def evermoreref32_Least.c24 (k : Nat) (ds : List Dat) : Option ((List (List Int))) := pop (.slice (.int .i64)) ds fun x0 ds => pop (.int .i64) ds fun x1 ds => pop (.int .i64) ds fun x2 ds => pop (.slice (.slice (.int .i64))) ds fun x3 ds => pop (.slice (.int .i64)) ds fun x4 ds => pop (.slice (.slice (.int .i64))) ds fun x5 ds => popN ds (evermoreref32_Least.j12 k x0 x1 x2 x3 x4 x5)
def evermoreref32_Least.tbl : List (Nat × Tm × (Nat → List Dat → Option ((List (List Int))))) := [(7, evermoreref32_Least.t7, evermoreref32_Least.c7), (13, evermoreref32_Least.t13, evermoreref32_Least.c13), (24, evermoreref32_Least.t24, evermoreref32_Least.c24)]
noncomputable abbrev evermoreref32_Least.R (k : Nat) := run T (evermoreref32_Least.env k) Try.f17.ntmps (cutE 0 evermoreref32_Least.tbl k) (finE 0 evermoreref32_Least.to evermoreref32_Least.out) (fnRes Try.f17) [12] 100000 true
theorem evermoreref32_Least.e7 (k : Nat) (x0 : Int) (x1 : Int) (x2 : (List (List Int))) (x3 : (List Int)) (x4 : (List (List Int))) (x5 : (List Int)) : evermoreref32_Least.l3 (k + 1) x0 x1 x2 x3 x4 x5 = evermoreref32_Least.R k (start (stackOf 7 evermoreref32_Least.body)) (evermoreref32_Least.t7.fill [⟨(.int .i64), x0⟩, ⟨(.int .i64), x1⟩, ⟨(.slice (.slice (.int .i64))), x2⟩, ⟨(.slice (.int .i64)), x3⟩, ⟨(.slice (.slice (.int .i64))), x4⟩, ⟨(.slice (.int .i64)), x5⟩]) := by kernel_rfl
theorem evermoreref32_Least.s7 : stackAt 7 evermoreref32_Least.body [] = some (stackOf 7 evermoreref32_Least.body) := by kernel_rfl
theorem evermoreref32_Least.h7 (k : Nat) (ds : List Dat) (r : (List (List Int))) (h : evermoreref32_Least.c7 k ds = some r) : ∃ k', k' < k ∧ ∃ s, stackAt 7 evermoreref32_Least.body [] = some s ∧ evermoreref32_Least.R k' (start s) (evermoreref32_Least.t7.fill ds) = some r := by
  unfold evermoreref32_Least.c7 at h
  obtain ⟨x0, d0, rfl, h0⟩ := pop_some h
  obtain ⟨x1, d1, rfl, h1⟩ := pop_some h0
  obtain ⟨x2, d2, rfl, h2⟩ := pop_some h1
  obtain ⟨x3, d3, rfl, h3⟩ := pop_some h2
  obtain ⟨x4, d4, rfl, h4⟩ := pop_some h3
  obtain ⟨x5, d5, rfl, h5⟩ := pop_some h4
  obtain ⟨rfl, g⟩ := popN_some h5
  cases k with
  | zero => cases (show none = some r from g)
  | succ k => exact ⟨k, Nat.lt_succ_self k, _, evermoreref32_Least.s7, (evermoreref32_Least.e7 k x0 x1 x2 x3 x4 x5).symm.trans g⟩
theorem evermoreref32_Least.e13 (k : Nat) (x0 : Bool) (x1 : Int) (x2 : Int) (x3 : Int) (x4 : (List (List Int))) (x5 : (List Int)) (x6 : (List (List Int))) (x7 : (List Int)) : evermoreref32_Least.l6 (k + 1) x0 x1 x2 x3 x4 x5 x6 x7 = evermoreref32_Least.R k (start (stackOf 13 evermoreref32_Least.body)) (evermoreref32_Least.t13.fill [⟨.bool, x0⟩, ⟨(.int .i64), x1⟩, ⟨(.int .i64), x2⟩, ⟨(.int .i64), x3⟩, ⟨(.slice (.slice (.int .i64))), x4⟩, ⟨(.slice (.int .i64)), x5⟩, ⟨(.slice (.slice (.int .i64))), x6⟩, ⟨(.slice (.int .i64)), x7⟩]) := by kernel_rfl
theorem evermoreref32_Least.s13 : stackAt 13 evermoreref32_Least.body [] = some (stackOf 13 evermoreref32_Least.body) := by kernel_rfl
theorem evermoreref32_Least.h13 (k : Nat) (ds : List Dat) (r : (List (List Int))) (h : evermoreref32_Least.c13 k ds = some r) : ∃ k', k' < k ∧ ∃ s, stackAt 13 evermoreref32_Least.body [] = some s ∧ evermoreref32_Least.R k' (start s) (evermoreref32_Least.t13.fill ds) = some r := by
  unfold evermoreref32_Least.c13 at h
  obtain ⟨x0, d0, rfl, h0⟩ := pop_some h
  obtain ⟨x1, d1, rfl, h1⟩ := pop_some h0
  obtain ⟨x2, d2, rfl, h2⟩ := pop_some h1
  obtain ⟨x3, d3, rfl, h3⟩ := pop_some h2
  obtain ⟨x4, d4, rfl, h4⟩ := pop_some h3
  obtain ⟨x5, d5, rfl, h5⟩ := pop_some h4
  obtain ⟨x6, d6, rfl, h6⟩ := pop_some h5
  obtain ⟨x7, d7, rfl, h7⟩ := pop_some h6
  obtain ⟨rfl, g⟩ := popN_some h7
  cases k with
  | zero => cases (show none = some r from g)
  | succ k => exact ⟨k, Nat.lt_succ_self k, _, evermoreref32_Least.s13, (evermoreref32_Least.e13 k x0 x1 x2 x3 x4 x5 x6 x7).symm.trans g⟩
theorem evermoreref32_Least.e24 (k : Nat) (x0 : (List Int)) (x1 : Int) (x2 : Int) (x3 : (List (List Int))) (x4 : (List Int)) (x5 : (List (List Int))) : evermoreref32_Least.j12 (k + 1) x0 x1 x2 x3 x4 x5 = evermoreref32_Least.R k (start (stackOf 24 evermoreref32_Least.body)) (evermoreref32_Least.t24.fill [⟨(.slice (.int .i64)), x0⟩, ⟨(.int .i64), x1⟩, ⟨(.int .i64), x2⟩, ⟨(.slice (.slice (.int .i64))), x3⟩, ⟨(.slice (.int .i64)), x4⟩, ⟨(.slice (.slice (.int .i64))), x5⟩]) := by kernel_rfl
theorem evermoreref32_Least.s24 : stackAt 24 evermoreref32_Least.body [] = some (stackOf 24 evermoreref32_Least.body) := by kernel_rfl
theorem evermoreref32_Least.h24 (k : Nat) (ds : List Dat) (r : (List (List Int))) (h : evermoreref32_Least.c24 k ds = some r) : ∃ k', k' < k ∧ ∃ s, stackAt 24 evermoreref32_Least.body [] = some s ∧ evermoreref32_Least.R k' (start s) (evermoreref32_Least.t24.fill ds) = some r := by
  unfold evermoreref32_Least.c24 at h
  obtain ⟨x0, d0, rfl, h0⟩ := pop_some h
  obtain ⟨x1, d1, rfl, h1⟩ := pop_some h0
  obtain ⟨x2, d2, rfl, h2⟩ := pop_some h1
  obtain ⟨x3, d3, rfl, h3⟩ := pop_some h2
  obtain ⟨x4, d4, rfl, h4⟩ := pop_some h3
  obtain ⟨x5, d5, rfl, h5⟩ := pop_some h4
  obtain ⟨rfl, g⟩ := popN_some h5
  cases k with
  | zero => cases (show none = some r from g)
  | succ k => exact ⟨k, Nat.lt_succ_self k, _, evermoreref32_Least.s24, (evermoreref32_Least.e24 k x0 x1 x2 x3 x4 x5).symm.trans g⟩
theorem evermoreref32_Least.e (k : Nat) (x0 : (Int × (Int × ((List (List Int)) × ((List Int) × Unit))))) : evermoreref32_Least.f k x0 = evermoreref32_Least.R k ([.code evermoreref32_Least.body]) (evermoreref32_Least.ti.fill [⟨(.pair (.int .i64) (.pair (.int .i64) (.pair (.slice (.slice (.int .i64))) (.pair (.slice (.int .i64)) .unit)))), x0⟩]) := by kernel_rfl
theorem evermoreref32_Least.h (k : Nat) (ds : List Dat) (r : (List (List Int))) (h : evermoreref32_Least.g k ds = some r) : ∃ k', k' < k ∧ evermoreref32_Least.R k' ([.code evermoreref32_Least.body]) (evermoreref32_Least.ti.fill ds) = some r := by
  cases k with
  | zero => cases (show none = some r from h)
  | succ k =>
  replace h : evermoreref32_Least.c k ds = some r := h
  unfold evermoreref32_Least.c at h
  obtain ⟨x0, d0, rfl, h0⟩ := pop_some h
  obtain ⟨rfl, g⟩ := popN_some h0
  exact ⟨k, Nat.lt_succ_self k, (evermoreref32_Least.e k x0).symm.trans g⟩
theorem evermoreref32_Least.o (ds : List Dat) (r : (List (List Int))) (h : evermoreref32_Least.out ds = some r) : ds = evermoreref32_Least.rs r := by
  unfold evermoreref32_Least.out at h
  obtain ⟨x0, d0, rfl, h0⟩ := pop_some h
  obtain ⟨rfl, g⟩ := popN_some h0
  cases g
  rfl
theorem evermoreref32_Least.fn : FnOk Try.prog 17 Try.f17 evermoreref32_Least.body Try.f17.ntmps 1 (fnRes Try.f17) :=
  fnOk_of (by kernel_rfl) (by kernel_rfl) (by kernel_rfl) (by kernel_rfl)
theorem evermoreref32_Least.con' : ∀ k ds r, evermoreref32_Least.g k ds = some r → Con Try.prog 17 1 evermoreref32_Least.ti evermoreref32_Least.to ds (evermoreref32_Least.rs r) :=
  fun_ok (T := T) T_ok mixed evermoreref32_Least.fn (env := evermoreref32_Least.env) (tbl := evermoreref32_Least.tbl) (gOut := evermoreref32_Least.out) (nin := 0) (cuts := [12]) (fuel := 100000) rfl (by kernel_rfl) (by kernel_rfl) (by kernel_rfl) (fun x hx => by
    simp only [evermoreref32_Least.tbl, List.mem_cons, List.not_mem_nil, or_false] at hx
    rcases hx with rfl | rfl | rfl
    · exact evermoreref32_Least.h7
    · exact evermoreref32_Least.h13
    · exact evermoreref32_Least.h24
) evermoreref32_Least.o evermoreref32_Least.h (fun k _ => by unfold evermoreref32_Least.env; exact (envC_ok (fun ds K r h => by
    obtain ⟨x0, d0, rfl, h0⟩ := pop_some h
    obtain ⟨x1, d1, rfl, h1⟩ := pop_some h0
    obtain ⟨rfl, g⟩ := popN_some h1
    obtain ⟨r1, h1, h2⟩ := bind_some g
    exact ⟨_, h2, evermoreref3_Accepts.con k _ h1⟩) (envC_ok (fun ds K r h => by
    obtain ⟨x0, d0, rfl, h0⟩ := pop_some h
    obtain ⟨x1, d1, rfl, h1⟩ := pop_some h0
    obtain ⟨rfl, g⟩ := popN_some h1
    obtain ⟨r1, h1, h2⟩ := bind_some g
    exact ⟨_, h2, evermoreref32_Within.con k _ h1⟩) (envC_ok (fun ds K r h => by
    obtain ⟨x0, d0, rfl, h0⟩ := pop_some h
    obtain ⟨x1, d1, rfl, h1⟩ := pop_some h0
    obtain ⟨rfl, g⟩ := popN_some h1
    obtain ⟨r1, h1, h2⟩ := bind_some g
    exact ⟨_, h2, evermoreref1_Next.con k _ h1⟩) env0_ok))))
theorem evermoreref32_Least.con (k : Nat) {x0 : (Int × (Int × ((List (List Int)) × ((List Int) × Unit))))} (r : (List (List Int))) (h : evermoreref32_Least.f k x0 = some r) : Con Try.prog 17 1 evermoreref32_Least.ti evermoreref32_Least.to [⟨(.pair (.int .i64) (.pair (.int .i64) (.pair (.slice (.slice (.int .i64))) (.pair (.slice (.int .i64)) .unit)))), x0⟩] (evermoreref32_Least.rs r) :=
  evermoreref32_Least.con' (k + 1) _ r (by show evermoreref32_Least.c k _ = some r; unfold evermoreref32_Least.c; simp only [pop_self, popN]; exact h)
mutual
def evermoreref1_Words.l4 : Nat → List (Int) → List (Int) → Int → Option (Bool)
 | 0, _, _, _ => none
 | k + 1, a0, b1, i5 =>
  if i5 < (↑a0.length : Int) then
   if 0 ≤ i5 then
   if i5 < (↑a0.length : Int) then
    if 0 ≤ i5 then
     if i5 < (↑b1.length : Int) then
      if Go.Proofs.YtmagglebkbiffaaSx.rd (Int.ofNat 0) a0 i5 = Go.Proofs.YtmagglebkbiffaaSx.rd (Int.ofNat 0) b1 i5 then
        evermoreref1_Words.l4 k a0 b1 (Go.IntKind.i64.wrap (i5 + 1))
       else
        some (false)
      else none
     else none
    else none
   else none
  else
   some (true)
end
def evermoreref1_Words.f (k : Nat) (a0 : List (Int)) (b1 : List (Int)) : Option (Bool) :=
 if (↑a0.length : Int) = (↑b1.length : Int) then
  evermoreref1_Words.l4 k a0 b1 0
 else
  some (false)

noncomputable def evermoreref1_Words.body : Code := fnBody Try.f25
def evermoreref1_Words.ti : Tm := ⟨[(0, .p (.slice (.int .i64))), (1, .p (.slice (.int .i64)))], []⟩
def evermoreref1_Words.to : Tm := ⟨[(0, .p .bool)], []⟩
def evermoreref1_Words.rs (r : Bool) : List Dat := [⟨.bool, r⟩]
def evermoreref1_Words.out (ds : List Dat) : Option (Bool) := pop .bool ds fun x0 ds => popN ds (some (x0))
def evermoreref1_Words.c (k : Nat) (ds : List Dat) : Option (Bool) := pop (.slice (.int .i64)) ds fun x0 ds => pop (.slice (.int .i64)) ds fun x1 ds => popN ds (evermoreref1_Words.f k x0 x1)
def evermoreref1_Words.g : Nat → List Dat → Option (Bool)
 | 0, _ => none
 | k + 1, ds => evermoreref1_Words.c k ds
def evermoreref1_Words.env (k : Nat) : Nat → List SV → List Chunk → KT (Bool) → Option (Bool) := env0
def evermoreref1_Words.t9 : Tm := ⟨[(0, .p (.slice (.int .i64))), (1, .p (.slice (.int .i64))), (5, .p (.int .i64))], []⟩
def evermoreref1_Words.c9 (k : Nat) (ds : List Dat) : Option (Bool) := pop (.slice (.int .i64)) ds fun x0 ds => pop (.slice (.int .i64)) ds fun x1 ds => pop (.int .i64) ds fun x2 ds => popN ds (evermoreref1_Words.l4 k x0 x1 x2)
def evermoreref1_Words.tbl : List (Nat × Tm × (Nat → List Dat → Option (Bool))) := [(9, evermoreref1_Words.t9, evermoreref1_Words.c9)]
noncomputable abbrev evermoreref1_Words.R (k : Nat) := run T (evermoreref1_Words.env k) Try.f25.ntmps (cutE 0 evermoreref1_Words.tbl k) (finE 0 evermoreref1_Words.to evermoreref1_Words.out) (fnRes Try.f25) [] 100000 true
theorem evermoreref1_Words.e9 (k : Nat) (x0 : (List Int)) (x1 : (List Int)) (x2 : Int) : evermoreref1_Words.l4 (k + 1) x0 x1 x2 = evermoreref1_Words.R k (start (stackOf 9 evermoreref1_Words.body)) (evermoreref1_Words.t9.fill [⟨(.slice (.int .i64)), x0⟩, ⟨(.slice (.int .i64)), x1⟩, ⟨(.int .i64), x2⟩]) := by kernel_rfl
theorem evermoreref1_Words.s9 : stackAt 9 evermoreref1_Words.body [] = some (stackOf 9 evermoreref1_Words.body) := by kernel_rfl
theorem evermoreref1_Words.h9 (k : Nat) (ds : List Dat) (r : Bool) (h : evermoreref1_Words.c9 k ds = some r) : ∃ k', k' < k ∧ ∃ s, stackAt 9 evermoreref1_Words.body [] = some s ∧ evermoreref1_Words.R k' (start s) (evermoreref1_Words.t9.fill ds) = some r := by
  unfold evermoreref1_Words.c9 at h
  obtain ⟨x0, d0, rfl, h0⟩ := pop_some h
  obtain ⟨x1, d1, rfl, h1⟩ := pop_some h0
  obtain ⟨x2, d2, rfl, h2⟩ := pop_some h1
  obtain ⟨rfl, g⟩ := popN_some h2
  cases k with
  | zero => cases (show none = some r from g)
  | succ k => exact ⟨k, Nat.lt_succ_self k, _, evermoreref1_Words.s9, (evermoreref1_Words.e9 k x0 x1 x2).symm.trans g⟩
theorem evermoreref1_Words.e (k : Nat) (x0 : (List Int)) (x1 : (List Int)) : evermoreref1_Words.f k x0 x1 = evermoreref1_Words.R k ([.code evermoreref1_Words.body]) (evermoreref1_Words.ti.fill [⟨(.slice (.int .i64)), x0⟩, ⟨(.slice (.int .i64)), x1⟩]) := by kernel_rfl
theorem evermoreref1_Words.h (k : Nat) (ds : List Dat) (r : Bool) (h : evermoreref1_Words.g k ds = some r) : ∃ k', k' < k ∧ evermoreref1_Words.R k' ([.code evermoreref1_Words.body]) (evermoreref1_Words.ti.fill ds) = some r := by
  cases k with
  | zero => cases (show none = some r from h)
  | succ k =>
  replace h : evermoreref1_Words.c k ds = some r := h
  unfold evermoreref1_Words.c at h
  obtain ⟨x0, d0, rfl, h0⟩ := pop_some h
  obtain ⟨x1, d1, rfl, h1⟩ := pop_some h0
  obtain ⟨rfl, g⟩ := popN_some h1
  exact ⟨k, Nat.lt_succ_self k, (evermoreref1_Words.e k x0 x1).symm.trans g⟩
theorem evermoreref1_Words.o (ds : List Dat) (r : Bool) (h : evermoreref1_Words.out ds = some r) : ds = evermoreref1_Words.rs r := by
  unfold evermoreref1_Words.out at h
  obtain ⟨x0, d0, rfl, h0⟩ := pop_some h
  obtain ⟨rfl, g⟩ := popN_some h0
  cases g
  rfl
theorem evermoreref1_Words.fn : FnOk Try.prog 25 Try.f25 evermoreref1_Words.body Try.f25.ntmps 2 (fnRes Try.f25) :=
  fnOk_of (by kernel_rfl) (by kernel_rfl) (by kernel_rfl) (by kernel_rfl)
theorem evermoreref1_Words.con' : ∀ k ds r, evermoreref1_Words.g k ds = some r → Con Try.prog 25 2 evermoreref1_Words.ti evermoreref1_Words.to ds (evermoreref1_Words.rs r) :=
  fun_ok (T := T) T_ok mixed evermoreref1_Words.fn (env := evermoreref1_Words.env) (tbl := evermoreref1_Words.tbl) (gOut := evermoreref1_Words.out) (nin := 0) (cuts := []) (fuel := 100000) rfl (by kernel_rfl) (by kernel_rfl) (by kernel_rfl) (fun x hx => by
    simp only [evermoreref1_Words.tbl, List.mem_cons, List.not_mem_nil, or_false] at hx
    subst hx
    · exact evermoreref1_Words.h9
) evermoreref1_Words.o evermoreref1_Words.h (fun k _ => by unfold evermoreref1_Words.env; exact env0_ok)
theorem evermoreref1_Words.con (k : Nat) {x0 : (List Int)} {x1 : (List Int)} (r : Bool) (h : evermoreref1_Words.f k x0 x1 = some r) : Con Try.prog 25 2 evermoreref1_Words.ti evermoreref1_Words.to [⟨(.slice (.int .i64)), x0⟩, ⟨(.slice (.int .i64)), x1⟩] (evermoreref1_Words.rs r) :=
  evermoreref1_Words.con' (k + 1) _ r (by show evermoreref1_Words.c k _ = some r; unfold evermoreref1_Words.c; simp only [pop_self, popN]; exact h)
mutual
def evermorelaw_sameLists.l4 : Nat → List (List (Int)) → List (List (Int)) → Int → Option (Bool)
 | 0, _, _, _ => none
 | k + 1, a0, b1, i5 =>
  if i5 < (↑a0.length : Int) then
   if 0 ≤ i5 then
   if i5 < (↑a0.length : Int) then
    if 0 ≤ i5 then
     if i5 < (↑b1.length : Int) then
      (evermoreref1_Words.f k (Go.Proofs.YtmagglebkbiffaaSx.rd [] a0 i5) (Go.Proofs.YtmagglebkbiffaaSx.rd [] b1 i5)).bind fun r_7 =>
        if r_7 = true then
         evermorelaw_sameLists.l4 k a0 b1 (Go.IntKind.i64.wrap (i5 + 1))
        else
         some (false)
      else none
     else none
    else none
   else none
  else
   some (true)
end
def evermorelaw_sameLists.f (k : Nat) (a0 : List (List (Int))) (b1 : List (List (Int))) : Option (Bool) :=
 if (↑a0.length : Int) = (↑b1.length : Int) then
  evermorelaw_sameLists.l4 k a0 b1 0
 else
  some (false)

noncomputable def evermorelaw_sameLists.body : Code := fnBody Try.f18
def evermorelaw_sameLists.ti : Tm := ⟨[(0, .p (.slice (.slice (.int .i64)))), (1, .p (.slice (.slice (.int .i64))))], []⟩
def evermorelaw_sameLists.to : Tm := ⟨[(0, .p .bool)], []⟩
def evermorelaw_sameLists.rs (r : Bool) : List Dat := [⟨.bool, r⟩]
def evermorelaw_sameLists.out (ds : List Dat) : Option (Bool) := pop .bool ds fun x0 ds => popN ds (some (x0))
def evermorelaw_sameLists.c (k : Nat) (ds : List Dat) : Option (Bool) := pop (.slice (.slice (.int .i64))) ds fun x0 ds => pop (.slice (.slice (.int .i64))) ds fun x1 ds => popN ds (evermorelaw_sameLists.f k x0 x1)
def evermorelaw_sameLists.g : Nat → List Dat → Option (Bool)
 | 0, _ => none
 | k + 1, ds => evermorelaw_sameLists.c k ds
def evermorelaw_sameLists.env (k : Nat) : Nat → List SV → List Chunk → KT (Bool) → Option (Bool) := (envC 25 2 evermoreref1_Words.ti evermoreref1_Words.to (fun ds K => pop (.slice (.int .i64)) ds fun x0 ds => pop (.slice (.int .i64)) ds fun x1 ds => popN ds ((evermoreref1_Words.f k x0 x1).bind fun r => K (evermoreref1_Words.rs r))) env0)
def evermorelaw_sameLists.t9 : Tm := ⟨[(0, .p (.slice (.slice (.int .i64)))), (1, .p (.slice (.slice (.int .i64)))), (5, .p (.int .i64))], []⟩
def evermorelaw_sameLists.c9 (k : Nat) (ds : List Dat) : Option (Bool) := pop (.slice (.slice (.int .i64))) ds fun x0 ds => pop (.slice (.slice (.int .i64))) ds fun x1 ds => pop (.int .i64) ds fun x2 ds => popN ds (evermorelaw_sameLists.l4 k x0 x1 x2)
def evermorelaw_sameLists.tbl : List (Nat × Tm × (Nat → List Dat → Option (Bool))) := [(9, evermorelaw_sameLists.t9, evermorelaw_sameLists.c9)]
noncomputable abbrev evermorelaw_sameLists.R (k : Nat) := run T (evermorelaw_sameLists.env k) Try.f18.ntmps (cutE 0 evermorelaw_sameLists.tbl k) (finE 0 evermorelaw_sameLists.to evermorelaw_sameLists.out) (fnRes Try.f18) [] 100000 true
theorem evermorelaw_sameLists.e9 (k : Nat) (x0 : (List (List Int))) (x1 : (List (List Int))) (x2 : Int) : evermorelaw_sameLists.l4 (k + 1) x0 x1 x2 = evermorelaw_sameLists.R k (start (stackOf 9 evermorelaw_sameLists.body)) (evermorelaw_sameLists.t9.fill [⟨(.slice (.slice (.int .i64))), x0⟩, ⟨(.slice (.slice (.int .i64))), x1⟩, ⟨(.int .i64), x2⟩]) := by kernel_rfl
theorem evermorelaw_sameLists.s9 : stackAt 9 evermorelaw_sameLists.body [] = some (stackOf 9 evermorelaw_sameLists.body) := by kernel_rfl
theorem evermorelaw_sameLists.h9 (k : Nat) (ds : List Dat) (r : Bool) (h : evermorelaw_sameLists.c9 k ds = some r) : ∃ k', k' < k ∧ ∃ s, stackAt 9 evermorelaw_sameLists.body [] = some s ∧ evermorelaw_sameLists.R k' (start s) (evermorelaw_sameLists.t9.fill ds) = some r := by
  unfold evermorelaw_sameLists.c9 at h
  obtain ⟨x0, d0, rfl, h0⟩ := pop_some h
  obtain ⟨x1, d1, rfl, h1⟩ := pop_some h0
  obtain ⟨x2, d2, rfl, h2⟩ := pop_some h1
  obtain ⟨rfl, g⟩ := popN_some h2
  cases k with
  | zero => cases (show none = some r from g)
  | succ k => exact ⟨k, Nat.lt_succ_self k, _, evermorelaw_sameLists.s9, (evermorelaw_sameLists.e9 k x0 x1 x2).symm.trans g⟩
theorem evermorelaw_sameLists.e (k : Nat) (x0 : (List (List Int))) (x1 : (List (List Int))) : evermorelaw_sameLists.f k x0 x1 = evermorelaw_sameLists.R k ([.code evermorelaw_sameLists.body]) (evermorelaw_sameLists.ti.fill [⟨(.slice (.slice (.int .i64))), x0⟩, ⟨(.slice (.slice (.int .i64))), x1⟩]) := by kernel_rfl
theorem evermorelaw_sameLists.h (k : Nat) (ds : List Dat) (r : Bool) (h : evermorelaw_sameLists.g k ds = some r) : ∃ k', k' < k ∧ evermorelaw_sameLists.R k' ([.code evermorelaw_sameLists.body]) (evermorelaw_sameLists.ti.fill ds) = some r := by
  cases k with
  | zero => cases (show none = some r from h)
  | succ k =>
  replace h : evermorelaw_sameLists.c k ds = some r := h
  unfold evermorelaw_sameLists.c at h
  obtain ⟨x0, d0, rfl, h0⟩ := pop_some h
  obtain ⟨x1, d1, rfl, h1⟩ := pop_some h0
  obtain ⟨rfl, g⟩ := popN_some h1
  exact ⟨k, Nat.lt_succ_self k, (evermorelaw_sameLists.e k x0 x1).symm.trans g⟩
theorem evermorelaw_sameLists.o (ds : List Dat) (r : Bool) (h : evermorelaw_sameLists.out ds = some r) : ds = evermorelaw_sameLists.rs r := by
  unfold evermorelaw_sameLists.out at h
  obtain ⟨x0, d0, rfl, h0⟩ := pop_some h
  obtain ⟨rfl, g⟩ := popN_some h0
  cases g
  rfl
theorem evermorelaw_sameLists.fn : FnOk Try.prog 18 Try.f18 evermorelaw_sameLists.body Try.f18.ntmps 2 (fnRes Try.f18) :=
  fnOk_of (by kernel_rfl) (by kernel_rfl) (by kernel_rfl) (by kernel_rfl)
theorem evermorelaw_sameLists.con' : ∀ k ds r, evermorelaw_sameLists.g k ds = some r → Con Try.prog 18 2 evermorelaw_sameLists.ti evermorelaw_sameLists.to ds (evermorelaw_sameLists.rs r) :=
  fun_ok (T := T) T_ok mixed evermorelaw_sameLists.fn (env := evermorelaw_sameLists.env) (tbl := evermorelaw_sameLists.tbl) (gOut := evermorelaw_sameLists.out) (nin := 0) (cuts := []) (fuel := 100000) rfl (by kernel_rfl) (by kernel_rfl) (by kernel_rfl) (fun x hx => by
    simp only [evermorelaw_sameLists.tbl, List.mem_cons, List.not_mem_nil, or_false] at hx
    subst hx
    · exact evermorelaw_sameLists.h9
) evermorelaw_sameLists.o evermorelaw_sameLists.h (fun k _ => by unfold evermorelaw_sameLists.env; exact (envC_ok (fun ds K r h => by
    obtain ⟨x0, d0, rfl, h0⟩ := pop_some h
    obtain ⟨x1, d1, rfl, h1⟩ := pop_some h0
    obtain ⟨rfl, g⟩ := popN_some h1
    obtain ⟨r1, h1, h2⟩ := bind_some g
    exact ⟨_, h2, evermoreref1_Words.con k _ h1⟩) env0_ok))
theorem evermorelaw_sameLists.con (k : Nat) {x0 : (List (List Int))} {x1 : (List (List Int))} (r : Bool) (h : evermorelaw_sameLists.f k x0 x1 = some r) : Con Try.prog 18 2 evermorelaw_sameLists.ti evermorelaw_sameLists.to [⟨(.slice (.slice (.int .i64))), x0⟩, ⟨(.slice (.slice (.int .i64))), x1⟩] (evermorelaw_sameLists.rs r) :=
  evermorelaw_sameLists.con' (k + 1) _ r (by show evermorelaw_sameLists.c k _ = some r; unfold evermorelaw_sameLists.c; simp only [pop_self, popN]; exact h)
mutual
def evermoreref1_May.l6 : Nat → Int → List (Int) → Int → Option (Int)
 | 0, _, _, _ => none
 | k + 1, letters0, w1, i5 =>
  if i5 < (↑w1.length : Int) then
   if 0 ≤ i5 then
   if i5 < (↑w1.length : Int) then
    if Go.Proofs.YtmagglebkbiffaaSx.rd (Int.ofNat 0) w1 i5 < 0 then
      some (2)
     else
      if 0 ≤ i5 then
      if i5 < (↑w1.length : Int) then
       if letters0 ≤ Go.Proofs.YtmagglebkbiffaaSx.rd (Int.ofNat 0) w1 i5 then
         some (2)
        else
         evermoreref1_May.l6 k letters0 w1 (Go.IntKind.i64.wrap (i5 + 1))
       else none
      else none
    else none
   else none
  else
   some (0)
end
def evermoreref1_May.f (k : Nat) (letters0 : Int) (w1 : List (Int)) : Option (Int) :=
 if letters0 < 1 then
  some (2)
 else
  if 4 < letters0 then
   some (2)
  else
   if 60 < (↑w1.length : Int) then
    some (1)
   else
    evermoreref1_May.l6 k letters0 w1 0

noncomputable def evermoreref1_May.body : Code := fnBody Try.f19
def evermoreref1_May.ti : Tm := ⟨[(0, .p (.int .i64)), (1, .p (.slice (.int .i64)))], []⟩
def evermoreref1_May.to : Tm := ⟨[(0, .p (.int .i64))], []⟩
def evermoreref1_May.rs (r : Int) : List Dat := [⟨(.int .i64), r⟩]
def evermoreref1_May.out (ds : List Dat) : Option (Int) := pop (.int .i64) ds fun x0 ds => popN ds (some (x0))
def evermoreref1_May.c (k : Nat) (ds : List Dat) : Option (Int) := pop (.int .i64) ds fun x0 ds => pop (.slice (.int .i64)) ds fun x1 ds => popN ds (evermoreref1_May.f k x0 x1)
def evermoreref1_May.g : Nat → List Dat → Option (Int)
 | 0, _ => none
 | k + 1, ds => evermoreref1_May.c k ds
def evermoreref1_May.env (k : Nat) : Nat → List SV → List Chunk → KT (Int) → Option (Int) := env0
def evermoreref1_May.t13 : Tm := ⟨[(0, .p (.int .i64)), (1, .p (.slice (.int .i64))), (5, .p (.int .i64))], []⟩
def evermoreref1_May.c13 (k : Nat) (ds : List Dat) : Option (Int) := pop (.int .i64) ds fun x0 ds => pop (.slice (.int .i64)) ds fun x1 ds => pop (.int .i64) ds fun x2 ds => popN ds (evermoreref1_May.l6 k x0 x1 x2)
def evermoreref1_May.tbl : List (Nat × Tm × (Nat → List Dat → Option (Int))) := [(13, evermoreref1_May.t13, evermoreref1_May.c13)]
noncomputable abbrev evermoreref1_May.R (k : Nat) := run T (evermoreref1_May.env k) Try.f19.ntmps (cutE 0 evermoreref1_May.tbl k) (finE 0 evermoreref1_May.to evermoreref1_May.out) (fnRes Try.f19) [] 100000 true
theorem evermoreref1_May.e13 (k : Nat) (x0 : Int) (x1 : (List Int)) (x2 : Int) : evermoreref1_May.l6 (k + 1) x0 x1 x2 = evermoreref1_May.R k (start (stackOf 13 evermoreref1_May.body)) (evermoreref1_May.t13.fill [⟨(.int .i64), x0⟩, ⟨(.slice (.int .i64)), x1⟩, ⟨(.int .i64), x2⟩]) := by kernel_rfl
theorem evermoreref1_May.s13 : stackAt 13 evermoreref1_May.body [] = some (stackOf 13 evermoreref1_May.body) := by kernel_rfl
theorem evermoreref1_May.h13 (k : Nat) (ds : List Dat) (r : Int) (h : evermoreref1_May.c13 k ds = some r) : ∃ k', k' < k ∧ ∃ s, stackAt 13 evermoreref1_May.body [] = some s ∧ evermoreref1_May.R k' (start s) (evermoreref1_May.t13.fill ds) = some r := by
  unfold evermoreref1_May.c13 at h
  obtain ⟨x0, d0, rfl, h0⟩ := pop_some h
  obtain ⟨x1, d1, rfl, h1⟩ := pop_some h0
  obtain ⟨x2, d2, rfl, h2⟩ := pop_some h1
  obtain ⟨rfl, g⟩ := popN_some h2
  cases k with
  | zero => cases (show none = some r from g)
  | succ k => exact ⟨k, Nat.lt_succ_self k, _, evermoreref1_May.s13, (evermoreref1_May.e13 k x0 x1 x2).symm.trans g⟩
theorem evermoreref1_May.e (k : Nat) (x0 : Int) (x1 : (List Int)) : evermoreref1_May.f k x0 x1 = evermoreref1_May.R k ([.code evermoreref1_May.body]) (evermoreref1_May.ti.fill [⟨(.int .i64), x0⟩, ⟨(.slice (.int .i64)), x1⟩]) := by kernel_rfl
theorem evermoreref1_May.h (k : Nat) (ds : List Dat) (r : Int) (h : evermoreref1_May.g k ds = some r) : ∃ k', k' < k ∧ evermoreref1_May.R k' ([.code evermoreref1_May.body]) (evermoreref1_May.ti.fill ds) = some r := by
  cases k with
  | zero => cases (show none = some r from h)
  | succ k =>
  replace h : evermoreref1_May.c k ds = some r := h
  unfold evermoreref1_May.c at h
  obtain ⟨x0, d0, rfl, h0⟩ := pop_some h
  obtain ⟨x1, d1, rfl, h1⟩ := pop_some h0
  obtain ⟨rfl, g⟩ := popN_some h1
  exact ⟨k, Nat.lt_succ_self k, (evermoreref1_May.e k x0 x1).symm.trans g⟩
theorem evermoreref1_May.o (ds : List Dat) (r : Int) (h : evermoreref1_May.out ds = some r) : ds = evermoreref1_May.rs r := by
  unfold evermoreref1_May.out at h
  obtain ⟨x0, d0, rfl, h0⟩ := pop_some h
  obtain ⟨rfl, g⟩ := popN_some h0
  cases g
  rfl
theorem evermoreref1_May.fn : FnOk Try.prog 19 Try.f19 evermoreref1_May.body Try.f19.ntmps 2 (fnRes Try.f19) :=
  fnOk_of (by kernel_rfl) (by kernel_rfl) (by kernel_rfl) (by kernel_rfl)
theorem evermoreref1_May.con' : ∀ k ds r, evermoreref1_May.g k ds = some r → Con Try.prog 19 2 evermoreref1_May.ti evermoreref1_May.to ds (evermoreref1_May.rs r) :=
  fun_ok (T := T) T_ok mixed evermoreref1_May.fn (env := evermoreref1_May.env) (tbl := evermoreref1_May.tbl) (gOut := evermoreref1_May.out) (nin := 0) (cuts := []) (fuel := 100000) rfl (by kernel_rfl) (by kernel_rfl) (by kernel_rfl) (fun x hx => by
    simp only [evermoreref1_May.tbl, List.mem_cons, List.not_mem_nil, or_false] at hx
    subst hx
    · exact evermoreref1_May.h13
) evermoreref1_May.o evermoreref1_May.h (fun k _ => by unfold evermoreref1_May.env; exact env0_ok)
theorem evermoreref1_May.con (k : Nat) {x0 : Int} {x1 : (List Int)} (r : Int) (h : evermoreref1_May.f k x0 x1 = some r) : Con Try.prog 19 2 evermoreref1_May.ti evermoreref1_May.to [⟨(.int .i64), x0⟩, ⟨(.slice (.int .i64)), x1⟩] (evermoreref1_May.rs r) :=
  evermoreref1_May.con' (k + 1) _ r (by show evermoreref1_May.c k _ = some r; unfold evermoreref1_May.c; simp only [pop_self, popN]; exact h)
mutual
def evermorelaw_HigmanLeast.j5 : Nat → List (Int) → Int → Int → Int → Int → List (List (Int)) → List (Int) → List (List (Int)) → Option (Bool)
 | 0, _, _, _, _, _, _, _, _ => none
 | k + 1, w1, e6, no7, d2_0, d2_1, d2_2, d2_3, l5 =>
  if no7 = 0 then
   (evermoreref32_Least.f k (d2_0, d2_1, d2_2, d2_3, ())).bind fun r_3 =>
    (evermorelaw_sameLists.f k l5 r_3).bind fun r_4 =>
     if e6 = 0 then
      if r_4 = true then
       (evermoreref1_May.f k d2_0 w1).bind fun r_7 =>
        if r_7 = 0 then
         (evermoreref3_Accepts.f k (d2_0, d2_1, d2_2, d2_3, ()) w1).bind fun r_9 =>
          evermorelaw_HigmanLeast.l16 k w1 r_9 0 l5
        else
         some (true)
      else
       some (false)
     else
      some (false)
  else
   if e6 = no7 then
    some (decide ((↑l5.length : Int) = 0))
   else
    some (false)
def evermorelaw_HigmanLeast.l16 : Nat → List (Int) → Bool → Int → List (List (Int)) → Option (Bool)
 | 0, _, _, _, _ => none
 | k + 1, w1, is11, i12, l5 =>
  if i12 < (↑l5.length : Int) then
   if 0 ≤ i12 then
   if i12 < (↑l5.length : Int) then
    (evermoreref32_Within.f k (l5.getD i12.toNat []) w1).bind fun r_5 =>
      if r_5.fst = true then
       some (true)
      else
       evermorelaw_HigmanLeast.l16 k w1 is11 (Go.IntKind.i64.wrap (i12 + 1)) l5
    else none
   else none
  else
   some (!is11)
end
def evermorelaw_HigmanLeast.f (k : Nat) (d0 : (Int × (Int × (List (List (Int)) × (List (Int) × Unit))))) (w1 : List (Int)) : Option (Bool) :=
 (higman_Least.f k (d0.fst, d0.snd.fst, d0.snd.snd.fst, d0.snd.snd.snd.fst, ())).bind fun r_1 =>
  (evermoreref3_Check.f k (d0.fst, d0.snd.fst, d0.snd.snd.fst, d0.snd.snd.snd.fst, ())).bind fun r_2 =>
   if r_2 = 0 then
    if 5 < (↑d0.snd.snd.fst.length : Int) then
     evermorelaw_HigmanLeast.j5 k w1 r_1.fst 1 d0.fst d0.snd.fst d0.snd.snd.fst d0.snd.snd.snd.fst r_1.snd
    else
     evermorelaw_HigmanLeast.j5 k w1 r_1.fst r_2 d0.fst d0.snd.fst d0.snd.snd.fst d0.snd.snd.snd.fst r_1.snd
   else
    evermorelaw_HigmanLeast.j5 k w1 r_1.fst r_2 d0.fst d0.snd.fst d0.snd.snd.fst d0.snd.snd.snd.fst r_1.snd

noncomputable def evermorelaw_HigmanLeast.body : Code := fnBody Try.f3
def evermorelaw_HigmanLeast.ti : Tm := ⟨[(0, .p (.pair (.int .i64) (.pair (.int .i64) (.pair (.slice (.slice (.int .i64))) (.pair (.slice (.int .i64)) .unit))))), (1, .p (.slice (.int .i64)))], []⟩
def evermorelaw_HigmanLeast.to : Tm := ⟨[(0, .p .bool)], []⟩
def evermorelaw_HigmanLeast.rs (r : Bool) : List Dat := [⟨.bool, r⟩]
def evermorelaw_HigmanLeast.out (ds : List Dat) : Option (Bool) := pop .bool ds fun x0 ds => popN ds (some (x0))
def evermorelaw_HigmanLeast.c (k : Nat) (ds : List Dat) : Option (Bool) := pop (.pair (.int .i64) (.pair (.int .i64) (.pair (.slice (.slice (.int .i64))) (.pair (.slice (.int .i64)) .unit)))) ds fun x0 ds => pop (.slice (.int .i64)) ds fun x1 ds => popN ds (evermorelaw_HigmanLeast.f k x0 x1)
def evermorelaw_HigmanLeast.g : Nat → List Dat → Option (Bool)
 | 0, _ => none
 | k + 1, ds => evermorelaw_HigmanLeast.c k ds
def evermorelaw_HigmanLeast.env (k : Nat) : Nat → List SV → List Chunk → KT (Bool) → Option (Bool) := (envC 17 1 evermoreref32_Least.ti evermoreref32_Least.to (fun ds K => pop (.pair (.int .i64) (.pair (.int .i64) (.pair (.slice (.slice (.int .i64))) (.pair (.slice (.int .i64)) .unit)))) ds fun x0 ds => popN ds ((evermoreref32_Least.f k x0).bind fun r => K (evermoreref32_Least.rs r))) (envC 18 2 evermorelaw_sameLists.ti evermorelaw_sameLists.to (fun ds K => pop (.slice (.slice (.int .i64))) ds fun x0 ds => pop (.slice (.slice (.int .i64))) ds fun x1 ds => popN ds ((evermorelaw_sameLists.f k x0 x1).bind fun r => K (evermorelaw_sameLists.rs r))) (envC 19 2 evermoreref1_May.ti evermoreref1_May.to (fun ds K => pop (.int .i64) ds fun x0 ds => pop (.slice (.int .i64)) ds fun x1 ds => popN ds ((evermoreref1_May.f k x0 x1).bind fun r => K (evermoreref1_May.rs r))) (envC 20 2 evermoreref3_Accepts.ti evermoreref3_Accepts.to (fun ds K => pop (.pair (.int .i64) (.pair (.int .i64) (.pair (.slice (.slice (.int .i64))) (.pair (.slice (.int .i64)) .unit)))) ds fun x0 ds => pop (.slice (.int .i64)) ds fun x1 ds => popN ds ((evermoreref3_Accepts.f k x0 x1).bind fun r => K (evermoreref3_Accepts.rs r))) (envC 21 2 evermoreref32_Within.ti evermoreref32_Within.to (fun ds K => pop (.slice (.int .i64)) ds fun x0 ds => pop (.slice (.int .i64)) ds fun x1 ds => popN ds ((evermoreref32_Within.f k x0 x1).bind fun r => K (evermoreref32_Within.rs r))) (envC 15 1 higman_Least.ti higman_Least.to (fun ds K => pop (.pair (.int .i64) (.pair (.int .i64) (.pair (.slice (.slice (.int .i64))) (.pair (.slice (.int .i64)) .unit)))) ds fun x0 ds => popN ds ((higman_Least.f k x0).bind fun r => K (higman_Least.rs r))) (envC 16 1 evermoreref3_Check.ti evermoreref3_Check.to (fun ds K => pop (.pair (.int .i64) (.pair (.int .i64) (.pair (.slice (.slice (.int .i64))) (.pair (.slice (.int .i64)) .unit)))) ds fun x0 ds => popN ds ((evermoreref3_Check.f k x0).bind fun r => K (evermoreref3_Check.rs r))) env0)))))))
def evermorelaw_HigmanLeast.t10 : Tm := ⟨[(1, .p (.slice (.int .i64))), (2, .ptr 0 0), (5, .own 1), (6, .p (.int .i64)), (7, .p (.int .i64))], [.box [.p (.int .i64), .p (.int .i64), .p (.slice (.slice (.int .i64))), .p (.slice (.int .i64))] 25, .own (.slice (.int .i64))]⟩
def evermorelaw_HigmanLeast.c10 (k : Nat) (ds : List Dat) : Option (Bool) := pop (.slice (.int .i64)) ds fun x0 ds => pop (.int .i64) ds fun x1 ds => pop (.int .i64) ds fun x2 ds => pop (.int .i64) ds fun x3 ds => pop (.int .i64) ds fun x4 ds => pop (.slice (.slice (.int .i64))) ds fun x5 ds => pop (.slice (.int .i64)) ds fun x6 ds => pop (.slice (.slice (.int .i64))) ds fun x7 ds => popN ds (evermorelaw_HigmanLeast.j5 k x0 x1 x2 x3 x4 x5 x6 x7)
def evermorelaw_HigmanLeast.t33 : Tm := ⟨[(1, .p (.slice (.int .i64))), (5, .own 0), (11, .p .bool), (12, .p (.int .i64))], [.own (.slice (.int .i64))]⟩
def evermorelaw_HigmanLeast.c33 (k : Nat) (ds : List Dat) : Option (Bool) := pop (.slice (.int .i64)) ds fun x0 ds => pop .bool ds fun x1 ds => pop (.int .i64) ds fun x2 ds => pop (.slice (.slice (.int .i64))) ds fun x3 ds => popN ds (evermorelaw_HigmanLeast.l16 k x0 x1 x2 x3)
def evermorelaw_HigmanLeast.tbl : List (Nat × Tm × (Nat → List Dat → Option (Bool))) := [(10, evermorelaw_HigmanLeast.t10, evermorelaw_HigmanLeast.c10), (33, evermorelaw_HigmanLeast.t33, evermorelaw_HigmanLeast.c33)]
noncomputable abbrev evermorelaw_HigmanLeast.R (k : Nat) := run T (evermorelaw_HigmanLeast.env k) Try.f3.ntmps (cutE 0 evermorelaw_HigmanLeast.tbl k) (finE 0 evermorelaw_HigmanLeast.to evermorelaw_HigmanLeast.out) (fnRes Try.f3) [5] 100000 true
theorem evermorelaw_HigmanLeast.e10 (k : Nat) (x0 : (List Int)) (x1 : Int) (x2 : Int) (x3 : Int) (x4 : Int) (x5 : (List (List Int))) (x6 : (List Int)) (x7 : (List (List Int))) : evermorelaw_HigmanLeast.j5 (k + 1) x0 x1 x2 x3 x4 x5 x6 x7 = evermorelaw_HigmanLeast.R k (start (stackOf 10 evermorelaw_HigmanLeast.body)) (evermorelaw_HigmanLeast.t10.fill [⟨(.slice (.int .i64)), x0⟩, ⟨(.int .i64), x1⟩, ⟨(.int .i64), x2⟩, ⟨(.int .i64), x3⟩, ⟨(.int .i64), x4⟩, ⟨(.slice (.slice (.int .i64))), x5⟩, ⟨(.slice (.int .i64)), x6⟩, ⟨(.slice (.slice (.int .i64))), x7⟩]) := by kernel_rfl
theorem evermorelaw_HigmanLeast.s10 : stackAt 10 evermorelaw_HigmanLeast.body [] = some (stackOf 10 evermorelaw_HigmanLeast.body) := by kernel_rfl
theorem evermorelaw_HigmanLeast.h10 (k : Nat) (ds : List Dat) (r : Bool) (h : evermorelaw_HigmanLeast.c10 k ds = some r) : ∃ k', k' < k ∧ ∃ s, stackAt 10 evermorelaw_HigmanLeast.body [] = some s ∧ evermorelaw_HigmanLeast.R k' (start s) (evermorelaw_HigmanLeast.t10.fill ds) = some r := by
  unfold evermorelaw_HigmanLeast.c10 at h
  obtain ⟨x0, d0, rfl, h0⟩ := pop_some h
  obtain ⟨x1, d1, rfl, h1⟩ := pop_some h0
  obtain ⟨x2, d2, rfl, h2⟩ := pop_some h1
  obtain ⟨x3, d3, rfl, h3⟩ := pop_some h2
  obtain ⟨x4, d4, rfl, h4⟩ := pop_some h3
  obtain ⟨x5, d5, rfl, h5⟩ := pop_some h4
  obtain ⟨x6, d6, rfl, h6⟩ := pop_some h5
  obtain ⟨x7, d7, rfl, h7⟩ := pop_some h6
  obtain ⟨rfl, g⟩ := popN_some h7
  cases k with
  | zero => cases (show none = some r from g)
  | succ k => exact ⟨k, Nat.lt_succ_self k, _, evermorelaw_HigmanLeast.s10, (evermorelaw_HigmanLeast.e10 k x0 x1 x2 x3 x4 x5 x6 x7).symm.trans g⟩
theorem evermorelaw_HigmanLeast.e33 (k : Nat) (x0 : (List Int)) (x1 : Bool) (x2 : Int) (x3 : (List (List Int))) : evermorelaw_HigmanLeast.l16 (k + 1) x0 x1 x2 x3 = evermorelaw_HigmanLeast.R k (start (stackOf 33 evermorelaw_HigmanLeast.body)) (evermorelaw_HigmanLeast.t33.fill [⟨(.slice (.int .i64)), x0⟩, ⟨.bool, x1⟩, ⟨(.int .i64), x2⟩, ⟨(.slice (.slice (.int .i64))), x3⟩]) := by kernel_rfl
theorem evermorelaw_HigmanLeast.s33 : stackAt 33 evermorelaw_HigmanLeast.body [] = some (stackOf 33 evermorelaw_HigmanLeast.body) := by kernel_rfl
theorem evermorelaw_HigmanLeast.h33 (k : Nat) (ds : List Dat) (r : Bool) (h : evermorelaw_HigmanLeast.c33 k ds = some r) : ∃ k', k' < k ∧ ∃ s, stackAt 33 evermorelaw_HigmanLeast.body [] = some s ∧ evermorelaw_HigmanLeast.R k' (start s) (evermorelaw_HigmanLeast.t33.fill ds) = some r := by
  unfold evermorelaw_HigmanLeast.c33 at h
  obtain ⟨x0, d0, rfl, h0⟩ := pop_some h
  obtain ⟨x1, d1, rfl, h1⟩ := pop_some h0
  obtain ⟨x2, d2, rfl, h2⟩ := pop_some h1
  obtain ⟨x3, d3, rfl, h3⟩ := pop_some h2
  obtain ⟨rfl, g⟩ := popN_some h3
  cases k with
  | zero => cases (show none = some r from g)
  | succ k => exact ⟨k, Nat.lt_succ_self k, _, evermorelaw_HigmanLeast.s33, (evermorelaw_HigmanLeast.e33 k x0 x1 x2 x3).symm.trans g⟩
theorem evermorelaw_HigmanLeast.e (k : Nat) (x0 : (Int × (Int × ((List (List Int)) × ((List Int) × Unit))))) (x1 : (List Int)) : evermorelaw_HigmanLeast.f k x0 x1 = evermorelaw_HigmanLeast.R k ([.code evermorelaw_HigmanLeast.body]) (evermorelaw_HigmanLeast.ti.fill [⟨(.pair (.int .i64) (.pair (.int .i64) (.pair (.slice (.slice (.int .i64))) (.pair (.slice (.int .i64)) .unit)))), x0⟩, ⟨(.slice (.int .i64)), x1⟩]) := by kernel_rfl
theorem evermorelaw_HigmanLeast.h (k : Nat) (ds : List Dat) (r : Bool) (h : evermorelaw_HigmanLeast.g k ds = some r) : ∃ k', k' < k ∧ evermorelaw_HigmanLeast.R k' ([.code evermorelaw_HigmanLeast.body]) (evermorelaw_HigmanLeast.ti.fill ds) = some r := by
  cases k with
  | zero => cases (show none = some r from h)
  | succ k =>
  replace h : evermorelaw_HigmanLeast.c k ds = some r := h
  unfold evermorelaw_HigmanLeast.c at h
  obtain ⟨x0, d0, rfl, h0⟩ := pop_some h
  obtain ⟨x1, d1, rfl, h1⟩ := pop_some h0
  obtain ⟨rfl, g⟩ := popN_some h1
  exact ⟨k, Nat.lt_succ_self k, (evermorelaw_HigmanLeast.e k x0 x1).symm.trans g⟩
theorem evermorelaw_HigmanLeast.o (ds : List Dat) (r : Bool) (h : evermorelaw_HigmanLeast.out ds = some r) : ds = evermorelaw_HigmanLeast.rs r := by
  unfold evermorelaw_HigmanLeast.out at h
  obtain ⟨x0, d0, rfl, h0⟩ := pop_some h
  obtain ⟨rfl, g⟩ := popN_some h0
  cases g
  rfl
theorem evermorelaw_HigmanLeast.fn : FnOk Try.prog 3 Try.f3 evermorelaw_HigmanLeast.body Try.f3.ntmps 2 (fnRes Try.f3) :=
  fnOk_of (by kernel_rfl) (by kernel_rfl) (by kernel_rfl) (by kernel_rfl)
theorem evermorelaw_HigmanLeast.con' : ∀ k ds r, evermorelaw_HigmanLeast.g k ds = some r → Con Try.prog 3 2 evermorelaw_HigmanLeast.ti evermorelaw_HigmanLeast.to ds (evermorelaw_HigmanLeast.rs r) :=
  fun_ok (T := T) T_ok mixed evermorelaw_HigmanLeast.fn (env := evermorelaw_HigmanLeast.env) (tbl := evermorelaw_HigmanLeast.tbl) (gOut := evermorelaw_HigmanLeast.out) (nin := 0) (cuts := [5]) (fuel := 100000) rfl (by kernel_rfl) (by kernel_rfl) (by kernel_rfl) (fun x hx => by
    simp only [evermorelaw_HigmanLeast.tbl, List.mem_cons, List.not_mem_nil, or_false] at hx
    rcases hx with rfl | rfl
    · exact evermorelaw_HigmanLeast.h10
    · exact evermorelaw_HigmanLeast.h33
) evermorelaw_HigmanLeast.o evermorelaw_HigmanLeast.h (fun k _ => by unfold evermorelaw_HigmanLeast.env; exact (envC_ok (fun ds K r h => by
    obtain ⟨x0, d0, rfl, h0⟩ := pop_some h
    obtain ⟨rfl, g⟩ := popN_some h0
    obtain ⟨r1, h1, h2⟩ := bind_some g
    exact ⟨_, h2, evermoreref32_Least.con k _ h1⟩) (envC_ok (fun ds K r h => by
    obtain ⟨x0, d0, rfl, h0⟩ := pop_some h
    obtain ⟨x1, d1, rfl, h1⟩ := pop_some h0
    obtain ⟨rfl, g⟩ := popN_some h1
    obtain ⟨r1, h1, h2⟩ := bind_some g
    exact ⟨_, h2, evermorelaw_sameLists.con k _ h1⟩) (envC_ok (fun ds K r h => by
    obtain ⟨x0, d0, rfl, h0⟩ := pop_some h
    obtain ⟨x1, d1, rfl, h1⟩ := pop_some h0
    obtain ⟨rfl, g⟩ := popN_some h1
    obtain ⟨r1, h1, h2⟩ := bind_some g
    exact ⟨_, h2, evermoreref1_May.con k _ h1⟩) (envC_ok (fun ds K r h => by
    obtain ⟨x0, d0, rfl, h0⟩ := pop_some h
    obtain ⟨x1, d1, rfl, h1⟩ := pop_some h0
    obtain ⟨rfl, g⟩ := popN_some h1
    obtain ⟨r1, h1, h2⟩ := bind_some g
    exact ⟨_, h2, evermoreref3_Accepts.con k _ h1⟩) (envC_ok (fun ds K r h => by
    obtain ⟨x0, d0, rfl, h0⟩ := pop_some h
    obtain ⟨x1, d1, rfl, h1⟩ := pop_some h0
    obtain ⟨rfl, g⟩ := popN_some h1
    obtain ⟨r1, h1, h2⟩ := bind_some g
    exact ⟨_, h2, evermoreref32_Within.con k _ h1⟩) (envC_ok (fun ds K r h => by
    obtain ⟨x0, d0, rfl, h0⟩ := pop_some h
    obtain ⟨rfl, g⟩ := popN_some h0
    obtain ⟨r1, h1, h2⟩ := bind_some g
    exact ⟨_, h2, higman_Least.con k _ h1⟩) (envC_ok (fun ds K r h => by
    obtain ⟨x0, d0, rfl, h0⟩ := pop_some h
    obtain ⟨rfl, g⟩ := popN_some h0
    obtain ⟨r1, h1, h2⟩ := bind_some g
    exact ⟨_, h2, evermoreref3_Check.con k _ h1⟩) env0_ok))))))))
theorem evermorelaw_HigmanLeast.con (k : Nat) {x0 : (Int × (Int × ((List (List Int)) × ((List Int) × Unit))))} {x1 : (List Int)} (r : Bool) (h : evermorelaw_HigmanLeast.f k x0 x1 = some r) : Con Try.prog 3 2 evermorelaw_HigmanLeast.ti evermorelaw_HigmanLeast.to [⟨(.pair (.int .i64) (.pair (.int .i64) (.pair (.slice (.slice (.int .i64))) (.pair (.slice (.int .i64)) .unit)))), x0⟩, ⟨(.slice (.int .i64)), x1⟩] (evermorelaw_HigmanLeast.rs r) :=
  evermorelaw_HigmanLeast.con' (k + 1) _ r (by show evermorelaw_HigmanLeast.c k _ = some r; unfold evermorelaw_HigmanLeast.c; simp only [pop_self, popN]; exact h)
/-- The one pure statement of the law, over whatever arguments can be read. -/
def evermorelaw_HigmanLeast.PureH : Prop := ∀ (x0 : (Int × (Int × ((List (List Int)) × ((List Int) × Unit))))) (x1 : (List Int)), Ty.okv (.pair (.int .i64) (.pair (.int .i64) (.pair (.slice (.slice (.int .i64))) (.pair (.slice (.int .i64)) .unit)))) x0 → Ty.okv (.slice (.int .i64)) x1 → ∃ k, evermorelaw_HigmanLeast.f k x0 x1 = some true
end Go.Proofs.YtmagglebkbiffaaSx
