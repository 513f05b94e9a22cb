import Derived.Test.YtiiioobebeaafaaSxT
import Derived.Test.YtiiioobebeaafaaSxQ
import Derived.Test.YtiiioobebeaafaaSxV2
import Derived.Test.YtiiioobebeaafaaSxW
import Derived.KernelRfl
import Derived.Test.YtiiioobebeaafaaProg
set_option linter.unusedVariables false
set_option maxRecDepth 100000
namespace Go.Proofs.YtiiioobebeaafaaSx
open Go Go.Proofs
theorem T_check : T.check Try.prog = true := by kernel_rfl
theorem T_ok : TOk Try.prog T := TT.check_ok T_check
theorem mixed : Try.prog.follows .mixedOrders = true := by kernel_rfl
def det_Check_1.f (k : Nat) (r0 : List (Int)) (x1_0 : Int) (x1_1 : Int) (x1_2 : List (List (Int))) (x1_3 : List (Int)) : Option (Bool × Int × Int × List (List Int) × List Int) :=
 some (!decide ((↑r0.length : Int) = x1_0), x1_0, x1_1, x1_2, x1_3)

noncomputable def det_Check_1.body : Code := fnBody Try.f157
def det_Check_1.ti : Tm := ⟨[(0, .p (.slice (.int .i64))), (1, .ptr 0 0)], [.box [.p (.int .i64), .p (.int .i64), .p (.slice (.slice (.int .i64))), .p (.slice (.int .i64))] 58]⟩
def det_Check_1.to : Tm := ⟨[(0, .p .bool)], [.box [.p (.int .i64), .p (.int .i64), .p (.slice (.slice (.int .i64))), .p (.slice (.int .i64))] 58]⟩
def det_Check_1.rs (r : Bool × Int × Int × (List (List Int)) × (List Int)) : List Dat := [⟨.bool, r.1⟩, ⟨(.int .i64), r.2.1⟩, ⟨(.int .i64), r.2.2.1⟩, ⟨(.slice (.slice (.int .i64))), r.2.2.2.1⟩, ⟨(.slice (.int .i64)), r.2.2.2.2⟩]
def det_Check_1.out (ds : List Dat) : Option (Bool × Int × Int × (List (List Int)) × (List Int)) := pop .bool ds fun x0 ds => pop (.int .i64) ds fun x1 ds => pop (.int .i64) ds fun x2 ds => pop (.slice (.slice (.int .i64))) ds fun x3 ds => pop (.slice (.int .i64)) ds fun x4 ds => popN ds (some (x0, x1, x2, x3, x4))
def det_Check_1.c (k : Nat) (ds : List Dat) : Option (Bool × Int × Int × (List (List Int)) × (List Int)) := pop (.slice (.int .i64)) ds fun x0 ds => pop (.int .i64) ds fun x1 ds => pop (.int .i64) ds fun x2 ds => pop (.slice (.slice (.int .i64))) ds fun x3 ds => pop (.slice (.int .i64)) ds fun x4 ds => popN ds (det_Check_1.f k x0 x1 x2 x3 x4)
def det_Check_1.g : Nat → List Dat → Option (Bool × Int × Int × (List (List Int)) × (List Int))
 | 0, _ => none
 | k + 1, ds => det_Check_1.c k ds
def det_Check_1.env (k : Nat) : Nat → List SV → List Chunk → KT (Bool × Int × Int × (List (List Int)) × (List Int)) → Option (Bool × Int × Int × (List (List Int)) × (List Int)) := env0
def det_Check_1.tbl : List (Nat × Tm × (Nat → List Dat → Option (Bool × Int × Int × (List (List Int)) × (List Int)))) := []
noncomputable abbrev det_Check_1.R (k : Nat) := run T (det_Check_1.env k) Try.f157.ntmps (cutE 1 det_Check_1.tbl k) (finE 1 det_Check_1.to det_Check_1.out) (fnRes Try.f157) [] 100000 true
theorem det_Check_1.e (k : Nat) (x0 : (List Int)) (x1 : Int) (x2 : Int) (x3 : (List (List Int))) (x4 : (List Int)) : det_Check_1.f k x0 x1 x2 x3 x4 = det_Check_1.R k ([.code det_Check_1.body]) (det_Check_1.ti.fill [⟨(.slice (.int .i64)), x0⟩, ⟨(.int .i64), x1⟩, ⟨(.int .i64), x2⟩, ⟨(.slice (.slice (.int .i64))), x3⟩, ⟨(.slice (.int .i64)), x4⟩]) := by kernel_rfl
theorem det_Check_1.h (k : Nat) (ds : List Dat) (r : Bool × Int × Int × (List (List Int)) × (List Int)) (h : det_Check_1.g k ds = some r) : ∃ k', k' < k ∧ det_Check_1.R k' ([.code det_Check_1.body]) (det_Check_1.ti.fill ds) = some r := by
  cases k with
  | zero => cases (show none = some r from h)
  | succ k =>
  replace h : det_Check_1.c k ds = some r := h
  unfold det_Check_1.c at h
  obtain ⟨x0, d0, rfl, h0⟩ := pop_some h
  obtain ⟨x1, d1, rfl, h1⟩ := pop_some h0
  obtain ⟨x2, d2, rfl, h2⟩ := pop_some h1
  obtain ⟨x3, d3, rfl, h3⟩ := pop_some h2
  obtain ⟨x4, d4, rfl, h4⟩ := pop_some h3
  obtain ⟨rfl, g⟩ := popN_some h4
  exact ⟨k, Nat.lt_succ_self k, (det_Check_1.e k x0 x1 x2 x3 x4).symm.trans g⟩
theorem det_Check_1.o (ds : List Dat) (r : Bool × Int × Int × (List (List Int)) × (List Int)) (h : det_Check_1.out ds = some r) : ds = det_Check_1.rs r := by
  unfold det_Check_1.out at h
  obtain ⟨x0, d0, rfl, h0⟩ := pop_some h
  obtain ⟨x1, d1, rfl, h1⟩ := pop_some h0
  obtain ⟨x2, d2, rfl, h2⟩ := pop_some h1
  obtain ⟨x3, d3, rfl, h3⟩ := pop_some h2
  obtain ⟨x4, d4, rfl, h4⟩ := pop_some h3
  obtain ⟨rfl, g⟩ := popN_some h4
  cases g
  rfl
theorem det_Check_1.fn : FnOk Try.prog 157 Try.f157 det_Check_1.body Try.f157.ntmps 2 (fnRes Try.f157) :=
  fnOk_of (by kernel_rfl) (by kernel_rfl) (by kernel_rfl) (by kernel_rfl)
theorem det_Check_1.con' : ∀ k ds r, det_Check_1.g k ds = some r → Con Try.prog 157 2 det_Check_1.ti det_Check_1.to ds (det_Check_1.rs r) :=
  fun_ok (T := T) T_ok mixed det_Check_1.fn (env := det_Check_1.env) (tbl := det_Check_1.tbl) (gOut := det_Check_1.out) (nin := 1) (cuts := []) (fuel := 100000) rfl (by kernel_rfl) (by kernel_rfl) (by kernel_rfl) (fun x hx => by simp [det_Check_1.tbl] at hx) det_Check_1.o det_Check_1.h (fun k _ => by unfold det_Check_1.env; exact env0_ok)
theorem det_Check_1.con (k : Nat) {x0 : (List Int)} {x1 : Int} {x2 : Int} {x3 : (List (List Int))} {x4 : (List Int)} (r : Bool × Int × Int × (List (List Int)) × (List Int)) (h : det_Check_1.f k x0 x1 x2 x3 x4 = some r) : Con Try.prog 157 2 det_Check_1.ti det_Check_1.to [⟨(.slice (.int .i64)), x0⟩, ⟨(.int .i64), x1⟩, ⟨(.int .i64), x2⟩, ⟨(.slice (.slice (.int .i64))), x3⟩, ⟨(.slice (.int .i64)), x4⟩] (det_Check_1.rs r) :=
  det_Check_1.con' (k + 1) _ r (by show det_Check_1.c k _ = some r; unfold det_Check_1.c; simp only [pop_self, popN]; exact h)
mutual
def slices_IndexFunc_____int___int_.l2 : Nat → List (List (Int)) → Int → Int → Int → Int → List (List (Int)) → List (Int) → Option (Int × Int × Int × List (List Int) × List Int)
 | 0, _, _, _, _, _, _, _ => none
 | k + 1, s0, x7, x8, c0_0, c0_1, c0_2, c0_3 =>
  if x8 < x7 then
   if 0 ≤ x8 then
   if x8 < (↑s0.length : Int) then
    (det_Check_1.f k (Go.Proofs.YtiiioobebeaafaaSx.rd [] s0 x8) c0_0 c0_1 c0_2 c0_3).bind fun r5 =>
      if r5.fst = true then
       some (x8, r5.snd.fst, r5.snd.snd.fst, r5.snd.snd.snd.fst, r5.snd.snd.snd.snd)
      else
       slices_IndexFunc_____int___int_.l2 k s0 x7 (Go.IntKind.i64.wrap (x8 + 1)) r5.snd.fst r5.snd.snd.fst r5.snd.snd.snd.fst r5.snd.snd.snd.snd
    else none
   else none
  else
   some (-1, c0_0, c0_1, c0_2, c0_3)
end
def slices_IndexFunc_____int___int_.f (k : Nat) (s0 : List (List (Int))) (c0_0 : Int) (c0_1 : Int) (c0_2 : List (List (Int))) (c0_3 : List (Int)) : Option (Int × Int × Int × List (List Int) × List Int) :=
 slices_IndexFunc_____int___int_.l2 k s0 ((↑s0.length : Int)) 0 c0_0 c0_1 c0_2 c0_3

noncomputable def slices_IndexFunc_____int___int_.body : Code := fnBody Try.f148
def slices_IndexFunc_____int___int_.ti : Tm := ⟨[(0, .p (.slice (.slice (.int .i64)))), (1, .fn 157 [.ptr 0 0])], [.box [.p (.int .i64), .p (.int .i64), .p (.slice (.slice (.int .i64))), .p (.slice (.int .i64))] 58]⟩
def slices_IndexFunc_____int___int_.to : Tm := ⟨[(0, .p (.int .i64))], [.box [.p (.int .i64), .p (.int .i64), .p (.slice (.slice (.int .i64))), .p (.slice (.int .i64))] 58]⟩
def slices_IndexFunc_____int___int_.rs (r : Int × Int × Int × (List (List Int)) × (List Int)) : List Dat := [⟨(.int .i64), r.1⟩, ⟨(.int .i64), r.2.1⟩, ⟨(.int .i64), r.2.2.1⟩, ⟨(.slice (.slice (.int .i64))), r.2.2.2.1⟩, ⟨(.slice (.int .i64)), r.2.2.2.2⟩]
def slices_IndexFunc_____int___int_.out (ds : List Dat) : Option (Int × Int × Int × (List (List Int)) × (List Int)) := pop (.int .i64) ds fun x0 ds => pop (.int .i64) ds fun x1 ds => pop (.int .i64) ds fun x2 ds => pop (.slice (.slice (.int .i64))) ds fun x3 ds => pop (.slice (.int .i64)) ds fun x4 ds => popN ds (some (x0, x1, x2, x3, x4))
def slices_IndexFunc_____int___int_.c (k : Nat) (ds : List Dat) : Option (Int × Int × Int × (List (List Int)) × (List Int)) := pop (.slice (.slice (.int .i64))) ds fun x0 ds => pop (.int .i64) ds fun x1 ds => pop (.int .i64) ds fun x2 ds => pop (.slice (.slice (.int .i64))) ds fun x3 ds => pop (.slice (.int .i64)) ds fun x4 ds => popN ds (slices_IndexFunc_____int___int_.f k x0 x1 x2 x3 x4)
def slices_IndexFunc_____int___int_.g : Nat → List Dat → Option (Int × Int × Int × (List (List Int)) × (List Int))
 | 0, _ => none
 | k + 1, ds => slices_IndexFunc_____int___int_.c k ds
def slices_IndexFunc_____int___int_.env (k : Nat) : Nat → List SV → List Chunk → KT (Int × Int × Int × (List (List Int)) × (List Int)) → Option (Int × Int × Int × (List (List Int)) × (List Int)) := (envC 157 2 det_Check_1.ti det_Check_1.to (fun ds K => pop (.slice (.int .i64)) ds fun x0 ds => pop (.int .i64) ds fun x1 ds => pop (.int .i64) ds fun x2 ds => pop (.slice (.slice (.int .i64))) ds fun x3 ds => pop (.slice (.int .i64)) ds fun x4 ds => popN ds ((det_Check_1.f k x0 x1 x2 x3 x4).bind fun r => K (det_Check_1.rs r))) env0)
def slices_IndexFunc_____int___int_.t5 : Tm := ⟨[(0, .p (.slice (.slice (.int .i64)))), (1, .fn 157 [.ptr 0 0]), (7, .p (.int .i64)), (8, .p (.int .i64))], [.box [.p (.int .i64), .p (.int .i64), .p (.slice (.slice (.int .i64))), .p (.slice (.int .i64))] 58]⟩
def slices_IndexFunc_____int___int_.c5 (k : Nat) (ds : List Dat) : Option (Int × Int × Int × (List (List Int)) × (List Int)) := pop (.slice (.slice (.int .i64))) ds fun x0 ds => pop (.int .i64) ds fun x1 ds => pop (.int .i64) ds fun x2 ds => pop (.int .i64) ds fun x3 ds => pop (.int .i64) ds fun x4 ds => pop (.slice (.slice (.int .i64))) ds fun x5 ds => pop (.slice (.int .i64)) ds fun x6 ds => popN ds (slices_IndexFunc_____int___int_.l2 k x0 x1 x2 x3 x4 x5 x6)
def slices_IndexFunc_____int___int_.tbl : List (Nat × Tm × (Nat → List Dat → Option (Int × Int × Int × (List (List Int)) × (List Int)))) := [(5, slices_IndexFunc_____int___int_.t5, slices_IndexFunc_____int___int_.c5)]
noncomputable abbrev slices_IndexFunc_____int___int_.R (k : Nat) := run T (slices_IndexFunc_____int___int_.env k) Try.f148.ntmps (cutE 1 slices_IndexFunc_____int___int_.tbl k) (finE 1 slices_IndexFunc_____int___int_.to slices_IndexFunc_____int___int_.out) (fnRes Try.f148) [] 100000 true
theorem slices_IndexFunc_____int___int_.e5 (k : Nat) (x0 : (List (List Int))) (x1 : Int) (x2 : Int) (x3 : Int) (x4 : Int) (x5 : (List (List Int))) (x6 : (List Int)) : slices_IndexFunc_____int___int_.l2 (k + 1) x0 x1 x2 x3 x4 x5 x6 = slices_IndexFunc_____int___int_.R k (start (stackOf 5 slices_IndexFunc_____int___int_.body)) (slices_IndexFunc_____int___int_.t5.fill [⟨(.slice (.slice (.int .i64))), x0⟩, ⟨(.int .i64), x1⟩, ⟨(.int .i64), x2⟩, ⟨(.int .i64), x3⟩, ⟨(.int .i64), x4⟩, ⟨(.slice (.slice (.int .i64))), x5⟩, ⟨(.slice (.int .i64)), x6⟩]) := by kernel_rfl
theorem slices_IndexFunc_____int___int_.s5 : stackAt 5 slices_IndexFunc_____int___int_.body [] = some (stackOf 5 slices_IndexFunc_____int___int_.body) := by kernel_rfl
theorem slices_IndexFunc_____int___int_.h5 (k : Nat) (ds : List Dat) (r : Int × Int × Int × (List (List Int)) × (List Int)) (h : slices_IndexFunc_____int___int_.c5 k ds = some r) : ∃ k', k' < k ∧ ∃ s, stackAt 5 slices_IndexFunc_____int___int_.body [] = some s ∧ slices_IndexFunc_____int___int_.R k' (start s) (slices_IndexFunc_____int___int_.t5.fill ds) = some r := by
  unfold slices_IndexFunc_____int___int_.c5 at h
  obtain ⟨x0, d0, rfl, h0⟩ := pop_some h
  obtain ⟨x1, d1, rfl, h1⟩ := pop_some h0
  obtain ⟨x2, d2, rfl, h2⟩ := pop_some h1
  obtain ⟨x3, d3, rfl, h3⟩ := pop_some h2
  obtain ⟨x4, d4, rfl, h4⟩ := pop_some h3
  obtain ⟨x5, d5, rfl, h5⟩ := pop_some h4
  obtain ⟨x6, d6, rfl, h6⟩ := pop_some h5
  obtain ⟨rfl, g⟩ := popN_some h6
  cases k with
  | zero => cases (show none = some r from g)
  | succ k => exact ⟨k, Nat.lt_succ_self k, _, slices_IndexFunc_____int___int_.s5, (slices_IndexFunc_____int___int_.e5 k x0 x1 x2 x3 x4 x5 x6).symm.trans g⟩
theorem slices_IndexFunc_____int___int_.e (k : Nat) (x0 : (List (List Int))) (x1 : Int) (x2 : Int) (x3 : (List (List Int))) (x4 : (List Int)) : slices_IndexFunc_____int___int_.f k x0 x1 x2 x3 x4 = slices_IndexFunc_____int___int_.R k ([.code slices_IndexFunc_____int___int_.body]) (slices_IndexFunc_____int___int_.ti.fill [⟨(.slice (.slice (.int .i64))), x0⟩, ⟨(.int .i64), x1⟩, ⟨(.int .i64), x2⟩, ⟨(.slice (.slice (.int .i64))), x3⟩, ⟨(.slice (.int .i64)), x4⟩]) := by kernel_rfl
theorem slices_IndexFunc_____int___int_.h (k : Nat) (ds : List Dat) (r : Int × Int × Int × (List (List Int)) × (List Int)) (h : slices_IndexFunc_____int___int_.g k ds = some r) : ∃ k', k' < k ∧ slices_IndexFunc_____int___int_.R k' ([.code slices_IndexFunc_____int___int_.body]) (slices_IndexFunc_____int___int_.ti.fill ds) = some r := by
  cases k with
  | zero => cases (show none = some r from h)
  | succ k =>
  replace h : slices_IndexFunc_____int___int_.c k ds = some r := h
  unfold slices_IndexFunc_____int___int_.c at h
  obtain ⟨x0, d0, rfl, h0⟩ := pop_some h
  obtain ⟨x1, d1, rfl, h1⟩ := pop_some h0
  obtain ⟨x2, d2, rfl, h2⟩ := pop_some h1
  obtain ⟨x3, d3, rfl, h3⟩ := pop_some h2
  obtain ⟨x4, d4, rfl, h4⟩ := pop_some h3
  obtain ⟨rfl, g⟩ := popN_some h4
  exact ⟨k, Nat.lt_succ_self k, (slices_IndexFunc_____int___int_.e k x0 x1 x2 x3 x4).symm.trans g⟩
theorem slices_IndexFunc_____int___int_.o (ds : List Dat) (r : Int × Int × Int × (List (List Int)) × (List Int)) (h : slices_IndexFunc_____int___int_.out ds = some r) : ds = slices_IndexFunc_____int___int_.rs r := by
  unfold slices_IndexFunc_____int___int_.out at h
  obtain ⟨x0, d0, rfl, h0⟩ := pop_some h
  obtain ⟨x1, d1, rfl, h1⟩ := pop_some h0
  obtain ⟨x2, d2, rfl, h2⟩ := pop_some h1
  obtain ⟨x3, d3, rfl, h3⟩ := pop_some h2
  obtain ⟨x4, d4, rfl, h4⟩ := pop_some h3
  obtain ⟨rfl, g⟩ := popN_some h4
  cases g
  rfl
theorem slices_IndexFunc_____int___int_.fn : FnOk Try.prog 148 Try.f148 slices_IndexFunc_____int___int_.body Try.f148.ntmps 2 (fnRes Try.f148) :=
  fnOk_of (by kernel_rfl) (by kernel_rfl) (by kernel_rfl) (by kernel_rfl)
theorem slices_IndexFunc_____int___int_.con' : ∀ k ds r, slices_IndexFunc_____int___int_.g k ds = some r → Con Try.prog 148 2 slices_IndexFunc_____int___int_.ti slices_IndexFunc_____int___int_.to ds (slices_IndexFunc_____int___int_.rs r) :=
  fun_ok (T := T) T_ok mixed slices_IndexFunc_____int___int_.fn (env := slices_IndexFunc_____int___int_.env) (tbl := slices_IndexFunc_____int___int_.tbl) (gOut := slices_IndexFunc_____int___int_.out) (nin := 1) (cuts := []) (fuel := 100000) rfl (by kernel_rfl) (by kernel_rfl) (by kernel_rfl) (fun x hx => by
    simp only [slices_IndexFunc_____int___int_.tbl, List.mem_cons, List.not_mem_nil, or_false] at hx
    subst hx
    · exact slices_IndexFunc_____int___int_.h5
) slices_IndexFunc_____int___int_.o slices_IndexFunc_____int___int_.h (fun k _ => by unfold slices_IndexFunc_____int___int_.env; exact (envC_ok (fun ds K r h => by
    obtain ⟨x0, d0, rfl, h0⟩ := pop_some h
    obtain ⟨x1, d1, rfl, h1⟩ := pop_some h0
    obtain ⟨x2, d2, rfl, h2⟩ := pop_some h1
    obtain ⟨x3, d3, rfl, h3⟩ := pop_some h2
    obtain ⟨x4, d4, rfl, h4⟩ := pop_some h3
    obtain ⟨rfl, g⟩ := popN_some h4
    obtain ⟨r1, h1, h2⟩ := bind_some g
    exact ⟨_, h2, det_Check_1.con k _ h1⟩) env0_ok))
theorem slices_IndexFunc_____int___int_.con (k : Nat) {x0 : (List (List Int))} {x1 : Int} {x2 : Int} {x3 : (List (List Int))} {x4 : (List Int)} (r : Int × Int × Int × (List (List Int)) × (List Int)) (h : slices_IndexFunc_____int___int_.f k x0 x1 x2 x3 x4 = some r) : Con Try.prog 148 2 slices_IndexFunc_____int___int_.ti slices_IndexFunc_____int___int_.to [⟨(.slice (.slice (.int .i64))), x0⟩, ⟨(.int .i64), x1⟩, ⟨(.int .i64), x2⟩, ⟨(.slice (.slice (.int .i64))), x3⟩, ⟨(.slice (.int .i64)), x4⟩] (slices_IndexFunc_____int___int_.rs r) :=
  slices_IndexFunc_____int___int_.con' (k + 1) _ r (by show slices_IndexFunc_____int___int_.c k _ = some r; unfold slices_IndexFunc_____int___int_.c; simp only [pop_self, popN]; exact h)
def slices_ContainsFunc_____int___int_.f (k : Nat) (s0 : List (List (Int))) (c0_0 : Int) (c0_1 : Int) (c0_2 : List (List (Int))) (c0_3 : List (Int)) : Option (Bool × Int × Int × List (List Int) × List Int) :=
 (slices_IndexFunc_____int___int_.f k s0 c0_0 c0_1 c0_2 c0_3).bind fun r1 =>
  some (decide (0 ≤ r1.fst), r1.snd.fst, r1.snd.snd.fst, r1.snd.snd.snd.fst, r1.snd.snd.snd.snd)

noncomputable def slices_ContainsFunc_____int___int_.body : Code := fnBody Try.f75
def slices_ContainsFunc_____int___int_.ti : Tm := ⟨[(0, .p (.slice (.slice (.int .i64)))), (1, .fn 157 [.ptr 0 0])], [.box [.p (.int .i64), .p (.int .i64), .p (.slice (.slice (.int .i64))), .p (.slice (.int .i64))] 58]⟩
def slices_ContainsFunc_____int___int_.to : Tm := ⟨[(0, .p .bool)], [.box [.p (.int .i64), .p (.int .i64), .p (.slice (.slice (.int .i64))), .p (.slice (.int .i64))] 58]⟩
def slices_ContainsFunc_____int___int_.rs (r : Bool × Int × Int × (List (List Int)) × (List Int)) : List Dat := [⟨.bool, r.1⟩, ⟨(.int .i64), r.2.1⟩, ⟨(.int .i64), r.2.2.1⟩, ⟨(.slice (.slice (.int .i64))), r.2.2.2.1⟩, ⟨(.slice (.int .i64)), r.2.2.2.2⟩]
def slices_ContainsFunc_____int___int_.out (ds : List Dat) : Option (Bool × Int × Int × (List (List Int)) × (List Int)) := pop .bool ds fun x0 ds => pop (.int .i64) ds fun x1 ds => pop (.int .i64) ds fun x2 ds => pop (.slice (.slice (.int .i64))) ds fun x3 ds => pop (.slice (.int .i64)) ds fun x4 ds => popN ds (some (x0, x1, x2, x3, x4))
def slices_ContainsFunc_____int___int_.c (k : Nat) (ds : List Dat) : Option (Bool × Int × Int × (List (List Int)) × (List Int)) := pop (.slice (.slice (.int .i64))) ds fun x0 ds => pop (.int .i64) ds fun x1 ds => pop (.int .i64) ds fun x2 ds => pop (.slice (.slice (.int .i64))) ds fun x3 ds => pop (.slice (.int .i64)) ds fun x4 ds => popN ds (slices_ContainsFunc_____int___int_.f k x0 x1 x2 x3 x4)
def slices_ContainsFunc_____int___int_.g : Nat → List Dat → Option (Bool × Int × Int × (List (List Int)) × (List Int))
 | 0, _ => none
 | k + 1, ds => slices_ContainsFunc_____int___int_.c k ds
def slices_ContainsFunc_____int___int_.env (k : Nat) : Nat → List SV → List Chunk → KT (Bool × Int × Int × (List (List Int)) × (List Int)) → Option (Bool × Int × Int × (List (List Int)) × (List Int)) := (envC 148 2 slices_IndexFunc_____int___int_.ti slices_IndexFunc_____int___int_.to (fun ds K => pop (.slice (.slice (.int .i64))) ds fun x0 ds => pop (.int .i64) ds fun x1 ds => pop (.int .i64) ds fun x2 ds => pop (.slice (.slice (.int .i64))) ds fun x3 ds => pop (.slice (.int .i64)) ds fun x4 ds => popN ds ((slices_IndexFunc_____int___int_.f k x0 x1 x2 x3 x4).bind fun r => K (slices_IndexFunc_____int___int_.rs r))) env0)
def slices_ContainsFunc_____int___int_.tbl : List (Nat × Tm × (Nat → List Dat → Option (Bool × Int × Int × (List (List Int)) × (List Int)))) := []
noncomputable abbrev slices_ContainsFunc_____int___int_.R (k : Nat) := run T (slices_ContainsFunc_____int___int_.env k) Try.f75.ntmps (cutE 1 slices_ContainsFunc_____int___int_.tbl k) (finE 1 slices_ContainsFunc_____int___int_.to slices_ContainsFunc_____int___int_.out) (fnRes Try.f75) [] 100000 true
theorem slices_ContainsFunc_____int___int_.e (k : Nat) (x0 : (List (List Int))) (x1 : Int) (x2 : Int) (x3 : (List (List Int))) (x4 : (List Int)) : slices_ContainsFunc_____int___int_.f k x0 x1 x2 x3 x4 = slices_ContainsFunc_____int___int_.R k ([.code slices_ContainsFunc_____int___int_.body]) (slices_ContainsFunc_____int___int_.ti.fill [⟨(.slice (.slice (.int .i64))), x0⟩, ⟨(.int .i64), x1⟩, ⟨(.int .i64), x2⟩, ⟨(.slice (.slice (.int .i64))), x3⟩, ⟨(.slice (.int .i64)), x4⟩]) := by kernel_rfl
theorem slices_ContainsFunc_____int___int_.h (k : Nat) (ds : List Dat) (r : Bool × Int × Int × (List (List Int)) × (List Int)) (h : slices_ContainsFunc_____int___int_.g k ds = some r) : ∃ k', k' < k ∧ slices_ContainsFunc_____int___int_.R k' ([.code slices_ContainsFunc_____int___int_.body]) (slices_ContainsFunc_____int___int_.ti.fill ds) = some r := by
  cases k with
  | zero => cases (show none = some r from h)
  | succ k =>
  replace h : slices_ContainsFunc_____int___int_.c k ds = some r := h
  unfold slices_ContainsFunc_____int___int_.c at h
  obtain ⟨x0, d0, rfl, h0⟩ := pop_some h
  obtain ⟨x1, d1, rfl, h1⟩ := pop_some h0
  obtain ⟨x2, d2, rfl, h2⟩ := pop_some h1
  obtain ⟨x3, d3, rfl, h3⟩ := pop_some h2
  obtain ⟨x4, d4, rfl, h4⟩ := pop_some h3
  obtain ⟨rfl, g⟩ := popN_some h4
  exact ⟨k, Nat.lt_succ_self k, (slices_ContainsFunc_____int___int_.e k x0 x1 x2 x3 x4).symm.trans g⟩
theorem slices_ContainsFunc_____int___int_.o (ds : List Dat) (r : Bool × Int × Int × (List (List Int)) × (List Int)) (h : slices_ContainsFunc_____int___int_.out ds = some r) : ds = slices_ContainsFunc_____int___int_.rs r := by
  unfold slices_ContainsFunc_____int___int_.out at h
  obtain ⟨x0, d0, rfl, h0⟩ := pop_some h
  obtain ⟨x1, d1, rfl, h1⟩ := pop_some h0
  obtain ⟨x2, d2, rfl, h2⟩ := pop_some h1
  obtain ⟨x3, d3, rfl, h3⟩ := pop_some h2
  obtain ⟨x4, d4, rfl, h4⟩ := pop_some h3
  obtain ⟨rfl, g⟩ := popN_some h4
  cases g
  rfl
theorem slices_ContainsFunc_____int___int_.fn : FnOk Try.prog 75 Try.f75 slices_ContainsFunc_____int___int_.body Try.f75.ntmps 2 (fnRes Try.f75) :=
  fnOk_of (by kernel_rfl) (by kernel_rfl) (by kernel_rfl) (by kernel_rfl)
theorem slices_ContainsFunc_____int___int_.con' : ∀ k ds r, slices_ContainsFunc_____int___int_.g k ds = some r → Con Try.prog 75 2 slices_ContainsFunc_____int___int_.ti slices_ContainsFunc_____int___int_.to ds (slices_ContainsFunc_____int___int_.rs r) :=
  fun_ok (T := T) T_ok mixed slices_ContainsFunc_____int___int_.fn (env := slices_ContainsFunc_____int___int_.env) (tbl := slices_ContainsFunc_____int___int_.tbl) (gOut := slices_ContainsFunc_____int___int_.out) (nin := 1) (cuts := []) (fuel := 100000) rfl (by kernel_rfl) (by kernel_rfl) (by kernel_rfl) (fun x hx => by simp [slices_ContainsFunc_____int___int_.tbl] at hx) slices_ContainsFunc_____int___int_.o slices_ContainsFunc_____int___int_.h (fun k _ => by unfold slices_ContainsFunc_____int___int_.env; exact (envC_ok (fun ds K r h => by
    obtain ⟨x0, d0, rfl, h0⟩ := pop_some h
    obtain ⟨x1, d1, rfl, h1⟩ := pop_some h0
    obtain ⟨x2, d2, rfl, h2⟩ := pop_some h1
    obtain ⟨x3, d3, rfl, h3⟩ := pop_some h2
    obtain ⟨x4, d4, rfl, h4⟩ := pop_some h3
    obtain ⟨rfl, g⟩ := popN_some h4
    obtain ⟨r1, h1, h2⟩ := bind_some g
    exact ⟨_, h2, slices_IndexFunc_____int___int_.con k _ h1⟩) env0_ok))
theorem slices_ContainsFunc_____int___int_.con (k : Nat) {x0 : (List (List Int))} {x1 : Int} {x2 : Int} {x3 : (List (List Int))} {x4 : (List Int)} (r : Bool × Int × Int × (List (List Int)) × (List Int)) (h : slices_ContainsFunc_____int___int_.f k x0 x1 x2 x3 x4 = some r) : Con Try.prog 75 2 slices_ContainsFunc_____int___int_.ti slices_ContainsFunc_____int___int_.to [⟨(.slice (.slice (.int .i64))), x0⟩, ⟨(.int .i64), x1⟩, ⟨(.int .i64), x2⟩, ⟨(.slice (.slice (.int .i64))), x3⟩, ⟨(.slice (.int .i64)), x4⟩] (slices_ContainsFunc_____int___int_.rs r) :=
  slices_ContainsFunc_____int___int_.con' (k + 1) _ r (by show slices_ContainsFunc_____int___int_.c k _ = some r; unfold slices_ContainsFunc_____int___int_.c; simp only [pop_self, popN]; exact h)
def det_Check_2.f (k : Nat) (q0 : Int) (x1_0 : Int) : Option (Bool × Int) :=
 if q0 < 0 then
  some (true, x1_0)
 else
  some (decide (x1_0 ≤ q0), x1_0)

noncomputable def det_Check_2.body : Code := fnBody Try.f158
def det_Check_2.ti : Tm := ⟨[(0, .p (.int .i64)), (1, .ptr 0 0)], [.box [.p (.int .i64)] 3]⟩
def det_Check_2.to : Tm := ⟨[(0, .p .bool)], [.box [.p (.int .i64)] 3]⟩
def det_Check_2.rs (r : Bool × Int) : List Dat := [⟨.bool, r.1⟩, ⟨(.int .i64), r.2⟩]
def det_Check_2.out (ds : List Dat) : Option (Bool × Int) := pop .bool ds fun x0 ds => pop (.int .i64) ds fun x1 ds => popN ds (some (x0, x1))
def det_Check_2.c (k : Nat) (ds : List Dat) : Option (Bool × Int) := pop (.int .i64) ds fun x0 ds => pop (.int .i64) ds fun x1 ds => popN ds (det_Check_2.f k x0 x1)
def det_Check_2.g : Nat → List Dat → Option (Bool × Int)
 | 0, _ => none
 | k + 1, ds => det_Check_2.c k ds
def det_Check_2.env (k : Nat) : Nat → List SV → List Chunk → KT (Bool × Int) → Option (Bool × Int) := env0
def det_Check_2.tbl : List (Nat × Tm × (Nat → List Dat → Option (Bool × Int))) := []
noncomputable abbrev det_Check_2.R (k : Nat) := run T (det_Check_2.env k) Try.f158.ntmps (cutE 1 det_Check_2.tbl k) (finE 1 det_Check_2.to det_Check_2.out) (fnRes Try.f158) [] 100000 true
theorem det_Check_2.e (k : Nat) (x0 : Int) (x1 : Int) : det_Check_2.f k x0 x1 = det_Check_2.R k ([.code det_Check_2.body]) (det_Check_2.ti.fill [⟨(.int .i64), x0⟩, ⟨(.int .i64), x1⟩]) := by kernel_rfl
theorem det_Check_2.h (k : Nat) (ds : List Dat) (r : Bool × Int) (h : det_Check_2.g k ds = some r) : ∃ k', k' < k ∧ det_Check_2.R k' ([.code det_Check_2.body]) (det_Check_2.ti.fill ds) = some r := by
  cases k with
  | zero => cases (show none = some r from h)
  | succ k =>
  replace h : det_Check_2.c k ds = some r := h
  unfold det_Check_2.c at h
  obtain ⟨x0, d0, rfl, h0⟩ := pop_some h
  obtain ⟨x1, d1, rfl, h1⟩ := pop_some h0
  obtain ⟨rfl, g⟩ := popN_some h1
  exact ⟨k, Nat.lt_succ_self k, (det_Check_2.e k x0 x1).symm.trans g⟩
theorem det_Check_2.o (ds : List Dat) (r : Bool × Int) (h : det_Check_2.out ds = some r) : ds = det_Check_2.rs r := by
  unfold det_Check_2.out at h
  obtain ⟨x0, d0, rfl, h0⟩ := pop_some h
  obtain ⟨x1, d1, rfl, h1⟩ := pop_some h0
  obtain ⟨rfl, g⟩ := popN_some h1
  cases g
  rfl
theorem det_Check_2.fn : FnOk Try.prog 158 Try.f158 det_Check_2.body Try.f158.ntmps 2 (fnRes Try.f158) :=
  fnOk_of (by kernel_rfl) (by kernel_rfl) (by kernel_rfl) (by kernel_rfl)
theorem det_Check_2.con' : ∀ k ds r, det_Check_2.g k ds = some r → Con Try.prog 158 2 det_Check_2.ti det_Check_2.to ds (det_Check_2.rs r) :=
  fun_ok (T := T) T_ok mixed det_Check_2.fn (env := det_Check_2.env) (tbl := det_Check_2.tbl) (gOut := det_Check_2.out) (nin := 1) (cuts := []) (fuel := 100000) rfl (by kernel_rfl) (by kernel_rfl) (by kernel_rfl) (fun x hx => by simp [det_Check_2.tbl] at hx) det_Check_2.o det_Check_2.h (fun k _ => by unfold det_Check_2.env; exact env0_ok)
theorem det_Check_2.con (k : Nat) {x0 : Int} {x1 : Int} (r : Bool × Int) (h : det_Check_2.f k x0 x1 = some r) : Con Try.prog 158 2 det_Check_2.ti det_Check_2.to [⟨(.int .i64), x0⟩, ⟨(.int .i64), x1⟩] (det_Check_2.rs r) :=
  det_Check_2.con' (k + 1) _ r (by show det_Check_2.c k _ = some r; unfold det_Check_2.c; simp only [pop_self, popN]; exact h)
mutual
def slices_IndexFunc___int_int_.l2 : Nat → List (Int) → Int → Int → Int → Option (Int × Int)
 | 0, _, _, _, _ => none
 | k + 1, s0, x7, x8, c0_0 =>
  if x8 < x7 then
   if 0 ≤ x8 then
   if x8 < (↑s0.length : Int) then
    (det_Check_2.f k (Go.Proofs.YtiiioobebeaafaaSx.rd (Int.ofNat 0) s0 x8) c0_0).bind fun r5 =>
      if r5.fst = true then
       some (x8, r5.snd)
      else
       slices_IndexFunc___int_int_.l2 k s0 x7 (Go.IntKind.i64.wrap (x8 + 1)) r5.snd
    else none
   else none
  else
   some (-1, c0_0)
end
def slices_IndexFunc___int_int_.f (k : Nat) (s0 : List (Int)) (c0_0 : Int) : Option (Int × Int) :=
 slices_IndexFunc___int_int_.l2 k s0 ((↑s0.length : Int)) 0 c0_0

noncomputable def slices_IndexFunc___int_int_.body : Code := fnBody Try.f149
def slices_IndexFunc___int_int_.ti : Tm := ⟨[(0, .p (.slice (.int .i64))), (1, .fn 158 [.ptr 0 0])], [.box [.p (.int .i64)] 3]⟩
def slices_IndexFunc___int_int_.to : Tm := ⟨[(0, .p (.int .i64))], [.box [.p (.int .i64)] 3]⟩
def slices_IndexFunc___int_int_.rs (r : Int × Int) : List Dat := [⟨(.int .i64), r.1⟩, ⟨(.int .i64), r.2⟩]
def slices_IndexFunc___int_int_.out (ds : List Dat) : Option (Int × Int) := pop (.int .i64) ds fun x0 ds => pop (.int .i64) ds fun x1 ds => popN ds (some (x0, x1))
def slices_IndexFunc___int_int_.c (k : Nat) (ds : List Dat) : Option (Int × Int) := pop (.slice (.int .i64)) ds fun x0 ds => pop (.int .i64) ds fun x1 ds => popN ds (slices_IndexFunc___int_int_.f k x0 x1)
def slices_IndexFunc___int_int_.g : Nat → List Dat → Option (Int × Int)
 | 0, _ => none
 | k + 1, ds => slices_IndexFunc___int_int_.c k ds
def slices_IndexFunc___int_int_.env (k : Nat) : Nat → List SV → List Chunk → KT (Int × Int) → Option (Int × Int) := (envC 158 2 det_Check_2.ti det_Check_2.to (fun ds K => pop (.int .i64) ds fun x0 ds => pop (.int .i64) ds fun x1 ds => popN ds ((det_Check_2.f k x0 x1).bind fun r => K (det_Check_2.rs r))) env0)
def slices_IndexFunc___int_int_.t5 : Tm := ⟨[(0, .p (.slice (.int .i64))), (1, .fn 158 [.ptr 0 0]), (7, .p (.int .i64)), (8, .p (.int .i64))], [.box [.p (.int .i64)] 3]⟩
def slices_IndexFunc___int_int_.c5 (k : Nat) (ds : List Dat) : Option (Int × Int) := pop (.slice (.int .i64)) ds fun x0 ds => pop (.int .i64) ds fun x1 ds => pop (.int .i64) ds fun x2 ds => pop (.int .i64) ds fun x3 ds => popN ds (slices_IndexFunc___int_int_.l2 k x0 x1 x2 x3)
def slices_IndexFunc___int_int_.tbl : List (Nat × Tm × (Nat → List Dat → Option (Int × Int))) := [(5, slices_IndexFunc___int_int_.t5, slices_IndexFunc___int_int_.c5)]
noncomputable abbrev slices_IndexFunc___int_int_.R (k : Nat) := run T (slices_IndexFunc___int_int_.env k) Try.f149.ntmps (cutE 1 slices_IndexFunc___int_int_.tbl k) (finE 1 slices_IndexFunc___int_int_.to slices_IndexFunc___int_int_.out) (fnRes Try.f149) [] 100000 true
theorem slices_IndexFunc___int_int_.e5 (k : Nat) (x0 : (List Int)) (x1 : Int) (x2 : Int) (x3 : Int) : slices_IndexFunc___int_int_.l2 (k + 1) x0 x1 x2 x3 = slices_IndexFunc___int_int_.R k (start (stackOf 5 slices_IndexFunc___int_int_.body)) (slices_IndexFunc___int_int_.t5.fill [⟨(.slice (.int .i64)), x0⟩, ⟨(.int .i64), x1⟩, ⟨(.int .i64), x2⟩, ⟨(.int .i64), x3⟩]) := by kernel_rfl
theorem slices_IndexFunc___int_int_.s5 : stackAt 5 slices_IndexFunc___int_int_.body [] = some (stackOf 5 slices_IndexFunc___int_int_.body) := by kernel_rfl
theorem slices_IndexFunc___int_int_.h5 (k : Nat) (ds : List Dat) (r : Int × Int) (h : slices_IndexFunc___int_int_.c5 k ds = some r) : ∃ k', k' < k ∧ ∃ s, stackAt 5 slices_IndexFunc___int_int_.body [] = some s ∧ slices_IndexFunc___int_int_.R k' (start s) (slices_IndexFunc___int_int_.t5.fill ds) = some r := by
  unfold slices_IndexFunc___int_int_.c5 at h
  obtain ⟨x0, d0, rfl, h0⟩ := pop_some h
  obtain ⟨x1, d1, rfl, h1⟩ := pop_some h0
  obtain ⟨x2, d2, rfl, h2⟩ := pop_some h1
  obtain ⟨x3, d3, rfl, h3⟩ := pop_some h2
  obtain ⟨rfl, g⟩ := popN_some h3
  cases k with
  | zero => cases (show none = some r from g)
  | succ k => exact ⟨k, Nat.lt_succ_self k, _, slices_IndexFunc___int_int_.s5, (slices_IndexFunc___int_int_.e5 k x0 x1 x2 x3).symm.trans g⟩
theorem slices_IndexFunc___int_int_.e (k : Nat) (x0 : (List Int)) (x1 : Int) : slices_IndexFunc___int_int_.f k x0 x1 = slices_IndexFunc___int_int_.R k ([.code slices_IndexFunc___int_int_.body]) (slices_IndexFunc___int_int_.ti.fill [⟨(.slice (.int .i64)), x0⟩, ⟨(.int .i64), x1⟩]) := by kernel_rfl
theorem slices_IndexFunc___int_int_.h (k : Nat) (ds : List Dat) (r : Int × Int) (h : slices_IndexFunc___int_int_.g k ds = some r) : ∃ k', k' < k ∧ slices_IndexFunc___int_int_.R k' ([.code slices_IndexFunc___int_int_.body]) (slices_IndexFunc___int_int_.ti.fill ds) = some r := by
  cases k with
  | zero => cases (show none = some r from h)
  | succ k =>
  replace h : slices_IndexFunc___int_int_.c k ds = some r := h
  unfold slices_IndexFunc___int_int_.c at h
  obtain ⟨x0, d0, rfl, h0⟩ := pop_some h
  obtain ⟨x1, d1, rfl, h1⟩ := pop_some h0
  obtain ⟨rfl, g⟩ := popN_some h1
  exact ⟨k, Nat.lt_succ_self k, (slices_IndexFunc___int_int_.e k x0 x1).symm.trans g⟩
theorem slices_IndexFunc___int_int_.o (ds : List Dat) (r : Int × Int) (h : slices_IndexFunc___int_int_.out ds = some r) : ds = slices_IndexFunc___int_int_.rs r := by
  unfold slices_IndexFunc___int_int_.out at h
  obtain ⟨x0, d0, rfl, h0⟩ := pop_some h
  obtain ⟨x1, d1, rfl, h1⟩ := pop_some h0
  obtain ⟨rfl, g⟩ := popN_some h1
  cases g
  rfl
theorem slices_IndexFunc___int_int_.fn : FnOk Try.prog 149 Try.f149 slices_IndexFunc___int_int_.body Try.f149.ntmps 2 (fnRes Try.f149) :=
  fnOk_of (by kernel_rfl) (by kernel_rfl) (by kernel_rfl) (by kernel_rfl)
theorem slices_IndexFunc___int_int_.con' : ∀ k ds r, slices_IndexFunc___int_int_.g k ds = some r → Con Try.prog 149 2 slices_IndexFunc___int_int_.ti slices_IndexFunc___int_int_.to ds (slices_IndexFunc___int_int_.rs r) :=
  fun_ok (T := T) T_ok mixed slices_IndexFunc___int_int_.fn (env := slices_IndexFunc___int_int_.env) (tbl := slices_IndexFunc___int_int_.tbl) (gOut := slices_IndexFunc___int_int_.out) (nin := 1) (cuts := []) (fuel := 100000) rfl (by kernel_rfl) (by kernel_rfl) (by kernel_rfl) (fun x hx => by
    simp only [slices_IndexFunc___int_int_.tbl, List.mem_cons, List.not_mem_nil, or_false] at hx
    subst hx
    · exact slices_IndexFunc___int_int_.h5
) slices_IndexFunc___int_int_.o slices_IndexFunc___int_int_.h (fun k _ => by unfold slices_IndexFunc___int_int_.env; exact (envC_ok (fun ds K r h => by
    obtain ⟨x0, d0, rfl, h0⟩ := pop_some h
    obtain ⟨x1, d1, rfl, h1⟩ := pop_some h0
    obtain ⟨rfl, g⟩ := popN_some h1
    obtain ⟨r1, h1, h2⟩ := bind_some g
    exact ⟨_, h2, det_Check_2.con k _ h1⟩) env0_ok))
theorem slices_IndexFunc___int_int_.con (k : Nat) {x0 : (List Int)} {x1 : Int} (r : Int × Int) (h : slices_IndexFunc___int_int_.f k x0 x1 = some r) : Con Try.prog 149 2 slices_IndexFunc___int_int_.ti slices_IndexFunc___int_int_.to [⟨(.slice (.int .i64)), x0⟩, ⟨(.int .i64), x1⟩] (slices_IndexFunc___int_int_.rs r) :=
  slices_IndexFunc___int_int_.con' (k + 1) _ r (by show slices_IndexFunc___int_int_.c k _ = some r; unfold slices_IndexFunc___int_int_.c; simp only [pop_self, popN]; exact h)
def slices_ContainsFunc___int_int_.f (k : Nat) (s0 : List (Int)) (c0_0 : Int) : Option (Bool × Int) :=
 (slices_IndexFunc___int_int_.f k s0 c0_0).bind fun r1 =>
  some (decide (0 ≤ r1.fst), r1.snd)

noncomputable def slices_ContainsFunc___int_int_.body : Code := fnBody Try.f77
def slices_ContainsFunc___int_int_.ti : Tm := ⟨[(0, .p (.slice (.int .i64))), (1, .fn 158 [.ptr 0 0])], [.box [.p (.int .i64)] 3]⟩
def slices_ContainsFunc___int_int_.to : Tm := ⟨[(0, .p .bool)], [.box [.p (.int .i64)] 3]⟩
def slices_ContainsFunc___int_int_.rs (r : Bool × Int) : List Dat := [⟨.bool, r.1⟩, ⟨(.int .i64), r.2⟩]
def slices_ContainsFunc___int_int_.out (ds : List Dat) : Option (Bool × Int) := pop .bool ds fun x0 ds => pop (.int .i64) ds fun x1 ds => popN ds (some (x0, x1))
def slices_ContainsFunc___int_int_.c (k : Nat) (ds : List Dat) : Option (Bool × Int) := pop (.slice (.int .i64)) ds fun x0 ds => pop (.int .i64) ds fun x1 ds => popN ds (slices_ContainsFunc___int_int_.f k x0 x1)
def slices_ContainsFunc___int_int_.g : Nat → List Dat → Option (Bool × Int)
 | 0, _ => none
 | k + 1, ds => slices_ContainsFunc___int_int_.c k ds
def slices_ContainsFunc___int_int_.env (k : Nat) : Nat → List SV → List Chunk → KT (Bool × Int) → Option (Bool × Int) := (envC 149 2 slices_IndexFunc___int_int_.ti slices_IndexFunc___int_int_.to (fun ds K => pop (.slice (.int .i64)) ds fun x0 ds => pop (.int .i64) ds fun x1 ds => popN ds ((slices_IndexFunc___int_int_.f k x0 x1).bind fun r => K (slices_IndexFunc___int_int_.rs r))) env0)
def slices_ContainsFunc___int_int_.tbl : List (Nat × Tm × (Nat → List Dat → Option (Bool × Int))) := []
noncomputable abbrev slices_ContainsFunc___int_int_.R (k : Nat) := run T (slices_ContainsFunc___int_int_.env k) Try.f77.ntmps (cutE 1 slices_ContainsFunc___int_int_.tbl k) (finE 1 slices_ContainsFunc___int_int_.to slices_ContainsFunc___int_int_.out) (fnRes Try.f77) [] 100000 true
theorem slices_ContainsFunc___int_int_.e (k : Nat) (x0 : (List Int)) (x1 : Int) : slices_ContainsFunc___int_int_.f k x0 x1 = slices_ContainsFunc___int_int_.R k ([.code slices_ContainsFunc___int_int_.body]) (slices_ContainsFunc___int_int_.ti.fill [⟨(.slice (.int .i64)), x0⟩, ⟨(.int .i64), x1⟩]) := by kernel_rfl
theorem slices_ContainsFunc___int_int_.h (k : Nat) (ds : List Dat) (r : Bool × Int) (h : slices_ContainsFunc___int_int_.g k ds = some r) : ∃ k', k' < k ∧ slices_ContainsFunc___int_int_.R k' ([.code slices_ContainsFunc___int_int_.body]) (slices_ContainsFunc___int_int_.ti.fill ds) = some r := by
  cases k with
  | zero => cases (show none = some r from h)
  | succ k =>
  replace h : slices_ContainsFunc___int_int_.c k ds = some r := h
  unfold slices_ContainsFunc___int_int_.c at h
  obtain ⟨x0, d0, rfl, h0⟩ := pop_some h
  obtain ⟨x1, d1, rfl, h1⟩ := pop_some h0
  obtain ⟨rfl, g⟩ := popN_some h1
  exact ⟨k, Nat.lt_succ_self k, (slices_ContainsFunc___int_int_.e k x0 x1).symm.trans g⟩
theorem slices_ContainsFunc___int_int_.o (ds : List Dat) (r : Bool × Int) (h : slices_ContainsFunc___int_int_.out ds = some r) : ds = slices_ContainsFunc___int_int_.rs r := by
  unfold slices_ContainsFunc___int_int_.out at h
  obtain ⟨x0, d0, rfl, h0⟩ := pop_some h
  obtain ⟨x1, d1, rfl, h1⟩ := pop_some h0
  obtain ⟨rfl, g⟩ := popN_some h1
  cases g
  rfl
theorem slices_ContainsFunc___int_int_.fn : FnOk Try.prog 77 Try.f77 slices_ContainsFunc___int_int_.body Try.f77.ntmps 2 (fnRes Try.f77) :=
  fnOk_of (by kernel_rfl) (by kernel_rfl) (by kernel_rfl) (by kernel_rfl)
theorem slices_ContainsFunc___int_int_.con' : ∀ k ds r, slices_ContainsFunc___int_int_.g k ds = some r → Con Try.prog 77 2 slices_ContainsFunc___int_int_.ti slices_ContainsFunc___int_int_.to ds (slices_ContainsFunc___int_int_.rs r) :=
  fun_ok (T := T) T_ok mixed slices_ContainsFunc___int_int_.fn (env := slices_ContainsFunc___int_int_.env) (tbl := slices_ContainsFunc___int_int_.tbl) (gOut := slices_ContainsFunc___int_int_.out) (nin := 1) (cuts := []) (fuel := 100000) rfl (by kernel_rfl) (by kernel_rfl) (by kernel_rfl) (fun x hx => by simp [slices_ContainsFunc___int_int_.tbl] at hx) slices_ContainsFunc___int_int_.o slices_ContainsFunc___int_int_.h (fun k _ => by unfold slices_ContainsFunc___int_int_.env; exact (envC_ok (fun ds K r h => by
    obtain ⟨x0, d0, rfl, h0⟩ := pop_some h
    obtain ⟨x1, d1, rfl, h1⟩ := pop_some h0
    obtain ⟨rfl, g⟩ := popN_some h1
    obtain ⟨r1, h1, h2⟩ := bind_some g
    exact ⟨_, h2, slices_IndexFunc___int_int_.con k _ h1⟩) env0_ok))
theorem slices_ContainsFunc___int_int_.con (k : Nat) {x0 : (List Int)} {x1 : Int} (r : Bool × Int) (h : slices_ContainsFunc___int_int_.f k x0 x1 = some r) : Con Try.prog 77 2 slices_ContainsFunc___int_int_.ti slices_ContainsFunc___int_int_.to [⟨(.slice (.int .i64)), x0⟩, ⟨(.int .i64), x1⟩] (slices_ContainsFunc___int_int_.rs r) :=
  slices_ContainsFunc___int_int_.con' (k + 1) _ r (by show slices_ContainsFunc___int_int_.c k _ = some r; unfold slices_ContainsFunc___int_int_.c; simp only [pop_self, popN]; exact h)
def det_Check_3.f (k : Nat) (r0 : List (Int)) (c1_0 : Int) : Option (Bool × Int) :=
 (slices_ContainsFunc___int_int_.f k r0 c1_0).bind fun r1 =>
  some (r1.fst, r1.snd)

noncomputable def det_Check_3.body : Code := fnBody Try.f159
def det_Check_3.ti : Tm := ⟨[(0, .p (.slice (.int .i64))), (1, .ptr 0 0)], [.box [.fn 158 [.ptr 1 0]] 113, .box [.p (.int .i64)] 3]⟩
def det_Check_3.to : Tm := ⟨[(0, .p .bool)], [.box [.fn 158 [.ptr 1 0]] 113, .box [.p (.int .i64)] 3]⟩
def det_Check_3.rs (r : Bool × Int) : List Dat := [⟨.bool, r.1⟩, ⟨(.int .i64), r.2⟩]
def det_Check_3.out (ds : List Dat) : Option (Bool × Int) := pop .bool ds fun x0 ds => pop (.int .i64) ds fun x1 ds => popN ds (some (x0, x1))
def det_Check_3.c (k : Nat) (ds : List Dat) : Option (Bool × Int) := pop (.slice (.int .i64)) ds fun x0 ds => pop (.int .i64) ds fun x1 ds => popN ds (det_Check_3.f k x0 x1)
def det_Check_3.g : Nat → List Dat → Option (Bool × Int)
 | 0, _ => none
 | k + 1, ds => det_Check_3.c k ds
def det_Check_3.env (k : Nat) : Nat → List SV → List Chunk → KT (Bool × Int) → Option (Bool × Int) := (envC 77 2 slices_ContainsFunc___int_int_.ti slices_ContainsFunc___int_int_.to (fun ds K => pop (.slice (.int .i64)) ds fun x0 ds => pop (.int .i64) ds fun x1 ds => popN ds ((slices_ContainsFunc___int_int_.f k x0 x1).bind fun r => K (slices_ContainsFunc___int_int_.rs r))) env0)
def det_Check_3.tbl : List (Nat × Tm × (Nat → List Dat → Option (Bool × Int))) := []
noncomputable abbrev det_Check_3.R (k : Nat) := run T (det_Check_3.env k) Try.f159.ntmps (cutE 2 det_Check_3.tbl k) (finE 2 det_Check_3.to det_Check_3.out) (fnRes Try.f159) [] 100000 true
theorem det_Check_3.e (k : Nat) (x0 : (List Int)) (x1 : Int) : det_Check_3.f k x0 x1 = det_Check_3.R k ([.code det_Check_3.body]) (det_Check_3.ti.fill [⟨(.slice (.int .i64)), x0⟩, ⟨(.int .i64), x1⟩]) := by kernel_rfl
theorem det_Check_3.h (k : Nat) (ds : List Dat) (r : Bool × Int) (h : det_Check_3.g k ds = some r) : ∃ k', k' < k ∧ det_Check_3.R k' ([.code det_Check_3.body]) (det_Check_3.ti.fill ds) = some r := by
  cases k with
  | zero => cases (show none = some r from h)
  | succ k =>
  replace h : det_Check_3.c k ds = some r := h
  unfold det_Check_3.c at h
  obtain ⟨x0, d0, rfl, h0⟩ := pop_some h
  obtain ⟨x1, d1, rfl, h1⟩ := pop_some h0
  obtain ⟨rfl, g⟩ := popN_some h1
  exact ⟨k, Nat.lt_succ_self k, (det_Check_3.e k x0 x1).symm.trans g⟩
theorem det_Check_3.o (ds : List Dat) (r : Bool × Int) (h : det_Check_3.out ds = some r) : ds = det_Check_3.rs r := by
  unfold det_Check_3.out at h
  obtain ⟨x0, d0, rfl, h0⟩ := pop_some h
  obtain ⟨x1, d1, rfl, h1⟩ := pop_some h0
  obtain ⟨rfl, g⟩ := popN_some h1
  cases g
  rfl
theorem det_Check_3.fn : FnOk Try.prog 159 Try.f159 det_Check_3.body Try.f159.ntmps 2 (fnRes Try.f159) :=
  fnOk_of (by kernel_rfl) (by kernel_rfl) (by kernel_rfl) (by kernel_rfl)
theorem det_Check_3.con' : ∀ k ds r, det_Check_3.g k ds = some r → Con Try.prog 159 2 det_Check_3.ti det_Check_3.to ds (det_Check_3.rs r) :=
  fun_ok (T := T) T_ok mixed det_Check_3.fn (env := det_Check_3.env) (tbl := det_Check_3.tbl) (gOut := det_Check_3.out) (nin := 2) (cuts := []) (fuel := 100000) rfl (by kernel_rfl) (by kernel_rfl) (by kernel_rfl) (fun x hx => by simp [det_Check_3.tbl] at hx) det_Check_3.o det_Check_3.h (fun k _ => by unfold det_Check_3.env; exact (envC_ok (fun ds K r h => by
    obtain ⟨x0, d0, rfl, h0⟩ := pop_some h
    obtain ⟨x1, d1, rfl, h1⟩ := pop_some h0
    obtain ⟨rfl, g⟩ := popN_some h1
    obtain ⟨r1, h1, h2⟩ := bind_some g
    exact ⟨_, h2, slices_ContainsFunc___int_int_.con k _ h1⟩) env0_ok))
theorem det_Check_3.con (k : Nat) {x0 : (List Int)} {x1 : Int} (r : Bool × Int) (h : det_Check_3.f k x0 x1 = some r) : Con Try.prog 159 2 det_Check_3.ti det_Check_3.to [⟨(.slice (.int .i64)), x0⟩, ⟨(.int .i64), x1⟩] (det_Check_3.rs r) :=
  det_Check_3.con' (k + 1) _ r (by show det_Check_3.c k _ = some r; unfold det_Check_3.c; simp only [pop_self, popN]; exact h)
mutual
def slices_IndexFunc_____int___int__2.l2 : Nat → List (List (Int)) → Int → Int → Int → Option (Int × Int)
 | 0, _, _, _, _ => none
 | k + 1, s0, x7, x8, c1_0 =>
  if x8 < x7 then
   if 0 ≤ x8 then
   if x8 < (↑s0.length : Int) then
    (det_Check_3.f k (Go.Proofs.YtiiioobebeaafaaSx.rd [] s0 x8) c1_0).bind fun r5 =>
      if r5.fst = true then
       some (x8, r5.snd)
      else
       slices_IndexFunc_____int___int__2.l2 k s0 x7 (Go.IntKind.i64.wrap (x8 + 1)) r5.snd
    else none
   else none
  else
   some (-1, c1_0)
end
def slices_IndexFunc_____int___int__2.f (k : Nat) (s0 : List (List (Int))) (c1_0 : Int) : Option (Int × Int) :=
 slices_IndexFunc_____int___int__2.l2 k s0 ((↑s0.length : Int)) 0 c1_0

noncomputable def slices_IndexFunc_____int___int__2.body : Code := fnBody Try.f148
def slices_IndexFunc_____int___int__2.ti : Tm := ⟨[(0, .p (.slice (.slice (.int .i64)))), (1, .fn 159 [.ptr 0 0])], [.box [.fn 158 [.ptr 1 0]] 113, .box [.p (.int .i64)] 3]⟩
def slices_IndexFunc_____int___int__2.to : Tm := ⟨[(0, .p (.int .i64))], [.box [.fn 158 [.ptr 1 0]] 113, .box [.p (.int .i64)] 3]⟩
def slices_IndexFunc_____int___int__2.rs (r : Int × Int) : List Dat := [⟨(.int .i64), r.1⟩, ⟨(.int .i64), r.2⟩]
def slices_IndexFunc_____int___int__2.out (ds : List Dat) : Option (Int × Int) := pop (.int .i64) ds fun x0 ds => pop (.int .i64) ds fun x1 ds => popN ds (some (x0, x1))
def slices_IndexFunc_____int___int__2.c (k : Nat) (ds : List Dat) : Option (Int × Int) := pop (.slice (.slice (.int .i64))) ds fun x0 ds => pop (.int .i64) ds fun x1 ds => popN ds (slices_IndexFunc_____int___int__2.f k x0 x1)
def slices_IndexFunc_____int___int__2.g : Nat → List Dat → Option (Int × Int)
 | 0, _ => none
 | k + 1, ds => slices_IndexFunc_____int___int__2.c k ds
def slices_IndexFunc_____int___int__2.env (k : Nat) : Nat → List SV → List Chunk → KT (Int × Int) → Option (Int × Int) := (envC 159 2 det_Check_3.ti det_Check_3.to (fun ds K => pop (.slice (.int .i64)) ds fun x0 ds => pop (.int .i64) ds fun x1 ds => popN ds ((det_Check_3.f k x0 x1).bind fun r => K (det_Check_3.rs r))) env0)
def slices_IndexFunc_____int___int__2.t5 : Tm := ⟨[(0, .p (.slice (.slice (.int .i64)))), (1, .fn 159 [.ptr 0 0]), (7, .p (.int .i64)), (8, .p (.int .i64))], [.box [.fn 158 [.ptr 1 0]] 113, .box [.p (.int .i64)] 3]⟩
def slices_IndexFunc_____int___int__2.c5 (k : Nat) (ds : List Dat) : Option (Int × Int) := pop (.slice (.slice (.int .i64))) ds fun x0 ds => pop (.int .i64) ds fun x1 ds => pop (.int .i64) ds fun x2 ds => pop (.int .i64) ds fun x3 ds => popN ds (slices_IndexFunc_____int___int__2.l2 k x0 x1 x2 x3)
def slices_IndexFunc_____int___int__2.tbl : List (Nat × Tm × (Nat → List Dat → Option (Int × Int))) := [(5, slices_IndexFunc_____int___int__2.t5, slices_IndexFunc_____int___int__2.c5)]
noncomputable abbrev slices_IndexFunc_____int___int__2.R (k : Nat) := run T (slices_IndexFunc_____int___int__2.env k) Try.f148.ntmps (cutE 2 slices_IndexFunc_____int___int__2.tbl k) (finE 2 slices_IndexFunc_____int___int__2.to slices_IndexFunc_____int___int__2.out) (fnRes Try.f148) [] 100000 true
theorem slices_IndexFunc_____int___int__2.e5 (k : Nat) (x0 : (List (List Int))) (x1 : Int) (x2 : Int) (x3 : Int) : slices_IndexFunc_____int___int__2.l2 (k + 1) x0 x1 x2 x3 = slices_IndexFunc_____int___int__2.R k (start (stackOf 5 slices_IndexFunc_____int___int__2.body)) (slices_IndexFunc_____int___int__2.t5.fill [⟨(.slice (.slice (.int .i64))), x0⟩, ⟨(.int .i64), x1⟩, ⟨(.int .i64), x2⟩, ⟨(.int .i64), x3⟩]) := by kernel_rfl
theorem slices_IndexFunc_____int___int__2.s5 : stackAt 5 slices_IndexFunc_____int___int__2.body [] = some (stackOf 5 slices_IndexFunc_____int___int__2.body) := by kernel_rfl
theorem slices_IndexFunc_____int___int__2.h5 (k : Nat) (ds : List Dat) (r : Int × Int) (h : slices_IndexFunc_____int___int__2.c5 k ds = some r) : ∃ k', k' < k ∧ ∃ s, stackAt 5 slices_IndexFunc_____int___int__2.body [] = some s ∧ slices_IndexFunc_____int___int__2.R k' (start s) (slices_IndexFunc_____int___int__2.t5.fill ds) = some r := by
  unfold slices_IndexFunc_____int___int__2.c5 at h
  obtain ⟨x0, d0, rfl, h0⟩ := pop_some h
  obtain ⟨x1, d1, rfl, h1⟩ := pop_some h0
  obtain ⟨x2, d2, rfl, h2⟩ := pop_some h1
  obtain ⟨x3, d3, rfl, h3⟩ := pop_some h2
  obtain ⟨rfl, g⟩ := popN_some h3
  cases k with
  | zero => cases (show none = some r from g)
  | succ k => exact ⟨k, Nat.lt_succ_self k, _, slices_IndexFunc_____int___int__2.s5, (slices_IndexFunc_____int___int__2.e5 k x0 x1 x2 x3).symm.trans g⟩
theorem slices_IndexFunc_____int___int__2.e (k : Nat) (x0 : (List (List Int))) (x1 : Int) : slices_IndexFunc_____int___int__2.f k x0 x1 = slices_IndexFunc_____int___int__2.R k ([.code slices_IndexFunc_____int___int__2.body]) (slices_IndexFunc_____int___int__2.ti.fill [⟨(.slice (.slice (.int .i64))), x0⟩, ⟨(.int .i64), x1⟩]) := by kernel_rfl
theorem slices_IndexFunc_____int___int__2.h (k : Nat) (ds : List Dat) (r : Int × Int) (h : slices_IndexFunc_____int___int__2.g k ds = some r) : ∃ k', k' < k ∧ slices_IndexFunc_____int___int__2.R k' ([.code slices_IndexFunc_____int___int__2.body]) (slices_IndexFunc_____int___int__2.ti.fill ds) = some r := by
  cases k with
  | zero => cases (show none = some r from h)
  | succ k =>
  replace h : slices_IndexFunc_____int___int__2.c k ds = some r := h
  unfold slices_IndexFunc_____int___int__2.c at h
  obtain ⟨x0, d0, rfl, h0⟩ := pop_some h
  obtain ⟨x1, d1, rfl, h1⟩ := pop_some h0
  obtain ⟨rfl, g⟩ := popN_some h1
  exact ⟨k, Nat.lt_succ_self k, (slices_IndexFunc_____int___int__2.e k x0 x1).symm.trans g⟩
theorem slices_IndexFunc_____int___int__2.o (ds : List Dat) (r : Int × Int) (h : slices_IndexFunc_____int___int__2.out ds = some r) : ds = slices_IndexFunc_____int___int__2.rs r := by
  unfold slices_IndexFunc_____int___int__2.out at h
  obtain ⟨x0, d0, rfl, h0⟩ := pop_some h
  obtain ⟨x1, d1, rfl, h1⟩ := pop_some h0
  obtain ⟨rfl, g⟩ := popN_some h1
  cases g
  rfl
theorem slices_IndexFunc_____int___int__2.fn : FnOk Try.prog 148 Try.f148 slices_IndexFunc_____int___int__2.body Try.f148.ntmps 2 (fnRes Try.f148) :=
  fnOk_of (by kernel_rfl) (by kernel_rfl) (by kernel_rfl) (by kernel_rfl)
theorem slices_IndexFunc_____int___int__2.con' : ∀ k ds r, slices_IndexFunc_____int___int__2.g k ds = some r → Con Try.prog 148 2 slices_IndexFunc_____int___int__2.ti slices_IndexFunc_____int___int__2.to ds (slices_IndexFunc_____int___int__2.rs r) :=
  fun_ok (T := T) T_ok mixed slices_IndexFunc_____int___int__2.fn (env := slices_IndexFunc_____int___int__2.env) (tbl := slices_IndexFunc_____int___int__2.tbl) (gOut := slices_IndexFunc_____int___int__2.out) (nin := 2) (cuts := []) (fuel := 100000) rfl (by kernel_rfl) (by kernel_rfl) (by kernel_rfl) (fun x hx => by
    simp only [slices_IndexFunc_____int___int__2.tbl, List.mem_cons, List.not_mem_nil, or_false] at hx
    subst hx
    · exact slices_IndexFunc_____int___int__2.h5
) slices_IndexFunc_____int___int__2.o slices_IndexFunc_____int___int__2.h (fun k _ => by unfold slices_IndexFunc_____int___int__2.env; exact (envC_ok (fun ds K r h => by
    obtain ⟨x0, d0, rfl, h0⟩ := pop_some h
    obtain ⟨x1, d1, rfl, h1⟩ := pop_some h0
    obtain ⟨rfl, g⟩ := popN_some h1
    obtain ⟨r1, h1, h2⟩ := bind_some g
    exact ⟨_, h2, det_Check_3.con k _ h1⟩) env0_ok))
theorem slices_IndexFunc_____int___int__2.con (k : Nat) {x0 : (List (List Int))} {x1 : Int} (r : Int × Int) (h : slices_IndexFunc_____int___int__2.f k x0 x1 = some r) : Con Try.prog 148 2 slices_IndexFunc_____int___int__2.ti slices_IndexFunc_____int___int__2.to [⟨(.slice (.slice (.int .i64))), x0⟩, ⟨(.int .i64), x1⟩] (slices_IndexFunc_____int___int__2.rs r) :=
  slices_IndexFunc_____int___int__2.con' (k + 1) _ r (by show slices_IndexFunc_____int___int__2.c k _ = some r; unfold slices_IndexFunc_____int___int__2.c; simp only [pop_self, popN]; exact h)
def slices_ContainsFunc_____int___int__2.f (k : Nat) (s0 : List (List (Int))) (c1_0 : Int) : Option (Bool × Int) :=
 (slices_IndexFunc_____int___int__2.f k s0 c1_0).bind fun r1 =>
  some (decide (0 ≤ r1.fst), r1.snd)

noncomputable def slices_ContainsFunc_____int___int__2.body : Code := fnBody Try.f75
def slices_ContainsFunc_____int___int__2.ti : Tm := ⟨[(0, .p (.slice (.slice (.int .i64)))), (1, .fn 159 [.ptr 0 0])], [.box [.fn 158 [.ptr 1 0]] 113, .box [.p (.int .i64)] 3]⟩
def slices_ContainsFunc_____int___int__2.to : Tm := ⟨[(0, .p .bool)], [.box [.fn 158 [.ptr 1 0]] 113, .box [.p (.int .i64)] 3]⟩
def slices_ContainsFunc_____int___int__2.rs (r : Bool × Int) : List Dat := [⟨.bool, r.1⟩, ⟨(.int .i64), r.2⟩]
def slices_ContainsFunc_____int___int__2.out (ds : List Dat) : Option (Bool × Int) := pop .bool ds fun x0 ds => pop (.int .i64) ds fun x1 ds => popN ds (some (x0, x1))
def slices_ContainsFunc_____int___int__2.c (k : Nat) (ds : List Dat) : Option (Bool × Int) := pop (.slice (.slice (.int .i64))) ds fun x0 ds => pop (.int .i64) ds fun x1 ds => popN ds (slices_ContainsFunc_____int___int__2.f k x0 x1)
def slices_ContainsFunc_____int___int__2.g : Nat → List Dat → Option (Bool × Int)
 | 0, _ => none
 | k + 1, ds => slices_ContainsFunc_____int___int__2.c k ds
def slices_ContainsFunc_____int___int__2.env (k : Nat) : Nat → List SV → List Chunk → KT (Bool × Int) → Option (Bool × Int) := (envC 148 2 slices_IndexFunc_____int___int__2.ti slices_IndexFunc_____int___int__2.to (fun ds K => pop (.slice (.slice (.int .i64))) ds fun x0 ds => pop (.int .i64) ds fun x1 ds => popN ds ((slices_IndexFunc_____int___int__2.f k x0 x1).bind fun r => K (slices_IndexFunc_____int___int__2.rs r))) env0)
def slices_ContainsFunc_____int___int__2.tbl : List (Nat × Tm × (Nat → List Dat → Option (Bool × Int))) := []
noncomputable abbrev slices_ContainsFunc_____int___int__2.R (k : Nat) := run T (slices_ContainsFunc_____int___int__2.env k) Try.f75.ntmps (cutE 2 slices_ContainsFunc_____int___int__2.tbl k) (finE 2 slices_ContainsFunc_____int___int__2.to slices_ContainsFunc_____int___int__2.out) (fnRes Try.f75) [] 100000 true
theorem slices_ContainsFunc_____int___int__2.e (k : Nat) (x0 : (List (List Int))) (x1 : Int) : slices_ContainsFunc_____int___int__2.f k x0 x1 = slices_ContainsFunc_____int___int__2.R k ([.code slices_ContainsFunc_____int___int__2.body]) (slices_ContainsFunc_____int___int__2.ti.fill [⟨(.slice (.slice (.int .i64))), x0⟩, ⟨(.int .i64), x1⟩]) := by kernel_rfl
theorem slices_ContainsFunc_____int___int__2.h (k : Nat) (ds : List Dat) (r : Bool × Int) (h : slices_ContainsFunc_____int___int__2.g k ds = some r) : ∃ k', k' < k ∧ slices_ContainsFunc_____int___int__2.R k' ([.code slices_ContainsFunc_____int___int__2.body]) (slices_ContainsFunc_____int___int__2.ti.fill ds) = some r := by
  cases k with
  | zero => cases (show none = some r from h)
  | succ k =>
  replace h : slices_ContainsFunc_____int___int__2.c k ds = some r := h
  unfold slices_ContainsFunc_____int___int__2.c at h
  obtain ⟨x0, d0, rfl, h0⟩ := pop_some h
  obtain ⟨x1, d1, rfl, h1⟩ := pop_some h0
  obtain ⟨rfl, g⟩ := popN_some h1
  exact ⟨k, Nat.lt_succ_self k, (slices_ContainsFunc_____int___int__2.e k x0 x1).symm.trans g⟩
theorem slices_ContainsFunc_____int___int__2.o (ds : List Dat) (r : Bool × Int) (h : slices_ContainsFunc_____int___int__2.out ds = some r) : ds = slices_ContainsFunc_____int___int__2.rs r := by
  unfold slices_ContainsFunc_____int___int__2.out at h
  obtain ⟨x0, d0, rfl, h0⟩ := pop_some h
  obtain ⟨x1, d1, rfl, h1⟩ := pop_some h0
  obtain ⟨rfl, g⟩ := popN_some h1
  cases g
  rfl
theorem slices_ContainsFunc_____int___int__2.fn : FnOk Try.prog 75 Try.f75 slices_ContainsFunc_____int___int__2.body Try.f75.ntmps 2 (fnRes Try.f75) :=
  fnOk_of (by kernel_rfl) (by kernel_rfl) (by kernel_rfl) (by kernel_rfl)
theorem slices_ContainsFunc_____int___int__2.con' : ∀ k ds r, slices_ContainsFunc_____int___int__2.g k ds = some r → Con Try.prog 75 2 slices_ContainsFunc_____int___int__2.ti slices_ContainsFunc_____int___int__2.to ds (slices_ContainsFunc_____int___int__2.rs r) :=
  fun_ok (T := T) T_ok mixed slices_ContainsFunc_____int___int__2.fn (env := slices_ContainsFunc_____int___int__2.env) (tbl := slices_ContainsFunc_____int___int__2.tbl) (gOut := slices_ContainsFunc_____int___int__2.out) (nin := 2) (cuts := []) (fuel := 100000) rfl (by kernel_rfl) (by kernel_rfl) (by kernel_rfl) (fun x hx => by simp [slices_ContainsFunc_____int___int__2.tbl] at hx) slices_ContainsFunc_____int___int__2.o slices_ContainsFunc_____int___int__2.h (fun k _ => by unfold slices_ContainsFunc_____int___int__2.env; exact (envC_ok (fun ds K r h => by
    obtain ⟨x0, d0, rfl, h0⟩ := pop_some h
    obtain ⟨x1, d1, rfl, h1⟩ := pop_some h0
    obtain ⟨rfl, g⟩ := popN_some h1
    obtain ⟨r1, h1, h2⟩ := bind_some g
    exact ⟨_, h2, slices_IndexFunc_____int___int__2.con k _ h1⟩) env0_ok))
theorem slices_ContainsFunc_____int___int__2.con (k : Nat) {x0 : (List (List Int))} {x1 : Int} (r : Bool × Int) (h : slices_ContainsFunc_____int___int__2.f k x0 x1 = some r) : Con Try.prog 75 2 slices_ContainsFunc_____int___int__2.ti slices_ContainsFunc_____int___int__2.to [⟨(.slice (.slice (.int .i64))), x0⟩, ⟨(.int .i64), x1⟩] (slices_ContainsFunc_____int___int__2.rs r) :=
  slices_ContainsFunc_____int___int__2.con' (k + 1) _ r (by show slices_ContainsFunc_____int___int__2.c k _ = some r; unfold slices_ContainsFunc_____int___int__2.c; simp only [pop_self, popN]; exact h)
def det_Check_4.f (k : Nat) (m0 : Int) : Option (Bool) :=
 if m0 = 0 then
  some (false)
 else
  some (!decide (m0 = 1))

noncomputable def det_Check_4.body : Code := fnBody Try.f160
def det_Check_4.ti : Tm := ⟨[(0, .p (.int .i64))], []⟩
def det_Check_4.to : Tm := ⟨[(0, .p .bool)], []⟩
def det_Check_4.rs (r : Bool) : List Dat := [⟨.bool, r⟩]
def det_Check_4.out (ds : List Dat) : Option (Bool) := pop .bool ds fun x0 ds => popN ds (some (x0))
def det_Check_4.c (k : Nat) (ds : List Dat) : Option (Bool) := pop (.int .i64) ds fun x0 ds => popN ds (det_Check_4.f k x0)
def det_Check_4.g : Nat → List Dat → Option (Bool)
 | 0, _ => none
 | k + 1, ds => det_Check_4.c k ds
def det_Check_4.env (k : Nat) : Nat → List SV → List Chunk → KT (Bool) → Option (Bool) := env0
def det_Check_4.tbl : List (Nat × Tm × (Nat → List Dat → Option (Bool))) := []
noncomputable abbrev det_Check_4.R (k : Nat) := run T (det_Check_4.env k) Try.f160.ntmps (cutE 0 det_Check_4.tbl k) (finE 0 det_Check_4.to det_Check_4.out) (fnRes Try.f160) [] 100000 true
theorem det_Check_4.e (k : Nat) (x0 : Int) : det_Check_4.f k x0 = det_Check_4.R k ([.code det_Check_4.body]) (det_Check_4.ti.fill [⟨(.int .i64), x0⟩]) := by kernel_rfl
theorem det_Check_4.h (k : Nat) (ds : List Dat) (r : Bool) (h : det_Check_4.g k ds = some r) : ∃ k', k' < k ∧ det_Check_4.R k' ([.code det_Check_4.body]) (det_Check_4.ti.fill ds) = some r := by
  cases k with
  | zero => cases (show none = some r from h)
  | succ k =>
  replace h : det_Check_4.c k ds = some r := h
  unfold det_Check_4.c at h
  obtain ⟨x0, d0, rfl, h0⟩ := pop_some h
  obtain ⟨rfl, g⟩ := popN_some h0
  exact ⟨k, Nat.lt_succ_self k, (det_Check_4.e k x0).symm.trans g⟩
theorem det_Check_4.o (ds : List Dat) (r : Bool) (h : det_Check_4.out ds = some r) : ds = det_Check_4.rs r := by
  unfold det_Check_4.out at h
  obtain ⟨x0, d0, rfl, h0⟩ := pop_some h
  obtain ⟨rfl, g⟩ := popN_some h0
  cases g
  rfl
theorem det_Check_4.fn : FnOk Try.prog 160 Try.f160 det_Check_4.body Try.f160.ntmps 1 (fnRes Try.f160) :=
  fnOk_of (by kernel_rfl) (by kernel_rfl) (by kernel_rfl) (by kernel_rfl)
theorem det_Check_4.con' : ∀ k ds r, det_Check_4.g k ds = some r → Con Try.prog 160 1 det_Check_4.ti det_Check_4.to ds (det_Check_4.rs r) :=
  fun_ok (T := T) T_ok mixed det_Check_4.fn (env := det_Check_4.env) (tbl := det_Check_4.tbl) (gOut := det_Check_4.out) (nin := 0) (cuts := []) (fuel := 100000) rfl (by kernel_rfl) (by kernel_rfl) (by kernel_rfl) (fun x hx => by simp [det_Check_4.tbl] at hx) det_Check_4.o det_Check_4.h (fun k _ => by unfold det_Check_4.env; exact env0_ok)
theorem det_Check_4.con (k : Nat) {x0 : Int} (r : Bool) (h : det_Check_4.f k x0 = some r) : Con Try.prog 160 1 det_Check_4.ti det_Check_4.to [⟨(.int .i64), x0⟩] (det_Check_4.rs r) :=
  det_Check_4.con' (k + 1) _ r (by show det_Check_4.c k _ = some r; unfold det_Check_4.c; simp only [pop_self, popN]; exact h)
mutual
def slices_IndexFunc___int_int__2.l2 : Nat → List (Int) → Int → Int → Option (Int)
 | 0, _, _, _ => none
 | k + 1, s0, x7, x8 =>
  if x8 < x7 then
   if 0 ≤ x8 then
   if x8 < (↑s0.length : Int) then
    (det_Check_4.f k (Go.Proofs.YtiiioobebeaafaaSx.rd (Int.ofNat 0) s0 x8)).bind fun r5 =>
      if r5 = true then
       some (x8)
      else
       slices_IndexFunc___int_int__2.l2 k s0 x7 (Go.IntKind.i64.wrap (x8 + 1))
    else none
   else none
  else
   some (-1)
end
def slices_IndexFunc___int_int__2.f (k : Nat) (s0 : List (Int)) : Option (Int) :=
 slices_IndexFunc___int_int__2.l2 k s0 ((↑s0.length : Int)) 0

noncomputable def slices_IndexFunc___int_int__2.body : Code := fnBody Try.f149
def slices_IndexFunc___int_int__2.ti : Tm := ⟨[(0, .p (.slice (.int .i64))), (1, .fn 160 [])], []⟩
def slices_IndexFunc___int_int__2.to : Tm := ⟨[(0, .p (.int .i64))], []⟩
def slices_IndexFunc___int_int__2.rs (r : Int) : List Dat := [⟨(.int .i64), r⟩]
def slices_IndexFunc___int_int__2.out (ds : List Dat) : Option (Int) := pop (.int .i64) ds fun x0 ds => popN ds (some (x0))
def slices_IndexFunc___int_int__2.c (k : Nat) (ds : List Dat) : Option (Int) := pop (.slice (.int .i64)) ds fun x0 ds => popN ds (slices_IndexFunc___int_int__2.f k x0)
def slices_IndexFunc___int_int__2.g : Nat → List Dat → Option (Int)
 | 0, _ => none
 | k + 1, ds => slices_IndexFunc___int_int__2.c k ds
def slices_IndexFunc___int_int__2.env (k : Nat) : Nat → List SV → List Chunk → KT (Int) → Option (Int) := (envC 160 1 det_Check_4.ti det_Check_4.to (fun ds K => pop (.int .i64) ds fun x0 ds => popN ds ((det_Check_4.f k x0).bind fun r => K (det_Check_4.rs r))) env0)
def slices_IndexFunc___int_int__2.t5 : Tm := ⟨[(0, .p (.slice (.int .i64))), (1, .fn 160 []), (7, .p (.int .i64)), (8, .p (.int .i64))], []⟩
def slices_IndexFunc___int_int__2.c5 (k : Nat) (ds : List Dat) : Option (Int) := pop (.slice (.int .i64)) ds fun x0 ds => pop (.int .i64) ds fun x1 ds => pop (.int .i64) ds fun x2 ds => popN ds (slices_IndexFunc___int_int__2.l2 k x0 x1 x2)
def slices_IndexFunc___int_int__2.tbl : List (Nat × Tm × (Nat → List Dat → Option (Int))) := [(5, slices_IndexFunc___int_int__2.t5, slices_IndexFunc___int_int__2.c5)]
noncomputable abbrev slices_IndexFunc___int_int__2.R (k : Nat) := run T (slices_IndexFunc___int_int__2.env k) Try.f149.ntmps (cutE 0 slices_IndexFunc___int_int__2.tbl k) (finE 0 slices_IndexFunc___int_int__2.to slices_IndexFunc___int_int__2.out) (fnRes Try.f149) [] 100000 true
theorem slices_IndexFunc___int_int__2.e5 (k : Nat) (x0 : (List Int)) (x1 : Int) (x2 : Int) : slices_IndexFunc___int_int__2.l2 (k + 1) x0 x1 x2 = slices_IndexFunc___int_int__2.R k (start (stackOf 5 slices_IndexFunc___int_int__2.body)) (slices_IndexFunc___int_int__2.t5.fill [⟨(.slice (.int .i64)), x0⟩, ⟨(.int .i64), x1⟩, ⟨(.int .i64), x2⟩]) := by kernel_rfl
theorem slices_IndexFunc___int_int__2.s5 : stackAt 5 slices_IndexFunc___int_int__2.body [] = some (stackOf 5 slices_IndexFunc___int_int__2.body) := by kernel_rfl
theorem slices_IndexFunc___int_int__2.h5 (k : Nat) (ds : List Dat) (r : Int) (h : slices_IndexFunc___int_int__2.c5 k ds = some r) : ∃ k', k' < k ∧ ∃ s, stackAt 5 slices_IndexFunc___int_int__2.body [] = some s ∧ slices_IndexFunc___int_int__2.R k' (start s) (slices_IndexFunc___int_int__2.t5.fill ds) = some r := by
  unfold slices_IndexFunc___int_int__2.c5 at h
  obtain ⟨x0, d0, rfl, h0⟩ := pop_some h
  obtain ⟨x1, d1, rfl, h1⟩ := pop_some h0
  obtain ⟨x2, d2, rfl, h2⟩ := pop_some h1
  obtain ⟨rfl, g⟩ := popN_some h2
  cases k with
  | zero => cases (show none = some r from g)
  | succ k => exact ⟨k, Nat.lt_succ_self k, _, slices_IndexFunc___int_int__2.s5, (slices_IndexFunc___int_int__2.e5 k x0 x1 x2).symm.trans g⟩
theorem slices_IndexFunc___int_int__2.e (k : Nat) (x0 : (List Int)) : slices_IndexFunc___int_int__2.f k x0 = slices_IndexFunc___int_int__2.R k ([.code slices_IndexFunc___int_int__2.body]) (slices_IndexFunc___int_int__2.ti.fill [⟨(.slice (.int .i64)), x0⟩]) := by kernel_rfl
theorem slices_IndexFunc___int_int__2.h (k : Nat) (ds : List Dat) (r : Int) (h : slices_IndexFunc___int_int__2.g k ds = some r) : ∃ k', k' < k ∧ slices_IndexFunc___int_int__2.R k' ([.code slices_IndexFunc___int_int__2.body]) (slices_IndexFunc___int_int__2.ti.fill ds) = some r := by
  cases k with
  | zero => cases (show none = some r from h)
  | succ k =>
  replace h : slices_IndexFunc___int_int__2.c k ds = some r := h
  unfold slices_IndexFunc___int_int__2.c at h
  obtain ⟨x0, d0, rfl, h0⟩ := pop_some h
  obtain ⟨rfl, g⟩ := popN_some h0
  exact ⟨k, Nat.lt_succ_self k, (slices_IndexFunc___int_int__2.e k x0).symm.trans g⟩
theorem slices_IndexFunc___int_int__2.o (ds : List Dat) (r : Int) (h : slices_IndexFunc___int_int__2.out ds = some r) : ds = slices_IndexFunc___int_int__2.rs r := by
  unfold slices_IndexFunc___int_int__2.out at h
  obtain ⟨x0, d0, rfl, h0⟩ := pop_some h
  obtain ⟨rfl, g⟩ := popN_some h0
  cases g
  rfl
theorem slices_IndexFunc___int_int__2.fn : FnOk Try.prog 149 Try.f149 slices_IndexFunc___int_int__2.body Try.f149.ntmps 2 (fnRes Try.f149) :=
  fnOk_of (by kernel_rfl) (by kernel_rfl) (by kernel_rfl) (by kernel_rfl)
theorem slices_IndexFunc___int_int__2.con' : ∀ k ds r, slices_IndexFunc___int_int__2.g k ds = some r → Con Try.prog 149 2 slices_IndexFunc___int_int__2.ti slices_IndexFunc___int_int__2.to ds (slices_IndexFunc___int_int__2.rs r) :=
  fun_ok (T := T) T_ok mixed slices_IndexFunc___int_int__2.fn (env := slices_IndexFunc___int_int__2.env) (tbl := slices_IndexFunc___int_int__2.tbl) (gOut := slices_IndexFunc___int_int__2.out) (nin := 0) (cuts := []) (fuel := 100000) rfl (by kernel_rfl) (by kernel_rfl) (by kernel_rfl) (fun x hx => by
    simp only [slices_IndexFunc___int_int__2.tbl, List.mem_cons, List.not_mem_nil, or_false] at hx
    subst hx
    · exact slices_IndexFunc___int_int__2.h5
) slices_IndexFunc___int_int__2.o slices_IndexFunc___int_int__2.h (fun k _ => by unfold slices_IndexFunc___int_int__2.env; exact (envC_ok (fun ds K r h => by
    obtain ⟨x0, d0, rfl, h0⟩ := pop_some h
    obtain ⟨rfl, g⟩ := popN_some h0
    obtain ⟨r1, h1, h2⟩ := bind_some g
    exact ⟨_, h2, det_Check_4.con k _ h1⟩) env0_ok))
theorem slices_IndexFunc___int_int__2.con (k : Nat) {x0 : (List Int)} (r : Int) (h : slices_IndexFunc___int_int__2.f k x0 = some r) : Con Try.prog 149 2 slices_IndexFunc___int_int__2.ti slices_IndexFunc___int_int__2.to [⟨(.slice (.int .i64)), x0⟩] (slices_IndexFunc___int_int__2.rs r) :=
  slices_IndexFunc___int_int__2.con' (k + 1) _ r (by show slices_IndexFunc___int_int__2.c k _ = some r; unfold slices_IndexFunc___int_int__2.c; simp only [pop_self, popN]; exact h)
def slices_ContainsFunc___int_int__2.f (k : Nat) (s0 : List (Int)) : Option (Bool) :=
 (slices_IndexFunc___int_int__2.f k s0).bind fun r1 =>
  some (decide (0 ≤ r1))

noncomputable def slices_ContainsFunc___int_int__2.body : Code := fnBody Try.f77
def slices_ContainsFunc___int_int__2.ti : Tm := ⟨[(0, .p (.slice (.int .i64))), (1, .fn 160 [])], []⟩
def slices_ContainsFunc___int_int__2.to : Tm := ⟨[(0, .p .bool)], []⟩
def slices_ContainsFunc___int_int__2.rs (r : Bool) : List Dat := [⟨.bool, r⟩]
def slices_ContainsFunc___int_int__2.out (ds : List Dat) : Option (Bool) := pop .bool ds fun x0 ds => popN ds (some (x0))
def slices_ContainsFunc___int_int__2.c (k : Nat) (ds : List Dat) : Option (Bool) := pop (.slice (.int .i64)) ds fun x0 ds => popN ds (slices_ContainsFunc___int_int__2.f k x0)
def slices_ContainsFunc___int_int__2.g : Nat → List Dat → Option (Bool)
 | 0, _ => none
 | k + 1, ds => slices_ContainsFunc___int_int__2.c k ds
def slices_ContainsFunc___int_int__2.env (k : Nat) : Nat → List SV → List Chunk → KT (Bool) → Option (Bool) := (envC 149 2 slices_IndexFunc___int_int__2.ti slices_IndexFunc___int_int__2.to (fun ds K => pop (.slice (.int .i64)) ds fun x0 ds => popN ds ((slices_IndexFunc___int_int__2.f k x0).bind fun r => K (slices_IndexFunc___int_int__2.rs r))) env0)
def slices_ContainsFunc___int_int__2.tbl : List (Nat × Tm × (Nat → List Dat → Option (Bool))) := []
noncomputable abbrev slices_ContainsFunc___int_int__2.R (k : Nat) := run T (slices_ContainsFunc___int_int__2.env k) Try.f77.ntmps (cutE 0 slices_ContainsFunc___int_int__2.tbl k) (finE 0 slices_ContainsFunc___int_int__2.to slices_ContainsFunc___int_int__2.out) (fnRes Try.f77) [] 100000 true
theorem slices_ContainsFunc___int_int__2.e (k : Nat) (x0 : (List Int)) : slices_ContainsFunc___int_int__2.f k x0 = slices_ContainsFunc___int_int__2.R k ([.code slices_ContainsFunc___int_int__2.body]) (slices_ContainsFunc___int_int__2.ti.fill [⟨(.slice (.int .i64)), x0⟩]) := by kernel_rfl
theorem slices_ContainsFunc___int_int__2.h (k : Nat) (ds : List Dat) (r : Bool) (h : slices_ContainsFunc___int_int__2.g k ds = some r) : ∃ k', k' < k ∧ slices_ContainsFunc___int_int__2.R k' ([.code slices_ContainsFunc___int_int__2.body]) (slices_ContainsFunc___int_int__2.ti.fill ds) = some r := by
  cases k with
  | zero => cases (show none = some r from h)
  | succ k =>
  replace h : slices_ContainsFunc___int_int__2.c k ds = some r := h
  unfold slices_ContainsFunc___int_int__2.c at h
  obtain ⟨x0, d0, rfl, h0⟩ := pop_some h
  obtain ⟨rfl, g⟩ := popN_some h0
  exact ⟨k, Nat.lt_succ_self k, (slices_ContainsFunc___int_int__2.e k x0).symm.trans g⟩
theorem slices_ContainsFunc___int_int__2.o (ds : List Dat) (r : Bool) (h : slices_ContainsFunc___int_int__2.out ds = some r) : ds = slices_ContainsFunc___int_int__2.rs r := by
  unfold slices_ContainsFunc___int_int__2.out at h
  obtain ⟨x0, d0, rfl, h0⟩ := pop_some h
  obtain ⟨rfl, g⟩ := popN_some h0
  cases g
  rfl
theorem slices_ContainsFunc___int_int__2.fn : FnOk Try.prog 77 Try.f77 slices_ContainsFunc___int_int__2.body Try.f77.ntmps 2 (fnRes Try.f77) :=
  fnOk_of (by kernel_rfl) (by kernel_rfl) (by kernel_rfl) (by kernel_rfl)
theorem slices_ContainsFunc___int_int__2.con' : ∀ k ds r, slices_ContainsFunc___int_int__2.g k ds = some r → Con Try.prog 77 2 slices_ContainsFunc___int_int__2.ti slices_ContainsFunc___int_int__2.to ds (slices_ContainsFunc___int_int__2.rs r) :=
  fun_ok (T := T) T_ok mixed slices_ContainsFunc___int_int__2.fn (env := slices_ContainsFunc___int_int__2.env) (tbl := slices_ContainsFunc___int_int__2.tbl) (gOut := slices_ContainsFunc___int_int__2.out) (nin := 0) (cuts := []) (fuel := 100000) rfl (by kernel_rfl) (by kernel_rfl) (by kernel_rfl) (fun x hx => by simp [slices_ContainsFunc___int_int__2.tbl] at hx) slices_ContainsFunc___int_int__2.o slices_ContainsFunc___int_int__2.h (fun k _ => by unfold slices_ContainsFunc___int_int__2.env; exact (envC_ok (fun ds K r h => by
    obtain ⟨x0, d0, rfl, h0⟩ := pop_some h
    obtain ⟨rfl, g⟩ := popN_some h0
    obtain ⟨r1, h1, h2⟩ := bind_some g
    exact ⟨_, h2, slices_IndexFunc___int_int__2.con k _ h1⟩) env0_ok))
theorem slices_ContainsFunc___int_int__2.con (k : Nat) {x0 : (List Int)} (r : Bool) (h : slices_ContainsFunc___int_int__2.f k x0 = some r) : Con Try.prog 77 2 slices_ContainsFunc___int_int__2.ti slices_ContainsFunc___int_int__2.to [⟨(.slice (.int .i64)), x0⟩] (slices_ContainsFunc___int_int__2.rs r) :=
  slices_ContainsFunc___int_int__2.con' (k + 1) _ r (by show slices_ContainsFunc___int_int__2.c k _ = some r; unfold slices_ContainsFunc___int_int__2.c; simp only [pop_self, popN]; exact h)
def det_Check.f (k : Nat) (d0 : (Int × (Int × (List (List (Int)) × (List (Int) × Unit))))) : Option (Int) :=
 if d0.fst < 1 then
  some (2)
 else
  if 4 < d0.fst then
   some (2)
  else
   if (↑d0.snd.snd.fst.length : Int) < 1 then
    some (1)
   else
    if 3000 < (↑d0.snd.snd.fst.length : Int) then
     some (1)
    else
     if (↑d0.snd.snd.snd.fst.length : Int) = (↑d0.snd.snd.fst.length : Int) then
      (slices_ContainsFunc_____int___int_.f k d0.snd.snd.fst d0.fst d0.snd.fst d0.snd.snd.fst d0.snd.snd.snd.fst).bind fun r6 =>
       if r6.fst = true then
        some (3)
       else
        (det_Check_2.f k r6.snd.snd.fst (↑d0.snd.snd.fst.length : Int)).bind fun r8 =>
         if r8.fst = true then
          some (2)
         else
          (slices_ContainsFunc_____int___int__2.f k r6.snd.snd.snd.fst r8.snd).bind fun r10 =>
           if r10.fst = true then
            some (2)
           else
            (slices_ContainsFunc___int_int__2.f k r6.snd.snd.snd.snd).bind fun r12 =>
             if r12 = true then
              some (2)
             else
              some (0)
     else
      some (3)

noncomputable def det_Check.body : Code := fnBody Try.f99
def det_Check.ti : Tm := ⟨[(0, .p (.pair (.int .i64) (.pair (.int .i64) (.pair (.slice (.slice (.int .i64))) (.pair (.slice (.int .i64)) .unit)))))], []⟩
def det_Check.to : Tm := ⟨[(0, .p (.int .i64))], []⟩
def det_Check.rs (r : Int) : List Dat := [⟨(.int .i64), r⟩]
def det_Check.out (ds : List Dat) : Option (Int) := pop (.int .i64) ds fun x0 ds => popN ds (some (x0))
def det_Check.c (k : Nat) (ds : List Dat) : Option (Int) := pop (.pair (.int .i64) (.pair (.int .i64) (.pair (.slice (.slice (.int .i64))) (.pair (.slice (.int .i64)) .unit)))) ds fun x0 ds => popN ds (det_Check.f k x0)
def det_Check.g : Nat → List Dat → Option (Int)
 | 0, _ => none
 | k + 1, ds => det_Check.c k ds
def det_Check.env (k : Nat) : Nat → List SV → List Chunk → KT (Int) → Option (Int) := (envC 75 2 slices_ContainsFunc_____int___int_.ti slices_ContainsFunc_____int___int_.to (fun ds K => pop (.slice (.slice (.int .i64))) ds fun x0 ds => pop (.int .i64) ds fun x1 ds => pop (.int .i64) ds fun x2 ds => pop (.slice (.slice (.int .i64))) ds fun x3 ds => pop (.slice (.int .i64)) ds fun x4 ds => popN ds ((slices_ContainsFunc_____int___int_.f k x0 x1 x2 x3 x4).bind fun r => K (slices_ContainsFunc_____int___int_.rs r))) (envC 158 2 det_Check_2.ti det_Check_2.to (fun ds K => pop (.int .i64) ds fun x0 ds => pop (.int .i64) ds fun x1 ds => popN ds ((det_Check_2.f k x0 x1).bind fun r => K (det_Check_2.rs r))) (envC 75 2 slices_ContainsFunc_____int___int__2.ti slices_ContainsFunc_____int___int__2.to (fun ds K => pop (.slice (.slice (.int .i64))) ds fun x0 ds => pop (.int .i64) ds fun x1 ds => popN ds ((slices_ContainsFunc_____int___int__2.f k x0 x1).bind fun r => K (slices_ContainsFunc_____int___int__2.rs r))) (envC 77 2 slices_ContainsFunc___int_int__2.ti slices_ContainsFunc___int_int__2.to (fun ds K => pop (.slice (.int .i64)) ds fun x0 ds => popN ds ((slices_ContainsFunc___int_int__2.f k x0).bind fun r => K (slices_ContainsFunc___int_int__2.rs r))) env0))))
def det_Check.tbl : List (Nat × Tm × (Nat → List Dat → Option (Int))) := []
noncomputable abbrev det_Check.R (k : Nat) := run T (det_Check.env k) Try.f99.ntmps (cutE 0 det_Check.tbl k) (finE 0 det_Check.to det_Check.out) (fnRes Try.f99) [] 100000 true
theorem det_Check.e (k : Nat) (x0 : (Int × (Int × ((List (List Int)) × ((List Int) × Unit))))) : det_Check.f k x0 = det_Check.R k ([.code det_Check.body]) (det_Check.ti.fill [⟨(.pair (.int .i64) (.pair (.int .i64) (.pair (.slice (.slice (.int .i64))) (.pair (.slice (.int .i64)) .unit)))), x0⟩]) := by kernel_rfl
theorem det_Check.h (k : Nat) (ds : List Dat) (r : Int) (h : det_Check.g k ds = some r) : ∃ k', k' < k ∧ det_Check.R k' ([.code det_Check.body]) (det_Check.ti.fill ds) = some r := by
  cases k with
  | zero => cases (show none = some r from h)
  | succ k =>
  replace h : det_Check.c k ds = some r := h
  unfold det_Check.c at h
  obtain ⟨x0, d0, rfl, h0⟩ := pop_some h
  obtain ⟨rfl, g⟩ := popN_some h0
  exact ⟨k, Nat.lt_succ_self k, (det_Check.e k x0).symm.trans g⟩
theorem det_Check.o (ds : List Dat) (r : Int) (h : det_Check.out ds = some r) : ds = det_Check.rs r := by
  unfold det_Check.out at h
  obtain ⟨x0, d0, rfl, h0⟩ := pop_some h
  obtain ⟨rfl, g⟩ := popN_some h0
  cases g
  rfl
theorem det_Check.fn : FnOk Try.prog 99 Try.f99 det_Check.body Try.f99.ntmps 1 (fnRes Try.f99) :=
  fnOk_of (by kernel_rfl) (by kernel_rfl) (by kernel_rfl) (by kernel_rfl)
theorem det_Check.con' : ∀ k ds r, det_Check.g k ds = some r → Con Try.prog 99 1 det_Check.ti det_Check.to ds (det_Check.rs r) :=
  fun_ok (T := T) T_ok mixed det_Check.fn (env := det_Check.env) (tbl := det_Check.tbl) (gOut := det_Check.out) (nin := 0) (cuts := []) (fuel := 100000) rfl (by kernel_rfl) (by kernel_rfl) (by kernel_rfl) (fun x hx => by simp [det_Check.tbl] at hx) det_Check.o det_Check.h (fun k _ => by unfold det_Check.env; exact (envC_ok (fun ds K r h => by
    obtain ⟨x0, d0, rfl, h0⟩ := pop_some h
    obtain ⟨x1, d1, rfl, h1⟩ := pop_some h0
    obtain ⟨x2, d2, rfl, h2⟩ := pop_some h1
    obtain ⟨x3, d3, rfl, h3⟩ := pop_some h2
    obtain ⟨x4, d4, rfl, h4⟩ := pop_some h3
    obtain ⟨rfl, g⟩ := popN_some h4
    obtain ⟨r1, h1, h2⟩ := bind_some g
    exact ⟨_, h2, slices_ContainsFunc_____int___int_.con k _ h1⟩) (envC_ok (fun ds K r h => by
    obtain ⟨x0, d0, rfl, h0⟩ := pop_some h
    obtain ⟨x1, d1, rfl, h1⟩ := pop_some h0
    obtain ⟨rfl, g⟩ := popN_some h1
    obtain ⟨r1, h1, h2⟩ := bind_some g
    exact ⟨_, h2, det_Check_2.con k _ h1⟩) (envC_ok (fun ds K r h => by
    obtain ⟨x0, d0, rfl, h0⟩ := pop_some h
    obtain ⟨x1, d1, rfl, h1⟩ := pop_some h0
    obtain ⟨rfl, g⟩ := popN_some h1
    obtain ⟨r1, h1, h2⟩ := bind_some g
    exact ⟨_, h2, slices_ContainsFunc_____int___int__2.con k _ h1⟩) (envC_ok (fun ds K r h => by
    obtain ⟨x0, d0, rfl, h0⟩ := pop_some h
    obtain ⟨rfl, g⟩ := popN_some h0
    obtain ⟨r1, h1, h2⟩ := bind_some g
    exact ⟨_, h2, slices_ContainsFunc___int_int__2.con k _ h1⟩) env0_ok)))))
theorem det_Check.con (k : Nat) {x0 : (Int × (Int × ((List (List Int)) × ((List Int) × Unit))))} (r : Int) (h : det_Check.f k x0 = some r) : Con Try.prog 99 1 det_Check.ti det_Check.to [⟨(.pair (.int .i64) (.pair (.int .i64) (.pair (.slice (.slice (.int .i64))) (.pair (.slice (.int .i64)) .unit)))), x0⟩] (det_Check.rs r) :=
  det_Check.con' (k + 1) _ r (by show det_Check.c k _ = some r; unfold det_Check.c; simp only [pop_self, popN]; exact h)
def higman_small.f (k : Nat) (d0 : (Int × (Int × (List (List (Int)) × (List (Int) × Unit))))) : Option (Int) :=
 (det_Check.f k (d0.fst, d0.snd.fst, d0.snd.snd.fst, d0.snd.snd.snd.fst, ())).bind fun r1 =>
  if r1 = 0 then
   if 5 < (↑d0.snd.snd.fst.length : Int) then
    some (1)
   else
    some (0)
  else
   some (r1)

noncomputable def higman_small.body : Code := fnBody Try.f125
def higman_small.ti : Tm := ⟨[(0, .p (.pair (.int .i64) (.pair (.int .i64) (.pair (.slice (.slice (.int .i64))) (.pair (.slice (.int .i64)) .unit)))))], []⟩
def higman_small.to : Tm := ⟨[(0, .p (.int .i64))], []⟩
def higman_small.rs (r : Int) : List Dat := [⟨(.int .i64), r⟩]
def higman_small.out (ds : List Dat) : Option (Int) := pop (.int .i64) ds fun x0 ds => popN ds (some (x0))
def higman_small.c (k : Nat) (ds : List Dat) : Option (Int) := pop (.pair (.int .i64) (.pair (.int .i64) (.pair (.slice (.slice (.int .i64))) (.pair (.slice (.int .i64)) .unit)))) ds fun x0 ds => popN ds (higman_small.f k x0)
def higman_small.g : Nat → List Dat → Option (Int)
 | 0, _ => none
 | k + 1, ds => higman_small.c k ds
def higman_small.env (k : Nat) : Nat → List SV → List Chunk → KT (Int) → Option (Int) := (envC 99 1 det_Check.ti det_Check.to (fun ds K => pop (.pair (.int .i64) (.pair (.int .i64) (.pair (.slice (.slice (.int .i64))) (.pair (.slice (.int .i64)) .unit)))) ds fun x0 ds => popN ds ((det_Check.f k x0).bind fun r => K (det_Check.rs r))) env0)
def higman_small.tbl : List (Nat × Tm × (Nat → List Dat → Option (Int))) := []
noncomputable abbrev higman_small.R (k : Nat) := run T (higman_small.env k) Try.f125.ntmps (cutE 0 higman_small.tbl k) (finE 0 higman_small.to higman_small.out) (fnRes Try.f125) [] 100000 true
theorem higman_small.e (k : Nat) (x0 : (Int × (Int × ((List (List Int)) × ((List Int) × Unit))))) : higman_small.f k x0 = higman_small.R k ([.code higman_small.body]) (higman_small.ti.fill [⟨(.pair (.int .i64) (.pair (.int .i64) (.pair (.slice (.slice (.int .i64))) (.pair (.slice (.int .i64)) .unit)))), x0⟩]) := by kernel_rfl
theorem higman_small.h (k : Nat) (ds : List Dat) (r : Int) (h : higman_small.g k ds = some r) : ∃ k', k' < k ∧ higman_small.R k' ([.code higman_small.body]) (higman_small.ti.fill ds) = some r := by
  cases k with
  | zero => cases (show none = some r from h)
  | succ k =>
  replace h : higman_small.c k ds = some r := h
  unfold higman_small.c at h
  obtain ⟨x0, d0, rfl, h0⟩ := pop_some h
  obtain ⟨rfl, g⟩ := popN_some h0
  exact ⟨k, Nat.lt_succ_self k, (higman_small.e k x0).symm.trans g⟩
theorem higman_small.o (ds : List Dat) (r : Int) (h : higman_small.out ds = some r) : ds = higman_small.rs r := by
  unfold higman_small.out at h
  obtain ⟨x0, d0, rfl, h0⟩ := pop_some h
  obtain ⟨rfl, g⟩ := popN_some h0
  cases g
  rfl
theorem higman_small.fn : FnOk Try.prog 125 Try.f125 higman_small.body Try.f125.ntmps 1 (fnRes Try.f125) :=
  fnOk_of (by kernel_rfl) (by kernel_rfl) (by kernel_rfl) (by kernel_rfl)
theorem higman_small.con' : ∀ k ds r, higman_small.g k ds = some r → Con Try.prog 125 1 higman_small.ti higman_small.to ds (higman_small.rs r) :=
  fun_ok (T := T) T_ok mixed higman_small.fn (env := higman_small.env) (tbl := higman_small.tbl) (gOut := higman_small.out) (nin := 0) (cuts := []) (fuel := 100000) rfl (by kernel_rfl) (by kernel_rfl) (by kernel_rfl) (fun x hx => by simp [higman_small.tbl] at hx) higman_small.o higman_small.h (fun k _ => by unfold higman_small.env; exact (envC_ok (fun ds K r h => by
    obtain ⟨x0, d0, rfl, h0⟩ := pop_some h
    obtain ⟨rfl, g⟩ := popN_some h0
    obtain ⟨r1, h1, h2⟩ := bind_some g
    exact ⟨_, h2, det_Check.con k _ h1⟩) env0_ok))
theorem higman_small.con (k : Nat) {x0 : (Int × (Int × ((List (List Int)) × ((List Int) × Unit))))} (r : Int) (h : higman_small.f k x0 = some r) : Con Try.prog 125 1 higman_small.ti higman_small.to [⟨(.pair (.int .i64) (.pair (.int .i64) (.pair (.slice (.slice (.int .i64))) (.pair (.slice (.int .i64)) .unit)))), x0⟩] (higman_small.rs r) :=
  higman_small.con' (k + 1) _ r (by show higman_small.c k _ = some r; unfold higman_small.c; simp only [pop_self, popN]; exact h)
def higman_Up_1.f (k : Nat) (set0 : Int) (next1 : Int) : Option (Int) :=
 some (Go.IntKind.i64.wrap (↑(BitVec.ofInt Go.IntKind.i64.bits set0 ||| BitVec.ofInt Go.IntKind.i64.bits next1).toNat : Int))

noncomputable def higman_Up_1.body : Code := fnBody Try.f127
def higman_Up_1.ti : Tm := ⟨[(0, .p (.int .i64)), (1, .p (.int .i64))], []⟩
def higman_Up_1.to : Tm := ⟨[(0, .p (.int .i64))], []⟩
def higman_Up_1.rs (r : Int) : List Dat := [⟨(.int .i64), r⟩]
def higman_Up_1.out (ds : List Dat) : Option (Int) := pop (.int .i64) ds fun x0 ds => popN ds (some (x0))
def higman_Up_1.c (k : Nat) (ds : List Dat) : Option (Int) := pop (.int .i64) ds fun x0 ds => pop (.int .i64) ds fun x1 ds => popN ds (higman_Up_1.f k x0 x1)
def higman_Up_1.g : Nat → List Dat → Option (Int)
 | 0, _ => none
 | k + 1, ds => higman_Up_1.c k ds
def higman_Up_1.env (k : Nat) : Nat → List SV → List Chunk → KT (Int) → Option (Int) := env0
def higman_Up_1.tbl : List (Nat × Tm × (Nat → List Dat → Option (Int))) := []
noncomputable abbrev higman_Up_1.R (k : Nat) := run T (higman_Up_1.env k) Try.f127.ntmps (cutE 0 higman_Up_1.tbl k) (finE 0 higman_Up_1.to higman_Up_1.out) (fnRes Try.f127) [] 100000 true
theorem higman_Up_1.e (k : Nat) (x0 : Int) (x1 : Int) : higman_Up_1.f k x0 x1 = higman_Up_1.R k ([.code higman_Up_1.body]) (higman_Up_1.ti.fill [⟨(.int .i64), x0⟩, ⟨(.int .i64), x1⟩]) := by kernel_rfl
theorem higman_Up_1.h (k : Nat) (ds : List Dat) (r : Int) (h : higman_Up_1.g k ds = some r) : ∃ k', k' < k ∧ higman_Up_1.R k' ([.code higman_Up_1.body]) (higman_Up_1.ti.fill ds) = some r := by
  cases k with
  | zero => cases (show none = some r from h)
  | succ k =>
  replace h : higman_Up_1.c k ds = some r := h
  unfold higman_Up_1.c at h
  obtain ⟨x0, d0, rfl, h0⟩ := pop_some h
  obtain ⟨x1, d1, rfl, h1⟩ := pop_some h0
  obtain ⟨rfl, g⟩ := popN_some h1
  exact ⟨k, Nat.lt_succ_self k, (higman_Up_1.e k x0 x1).symm.trans g⟩
theorem higman_Up_1.o (ds : List Dat) (r : Int) (h : higman_Up_1.out ds = some r) : ds = higman_Up_1.rs r := by
  unfold higman_Up_1.out at h
  obtain ⟨x0, d0, rfl, h0⟩ := pop_some h
  obtain ⟨rfl, g⟩ := popN_some h0
  cases g
  rfl
theorem higman_Up_1.fn : FnOk Try.prog 127 Try.f127 higman_Up_1.body Try.f127.ntmps 2 (fnRes Try.f127) :=
  fnOk_of (by kernel_rfl) (by kernel_rfl) (by kernel_rfl) (by kernel_rfl)
theorem higman_Up_1.con' : ∀ k ds r, higman_Up_1.g k ds = some r → Con Try.prog 127 2 higman_Up_1.ti higman_Up_1.to ds (higman_Up_1.rs r) :=
  fun_ok (T := T) T_ok mixed higman_Up_1.fn (env := higman_Up_1.env) (tbl := higman_Up_1.tbl) (gOut := higman_Up_1.out) (nin := 0) (cuts := []) (fuel := 100000) rfl (by kernel_rfl) (by kernel_rfl) (by kernel_rfl) (fun x hx => by simp [higman_Up_1.tbl] at hx) higman_Up_1.o higman_Up_1.h (fun k _ => by unfold higman_Up_1.env; exact env0_ok)
theorem higman_Up_1.con (k : Nat) {x0 : Int} {x1 : Int} (r : Int) (h : higman_Up_1.f k x0 x1 = some r) : Con Try.prog 127 2 higman_Up_1.ti higman_Up_1.to [⟨(.int .i64), x0⟩, ⟨(.int .i64), x1⟩] (higman_Up_1.rs r) :=
  higman_Up_1.con' (k + 1) _ r (by show higman_Up_1.c k _ = some r; unfold higman_Up_1.c; simp only [pop_self, popN]; exact h)
mutual
def higman_sets_1.l3 : Nat → Int → Int → Int → List (List (Int)) → Int → Int → Int → Int → List (List (Int)) → List (Int) → Option (Int × Int × Int × List (List Int) × List Int)
 | 0, _, _, _, _, _, _, _, _, _, _ => none
 | k + 1, set0, letter1, next7, x11, x12, x13, c0_0, c0_1, c0_2, c0_3 =>
  if x13 < x12 then
   if 0 ≤ x13 then
   if x13 < (↑x11.length : Int) then
    if 0 ≤ x13 then
     if Go.IntKind.i64.wrap (↑(BitVec.ofInt Go.IntKind.i64.bits (set0.fdiv (2 ^ min x13.toNat Go.IntKind.i64.bits)) &&& BitVec.ofInt Go.IntKind.i64.bits 1).toNat : Int) = 1 then
       if 0 ≤ letter1 then
       if letter1 < (↑(Go.Proofs.YtiiioobebeaafaaSx.rd [] x11 x13).length : Int) then
        if 0 ≤ Go.Proofs.YtiiioobebeaafaaSx.rd (Int.ofNat 0) (Go.Proofs.YtiiioobebeaafaaSx.rd [] x11 x13) letter1 then
         higman_sets_1.j7 k set0 letter1 (Go.IntKind.i64.wrap (↑(BitVec.ofInt Go.IntKind.i64.bits next7 ||| BitVec.ofInt Go.IntKind.i64.bits (Go.IntKind.i64.wrap (1 * 2 ^ min (Go.Proofs.YtiiioobebeaafaaSx.rd (Int.ofNat 0) (Go.Proofs.YtiiioobebeaafaaSx.rd [] x11 x13) letter1).toNat Go.IntKind.i64.bits))).toNat : Int)) x11 x12 x13 c0_0 c0_1 c0_2 c0_3
         else none
        else none
       else none
      else
       higman_sets_1.j7 k set0 letter1 next7 x11 x12 x13 c0_0 c0_1 c0_2 c0_3
     else none
    else none
   else none
  else
   (higman_Up_1.f k set0 next7).bind fun r3 =>
    some (r3, c0_0, c0_1, c0_2, c0_3)
def higman_sets_1.j7 : Nat → Int → Int → Int → List (List (Int)) → Int → Int → Int → Int → List (List (Int)) → List (Int) → Option (Int × Int × Int × List (List Int) × List Int)
 | 0, _, _, _, _, _, _, _, _, _, _ => none
 | k + 1, set0, letter1, next7, x11, x12, x13, c0_0, c0_1, c0_2, c0_3 =>
  higman_sets_1.l3 k set0 letter1 next7 x11 x12 (Go.IntKind.i64.wrap (x13 + 1)) c0_0 c0_1 c0_2 c0_3
end
def higman_sets_1.f (k : Nat) (set0 : Int) (letter1 : Int) (x2_0 : Int) (x2_1 : Int) (x2_2 : List (List (Int))) (x2_3 : List (Int)) : Option (Int × Int × Int × List (List Int) × List Int) :=
 higman_sets_1.l3 k set0 letter1 0 x2_2 ((↑x2_2.length : Int)) 0 x2_0 x2_1 x2_2 x2_3

noncomputable def higman_sets_1.body : Code := fnBody Try.f173
def higman_sets_1.ti : Tm := ⟨[(0, .p (.int .i64)), (1, .p (.int .i64)), (2, .ptr 0 0), (3, .ptr 1 0)], [.box [.p (.int .i64), .p (.int .i64), .p (.slice (.slice (.int .i64))), .p (.slice (.int .i64))] 58, .box [.fn 127 []] 150]⟩
def higman_sets_1.to : Tm := ⟨[(0, .p (.int .i64))], [.box [.p (.int .i64), .p (.int .i64), .p (.slice (.slice (.int .i64))), .p (.slice (.int .i64))] 58, .box [.fn 127 []] 150]⟩
def higman_sets_1.rs (r : Int × Int × Int × (List (List Int)) × (List Int)) : List Dat := [⟨(.int .i64), r.1⟩, ⟨(.int .i64), r.2.1⟩, ⟨(.int .i64), r.2.2.1⟩, ⟨(.slice (.slice (.int .i64))), r.2.2.2.1⟩, ⟨(.slice (.int .i64)), r.2.2.2.2⟩]
def higman_sets_1.out (ds : List Dat) : Option (Int × Int × Int × (List (List Int)) × (List Int)) := pop (.int .i64) ds fun x0 ds => pop (.int .i64) ds fun x1 ds => pop (.int .i64) ds fun x2 ds => pop (.slice (.slice (.int .i64))) ds fun x3 ds => pop (.slice (.int .i64)) ds fun x4 ds => popN ds (some (x0, x1, x2, x3, x4))
def higman_sets_1.c (k : Nat) (ds : List Dat) : Option (Int × Int × Int × (List (List Int)) × (List Int)) := pop (.int .i64) ds fun x0 ds => pop (.int .i64) ds fun x1 ds => pop (.int .i64) ds fun x2 ds => pop (.int .i64) ds fun x3 ds => pop (.slice (.slice (.int .i64))) ds fun x4 ds => pop (.slice (.int .i64)) ds fun x5 ds => popN ds (higman_sets_1.f k x0 x1 x2 x3 x4 x5)
def higman_sets_1.g : Nat → List Dat → Option (Int × Int × Int × (List (List Int)) × (List Int))
 | 0, _ => none
 | k + 1, ds => higman_sets_1.c k ds
def higman_sets_1.env (k : Nat) : Nat → List SV → List Chunk → KT (Int × Int × Int × (List (List Int)) × (List Int)) → Option (Int × Int × Int × (List (List Int)) × (List Int)) := (envC 127 2 higman_Up_1.ti higman_Up_1.to (fun ds K => pop (.int .i64) ds fun x0 ds => pop (.int .i64) ds fun x1 ds => popN ds ((higman_Up_1.f k x0 x1).bind fun r => K (higman_Up_1.rs r))) env0)
def higman_sets_1.t7 : Tm := ⟨[(0, .p (.int .i64)), (1, .p (.int .i64)), (3, .ptr 1 0), (7, .p (.int .i64)), (11, .p (.slice (.slice (.int .i64)))), (12, .p (.int .i64)), (13, .p (.int .i64))], [.box [.p (.int .i64), .p (.int .i64), .p (.slice (.slice (.int .i64))), .p (.slice (.int .i64))] 58, .box [.fn 127 []] 150]⟩
def higman_sets_1.c7 (k : Nat) (ds : List Dat) : Option (Int × Int × Int × (List (List Int)) × (List Int)) := pop (.int .i64) ds fun x0 ds => pop (.int .i64) ds fun x1 ds => pop (.int .i64) ds fun x2 ds => pop (.slice (.slice (.int .i64))) ds fun x3 ds => pop (.int .i64) ds fun x4 ds => pop (.int .i64) ds fun x5 ds => pop (.int .i64) ds fun x6 ds => pop (.int .i64) ds fun x7 ds => pop (.slice (.slice (.int .i64))) ds fun x8 ds => pop (.slice (.int .i64)) ds fun x9 ds => popN ds (higman_sets_1.l3 k x0 x1 x2 x3 x4 x5 x6 x7 x8 x9)
def higman_sets_1.t14 : Tm := ⟨[(0, .p (.int .i64)), (1, .p (.int .i64)), (3, .ptr 1 0), (7, .p (.int .i64)), (11, .p (.slice (.slice (.int .i64)))), (12, .p (.int .i64)), (13, .p (.int .i64))], [.box [.p (.int .i64), .p (.int .i64), .p (.slice (.slice (.int .i64))), .p (.slice (.int .i64))] 58, .box [.fn 127 []] 150]⟩
def higman_sets_1.c14 (k : Nat) (ds : List Dat) : Option (Int × Int × Int × (List (List Int)) × (List Int)) := pop (.int .i64) ds fun x0 ds => pop (.int .i64) ds fun x1 ds => pop (.int .i64) ds fun x2 ds => pop (.slice (.slice (.int .i64))) ds fun x3 ds => pop (.int .i64) ds fun x4 ds => pop (.int .i64) ds fun x5 ds => pop (.int .i64) ds fun x6 ds => pop (.int .i64) ds fun x7 ds => pop (.slice (.slice (.int .i64))) ds fun x8 ds => pop (.slice (.int .i64)) ds fun x9 ds => popN ds (higman_sets_1.j7 k x0 x1 x2 x3 x4 x5 x6 x7 x8 x9)
def higman_sets_1.tbl : List (Nat × Tm × (Nat → List Dat → Option (Int × Int × Int × (List (List Int)) × (List Int)))) := [(7, higman_sets_1.t7, higman_sets_1.c7), (14, higman_sets_1.t14, higman_sets_1.c14)]
noncomputable abbrev higman_sets_1.R (k : Nat) := run T (higman_sets_1.env k) Try.f173.ntmps (cutE 2 higman_sets_1.tbl k) (finE 2 higman_sets_1.to higman_sets_1.out) (fnRes Try.f173) [7] 100000 true
theorem higman_sets_1.e7 (k : Nat) (x0 : Int) (x1 : Int) (x2 : Int) (x3 : (List (List Int))) (x4 : Int) (x5 : Int) (x6 : Int) (x7 : Int) (x8 : (List (List Int))) (x9 : (List Int)) : higman_sets_1.l3 (k + 1) x0 x1 x2 x3 x4 x5 x6 x7 x8 x9 = higman_sets_1.R k (start (stackOf 7 higman_sets_1.body)) (higman_sets_1.t7.fill [⟨(.int .i64), x0⟩, ⟨(.int .i64), x1⟩, ⟨(.int .i64), x2⟩, ⟨(.slice (.slice (.int .i64))), x3⟩, ⟨(.int .i64), x4⟩, ⟨(.int .i64), x5⟩, ⟨(.int .i64), x6⟩, ⟨(.int .i64), x7⟩, ⟨(.slice (.slice (.int .i64))), x8⟩, ⟨(.slice (.int .i64)), x9⟩]) := by kernel_rfl
theorem higman_sets_1.s7 : stackAt 7 higman_sets_1.body [] = some (stackOf 7 higman_sets_1.body) := by kernel_rfl
theorem higman_sets_1.h7 (k : Nat) (ds : List Dat) (r : Int × Int × Int × (List (List Int)) × (List Int)) (h : higman_sets_1.c7 k ds = some r) : ∃ k', k' < k ∧ ∃ s, stackAt 7 higman_sets_1.body [] = some s ∧ higman_sets_1.R k' (start s) (higman_sets_1.t7.fill ds) = some r := by
  unfold higman_sets_1.c7 at h
  obtain ⟨x0, d0, rfl, h0⟩ := pop_some h
  obtain ⟨x1, d1, rfl, h1⟩ := pop_some h0
  obtain ⟨x2, d2, rfl, h2⟩ := pop_some h1
  obtain ⟨x3, d3, rfl, h3⟩ := pop_some h2
  obtain ⟨x4, d4, rfl, h4⟩ := pop_some h3
  obtain ⟨x5, d5, rfl, h5⟩ := pop_some h4
  obtain ⟨x6, d6, rfl, h6⟩ := pop_some h5
  obtain ⟨x7, d7, rfl, h7⟩ := pop_some h6
  obtain ⟨x8, d8, rfl, h8⟩ := pop_some h7
  obtain ⟨x9, d9, rfl, h9⟩ := pop_some h8
  obtain ⟨rfl, g⟩ := popN_some h9
  cases k with
  | zero => cases (show none = some r from g)
  | succ k => exact ⟨k, Nat.lt_succ_self k, _, higman_sets_1.s7, (higman_sets_1.e7 k x0 x1 x2 x3 x4 x5 x6 x7 x8 x9).symm.trans g⟩
theorem higman_sets_1.e14 (k : Nat) (x0 : Int) (x1 : Int) (x2 : Int) (x3 : (List (List Int))) (x4 : Int) (x5 : Int) (x6 : Int) (x7 : Int) (x8 : (List (List Int))) (x9 : (List Int)) : higman_sets_1.j7 (k + 1) x0 x1 x2 x3 x4 x5 x6 x7 x8 x9 = higman_sets_1.R k (start (stackOf 14 higman_sets_1.body)) (higman_sets_1.t14.fill [⟨(.int .i64), x0⟩, ⟨(.int .i64), x1⟩, ⟨(.int .i64), x2⟩, ⟨(.slice (.slice (.int .i64))), x3⟩, ⟨(.int .i64), x4⟩, ⟨(.int .i64), x5⟩, ⟨(.int .i64), x6⟩, ⟨(.int .i64), x7⟩, ⟨(.slice (.slice (.int .i64))), x8⟩, ⟨(.slice (.int .i64)), x9⟩]) := by kernel_rfl
theorem higman_sets_1.s14 : stackAt 14 higman_sets_1.body [] = some (stackOf 14 higman_sets_1.body) := by kernel_rfl
theorem higman_sets_1.h14 (k : Nat) (ds : List Dat) (r : Int × Int × Int × (List (List Int)) × (List Int)) (h : higman_sets_1.c14 k ds = some r) : ∃ k', k' < k ∧ ∃ s, stackAt 14 higman_sets_1.body [] = some s ∧ higman_sets_1.R k' (start s) (higman_sets_1.t14.fill ds) = some r := by
  unfold higman_sets_1.c14 at h
  obtain ⟨x0, d0, rfl, h0⟩ := pop_some h
  obtain ⟨x1, d1, rfl, h1⟩ := pop_some h0
  obtain ⟨x2, d2, rfl, h2⟩ := pop_some h1
  obtain ⟨x3, d3, rfl, h3⟩ := pop_some h2
  obtain ⟨x4, d4, rfl, h4⟩ := pop_some h3
  obtain ⟨x5, d5, rfl, h5⟩ := pop_some h4
  obtain ⟨x6, d6, rfl, h6⟩ := pop_some h5
  obtain ⟨x7, d7, rfl, h7⟩ := pop_some h6
  obtain ⟨x8, d8, rfl, h8⟩ := pop_some h7
  obtain ⟨x9, d9, rfl, h9⟩ := pop_some h8
  obtain ⟨rfl, g⟩ := popN_some h9
  cases k with
  | zero => cases (show none = some r from g)
  | succ k => exact ⟨k, Nat.lt_succ_self k, _, higman_sets_1.s14, (higman_sets_1.e14 k x0 x1 x2 x3 x4 x5 x6 x7 x8 x9).symm.trans g⟩
theorem higman_sets_1.e (k : Nat) (x0 : Int) (x1 : Int) (x2 : Int) (x3 : Int) (x4 : (List (List Int))) (x5 : (List Int)) : higman_sets_1.f k x0 x1 x2 x3 x4 x5 = higman_sets_1.R k ([.code higman_sets_1.body]) (higman_sets_1.ti.fill [⟨(.int .i64), x0⟩, ⟨(.int .i64), x1⟩, ⟨(.int .i64), x2⟩, ⟨(.int .i64), x3⟩, ⟨(.slice (.slice (.int .i64))), x4⟩, ⟨(.slice (.int .i64)), x5⟩]) := by kernel_rfl
theorem higman_sets_1.h (k : Nat) (ds : List Dat) (r : Int × Int × Int × (List (List Int)) × (List Int)) (h : higman_sets_1.g k ds = some r) : ∃ k', k' < k ∧ higman_sets_1.R k' ([.code higman_sets_1.body]) (higman_sets_1.ti.fill ds) = some r := by
  cases k with
  | zero => cases (show none = some r from h)
  | succ k =>
  replace h : higman_sets_1.c k ds = some r := h
  unfold higman_sets_1.c at h
  obtain ⟨x0, d0, rfl, h0⟩ := pop_some h
  obtain ⟨x1, d1, rfl, h1⟩ := pop_some h0
  obtain ⟨x2, d2, rfl, h2⟩ := pop_some h1
  obtain ⟨x3, d3, rfl, h3⟩ := pop_some h2
  obtain ⟨x4, d4, rfl, h4⟩ := pop_some h3
  obtain ⟨x5, d5, rfl, h5⟩ := pop_some h4
  obtain ⟨rfl, g⟩ := popN_some h5
  exact ⟨k, Nat.lt_succ_self k, (higman_sets_1.e k x0 x1 x2 x3 x4 x5).symm.trans g⟩
theorem higman_sets_1.o (ds : List Dat) (r : Int × Int × Int × (List (List Int)) × (List Int)) (h : higman_sets_1.out ds = some r) : ds = higman_sets_1.rs r := by
  unfold higman_sets_1.out at h
  obtain ⟨x0, d0, rfl, h0⟩ := pop_some h
  obtain ⟨x1, d1, rfl, h1⟩ := pop_some h0
  obtain ⟨x2, d2, rfl, h2⟩ := pop_some h1
  obtain ⟨x3, d3, rfl, h3⟩ := pop_some h2
  obtain ⟨x4, d4, rfl, h4⟩ := pop_some h3
  obtain ⟨rfl, g⟩ := popN_some h4
  cases g
  rfl
theorem higman_sets_1.fn : FnOk Try.prog 173 Try.f173 higman_sets_1.body Try.f173.ntmps 4 (fnRes Try.f173) :=
  fnOk_of (by kernel_rfl) (by kernel_rfl) (by kernel_rfl) (by kernel_rfl)
theorem higman_sets_1.con' : ∀ k ds r, higman_sets_1.g k ds = some r → Con Try.prog 173 4 higman_sets_1.ti higman_sets_1.to ds (higman_sets_1.rs r) :=
  fun_ok (T := T) T_ok mixed higman_sets_1.fn (env := higman_sets_1.env) (tbl := higman_sets_1.tbl) (gOut := higman_sets_1.out) (nin := 2) (cuts := [7]) (fuel := 100000) rfl (by kernel_rfl) (by kernel_rfl) (by kernel_rfl) (fun x hx => by
    simp only [higman_sets_1.tbl, List.mem_cons, List.not_mem_nil, or_false] at hx
    rcases hx with rfl | rfl
    · exact higman_sets_1.h7
    · exact higman_sets_1.h14
) higman_sets_1.o higman_sets_1.h (fun k _ => by unfold higman_sets_1.env; exact (envC_ok (fun ds K r h => by
    obtain ⟨x0, d0, rfl, h0⟩ := pop_some h
    obtain ⟨x1, d1, rfl, h1⟩ := pop_some h0
    obtain ⟨rfl, g⟩ := popN_some h1
    obtain ⟨r1, h1, h2⟩ := bind_some g
    exact ⟨_, h2, higman_Up_1.con k _ h1⟩) env0_ok))
theorem higman_sets_1.con (k : Nat) {x0 : Int} {x1 : Int} {x2 : Int} {x3 : Int} {x4 : (List (List Int))} {x5 : (List Int)} (r : Int × Int × Int × (List (List Int)) × (List Int)) (h : higman_sets_1.f k x0 x1 x2 x3 x4 x5 = some r) : Con Try.prog 173 4 higman_sets_1.ti higman_sets_1.to [⟨(.int .i64), x0⟩, ⟨(.int .i64), x1⟩, ⟨(.int .i64), x2⟩, ⟨(.int .i64), x3⟩, ⟨(.slice (.slice (.int .i64))), x4⟩, ⟨(.slice (.int .i64)), x5⟩] (higman_sets_1.rs r) :=
  higman_sets_1.con' (k + 1) _ r (by show higman_sets_1.c k _ = some r; unfold higman_sets_1.c; simp only [pop_self, popN]; exact h)
def higman_sets_2.f (k : Nat) (set0 : Int) (x1_0 : Int) : Option (Int × Int) :=
 if Go.IntKind.i64.wrap (↑(BitVec.ofInt Go.IntKind.i64.bits set0 &&& BitVec.ofInt Go.IntKind.i64.bits x1_0).toNat : Int) = 0 then
  some (0, x1_0)
 else
  some (1, x1_0)

noncomputable def higman_sets_2.body : Code := fnBody Try.f174
def higman_sets_2.ti : Tm := ⟨[(0, .p (.int .i64)), (1, .ptr 0 0)], [.box [.p (.int .i64)] 3]⟩
def higman_sets_2.to : Tm := ⟨[(0, .p (.int .i64))], [.box [.p (.int .i64)] 3]⟩
def higman_sets_2.rs (r : Int × Int) : List Dat := [⟨(.int .i64), r.1⟩, ⟨(.int .i64), r.2⟩]
def higman_sets_2.out (ds : List Dat) : Option (Int × Int) := pop (.int .i64) ds fun x0 ds => pop (.int .i64) ds fun x1 ds => popN ds (some (x0, x1))
def higman_sets_2.c (k : Nat) (ds : List Dat) : Option (Int × Int) := pop (.int .i64) ds fun x0 ds => pop (.int .i64) ds fun x1 ds => popN ds (higman_sets_2.f k x0 x1)
def higman_sets_2.g : Nat → List Dat → Option (Int × Int)
 | 0, _ => none
 | k + 1, ds => higman_sets_2.c k ds
def higman_sets_2.env (k : Nat) : Nat → List SV → List Chunk → KT (Int × Int) → Option (Int × Int) := env0
def higman_sets_2.tbl : List (Nat × Tm × (Nat → List Dat → Option (Int × Int))) := []
noncomputable abbrev higman_sets_2.R (k : Nat) := run T (higman_sets_2.env k) Try.f174.ntmps (cutE 1 higman_sets_2.tbl k) (finE 1 higman_sets_2.to higman_sets_2.out) (fnRes Try.f174) [] 100000 true
theorem higman_sets_2.e (k : Nat) (x0 : Int) (x1 : Int) : higman_sets_2.f k x0 x1 = higman_sets_2.R k ([.code higman_sets_2.body]) (higman_sets_2.ti.fill [⟨(.int .i64), x0⟩, ⟨(.int .i64), x1⟩]) := by kernel_rfl
theorem higman_sets_2.h (k : Nat) (ds : List Dat) (r : Int × Int) (h : higman_sets_2.g k ds = some r) : ∃ k', k' < k ∧ higman_sets_2.R k' ([.code higman_sets_2.body]) (higman_sets_2.ti.fill ds) = some r := by
  cases k with
  | zero => cases (show none = some r from h)
  | succ k =>
  replace h : higman_sets_2.c k ds = some r := h
  unfold higman_sets_2.c at h
  obtain ⟨x0, d0, rfl, h0⟩ := pop_some h
  obtain ⟨x1, d1, rfl, h1⟩ := pop_some h0
  obtain ⟨rfl, g⟩ := popN_some h1
  exact ⟨k, Nat.lt_succ_self k, (higman_sets_2.e k x0 x1).symm.trans g⟩
theorem higman_sets_2.o (ds : List Dat) (r : Int × Int) (h : higman_sets_2.out ds = some r) : ds = higman_sets_2.rs r := by
  unfold higman_sets_2.out at h
  obtain ⟨x0, d0, rfl, h0⟩ := pop_some h
  obtain ⟨x1, d1, rfl, h1⟩ := pop_some h0
  obtain ⟨rfl, g⟩ := popN_some h1
  cases g
  rfl
theorem higman_sets_2.fn : FnOk Try.prog 174 Try.f174 higman_sets_2.body Try.f174.ntmps 2 (fnRes Try.f174) :=
  fnOk_of (by kernel_rfl) (by kernel_rfl) (by kernel_rfl) (by kernel_rfl)
theorem higman_sets_2.con' : ∀ k ds r, higman_sets_2.g k ds = some r → Con Try.prog 174 2 higman_sets_2.ti higman_sets_2.to ds (higman_sets_2.rs r) :=
  fun_ok (T := T) T_ok mixed higman_sets_2.fn (env := higman_sets_2.env) (tbl := higman_sets_2.tbl) (gOut := higman_sets_2.out) (nin := 1) (cuts := []) (fuel := 100000) rfl (by kernel_rfl) (by kernel_rfl) (by kernel_rfl) (fun x hx => by simp [higman_sets_2.tbl] at hx) higman_sets_2.o higman_sets_2.h (fun k _ => by unfold higman_sets_2.env; exact env0_ok)
theorem higman_sets_2.con (k : Nat) {x0 : Int} {x1 : Int} (r : Int × Int) (h : higman_sets_2.f k x0 x1 = some r) : Con Try.prog 174 2 higman_sets_2.ti higman_sets_2.to [⟨(.int .i64), x0⟩, ⟨(.int .i64), x1⟩] (higman_sets_2.rs r) :=
  higman_sets_2.con' (k + 1) _ r (by show higman_sets_2.c k _ = some r; unfold higman_sets_2.c; simp only [pop_self, popN]; exact h)
mutual
def det_Explore_int_.l4 : Nat → Int → Int → Int → Int → List (List (Int)) → List (Int) → Int → Int → Int → Int → Int → List ((Int × Int)) → List (Int) → List (List (Int)) → List (Int) → List (List (Int)) → List (Int) → Option (Int × Int × Bool × Int × Int × List (List Int) × List Int × Int × List (List Int) × List Int)
 | 0, _, _, _, _, _, _, _, _, _, _, _, _, _, _, _, _, _ => none
 | k + 1, letters0, most4, c0_0, c0_1, c0_2, c0_3, c2_0, x10_0, x10_1, d12_0, d12_1, number13, l14, c7, c8, c9, c10 =>
  if (↑c9.length : Int) < (↑l14.length : Int) then
   if 0 ≤ (↑c9.length : Int) then
   if (↑c9.length : Int) < (↑l14.length : Int) then
    if 0 ≤ letters0 then
     if letters0 ≤ letters0 then
      if letters0 * ((↑8 : Int) + 1) ≤ 1099511627776 then
       det_Explore_int_.l8 k letters0 most4 (l14.getD (↑c9.length : Int).toNat (Int.ofNat 0)) letters0 0 c0_0 c0_1 c0_2 c0_3 c2_0 x10_0 x10_1 d12_0 d12_1 number13 l14 (List.replicate letters0.toNat (Int.ofNat 0)) c7 c8 c9 c10
       else none
      else none
     else none
    else none
   else none
  else
   some (d12_0, d12_1, true, c0_0, c0_1, c0_2, c0_3, c2_0, c9, c10)
def det_Explore_int_.l8 : Nat → Int → Int → Int → Int → Int → Int → Int → List (List (Int)) → List (Int) → Int → Int → Int → Int → Int → List ((Int × Int)) → List (Int) → List (Int) → List (List (Int)) → List (Int) → List (List (Int)) → List (Int) → Option (Int × Int × Bool × Int × Int × List (List Int) × List Int × Int × List (List Int) × List Int)
 | 0, _, _, _, _, _, _, _, _, _, _, _, _, _, _, _, _, _, _, _, _, _ => none
 | k + 1, letters0, most4, k15, x42, x43, c0_0, c0_1, c0_2, c0_3, c2_0, x10_0, x10_1, d12_0, d12_1, number13, l14, row16, c8, c9, c10, c11 =>
  if x43 < x42 then
   (higman_sets_1.f k k15 x43 c0_0 c0_1 c0_2 c0_3).bind fun r3 =>
    if Go.Proofs.YtiiioobebeaafaaSx.mhas (Go.Proofs.YtiiioobebeaafaaSx.Ty.int Go.IntKind.i64) (Go.Proofs.YtiiioobebeaafaaSx.Ty.int Go.IntKind.i64) number13 r3.fst = true then
     det_Explore_int_.j18 k letters0 most4 k15 x43 (Go.Proofs.YtiiioobebeaafaaSx.mget (Go.Proofs.YtiiioobebeaafaaSx.Ty.int Go.IntKind.i64) (Go.Proofs.YtiiioobebeaafaaSx.Ty.int Go.IntKind.i64) number13 r3.fst) x42 x43 r3.snd.fst r3.snd.snd.fst r3.snd.snd.snd.fst r3.snd.snd.snd.snd c2_0 x10_0 x10_1 d12_0 d12_1 number13 l14 row16 c8 c9 c10 c11
    else
     if (↑l14.length : Int) = most4 then
      some (0, 0, false, r3.snd.fst, r3.snd.snd.fst, r3.snd.snd.snd.fst, r3.snd.snd.snd.snd, c2_0, [], [])
     else
      if (l14 ++ [r3.fst]).length.blt 1000000000 = true then
      det_Explore_int_.j18 k letters0 most4 k15 x43 ((↑l14.length : Int)) x42 x43 r3.snd.fst r3.snd.snd.fst r3.snd.snd.snd.fst r3.snd.snd.snd.snd c2_0 x10_0 x10_1 d12_0 d12_1 (Go.Proofs.YtiiioobebeaafaaSx.mput (Go.Proofs.YtiiioobebeaafaaSx.Ty.int Go.IntKind.i64) (Go.Proofs.YtiiioobebeaafaaSx.Ty.int Go.IntKind.i64) number13 r3.fst (↑l14.length : Int)) (l14 ++ [r3.fst]) row16 c8 c9 c10 c11
      else none
  else
   if (c10 ++ [row16]).length.blt 1000000000 = true then
   (higman_sets_2.f k k15 c2_0).bind fun r4 =>
     if (c11 ++ [r4.fst]).length.blt 1000000000 = true then
     det_Explore_int_.l4 k letters0 most4 c0_0 c0_1 c0_2 c0_3 r4.snd x10_0 x10_1 d12_0 d12_1 number13 l14 c8 c9 (c10 ++ [row16]) (c11 ++ [r4.fst])
     else none
   else none
def det_Explore_int_.j18 : Nat → Int → Int → Int → Int → Int → Int → Int → Int → Int → List (List (Int)) → List (Int) → Int → Int → Int → Int → Int → List ((Int × Int)) → List (Int) → List (Int) → List (List (Int)) → List (Int) → List (List (Int)) → List (Int) → Option (Int × Int × Bool × Int × Int × List (List Int) × List Int × Int × List (List Int) × List Int)
 | 0, _, _, _, _, _, _, _, _, _, _, _, _, _, _, _, _, _, _, _, _, _, _, _ => none
 | k + 1, letters0, most4, k15, a17, n19, x42, x43, c0_0, c0_1, c0_2, c0_3, c2_0, x10_0, x10_1, d12_0, d12_1, number13, l14, row16, c8, c9, c10, c11 =>
  if 0 ≤ a17 then
  if a17 < (↑row16.length : Int) then
   det_Explore_int_.l8 k letters0 most4 k15 x42 (Go.IntKind.i64.wrap (x43 + 1)) c0_0 c0_1 c0_2 c0_3 c2_0 x10_0 x10_1 d12_0 d12_1 number13 l14 (row16.set a17.toNat n19) c8 c9 c10 c11
   else none
  else none
end
def det_Explore_int_.f (k : Nat) (letters0 : Int) (first1 : Int) (most4 : Int) (c0_0 : Int) (c0_1 : Int) (c0_2 : List (List (Int))) (c0_3 : List (Int)) (c2_0 : Int) : Option (Int × Int × Bool × Int × Int × List (List Int) × List Int × Int × List (List Int) × List Int) :=
 det_Explore_int_.l4 k letters0 most4 c0_0 c0_1 c0_2 c0_3 c2_0 0 0 letters0 0 (Go.Proofs.YtiiioobebeaafaaSx.mput (Go.Proofs.YtiiioobebeaafaaSx.Ty.int Go.IntKind.i64) (Go.Proofs.YtiiioobebeaafaaSx.Ty.int Go.IntKind.i64) [] first1 (Int.ofNat 0)) [first1] [] [] [] []

noncomputable def det_Explore_int_.body : Code := fnBody Try.f112
def det_Explore_int_.ti : Tm := ⟨[(0, .p (.int .i64)), (1, .p (.int .i64)), (2, .fn 173 [.ptr 0 0, .ptr 1 0]), (3, .fn 174 [.ptr 2 0]), (4, .p (.int .i64))], [.box [.p (.int .i64), .p (.int .i64), .p (.slice (.slice (.int .i64))), .p (.slice (.int .i64))] 58, .box [.fn 127 []] 150, .box [.p (.int .i64)] 3]⟩
def det_Explore_int_.to : Tm := ⟨[(0, .agg [.p (.int .i64), .p (.int .i64), .own 3, .own 4]), (1, .p .bool)], [.box [.p (.int .i64), .p (.int .i64), .p (.slice (.slice (.int .i64))), .p (.slice (.int .i64))] 58, .box [.fn 127 []] 150, .box [.p (.int .i64)] 3, .own (.slice (.int .i64)), .own (.int .i64)]⟩
def det_Explore_int_.rs (r : Int × Int × Bool × Int × Int × (List (List Int)) × (List Int) × Int × (List (List Int)) × (List Int)) : List Dat := [⟨(.int .i64), r.1⟩, ⟨(.int .i64), r.2.1⟩, ⟨.bool, r.2.2.1⟩, ⟨(.int .i64), r.2.2.2.1⟩, ⟨(.int .i64), r.2.2.2.2.1⟩, ⟨(.slice (.slice (.int .i64))), r.2.2.2.2.2.1⟩, ⟨(.slice (.int .i64)), r.2.2.2.2.2.2.1⟩, ⟨(.int .i64), r.2.2.2.2.2.2.2.1⟩, ⟨(.slice (.slice (.int .i64))), r.2.2.2.2.2.2.2.2.1⟩, ⟨(.slice (.int .i64)), r.2.2.2.2.2.2.2.2.2⟩]
def det_Explore_int_.out (ds : List Dat) : Option (Int × Int × Bool × Int × Int × (List (List Int)) × (List Int) × Int × (List (List Int)) × (List Int)) := pop (.int .i64) ds fun x0 ds => pop (.int .i64) ds fun x1 ds => pop .bool ds fun x2 ds => pop (.int .i64) ds fun x3 ds => pop (.int .i64) ds fun x4 ds => pop (.slice (.slice (.int .i64))) ds fun x5 ds => pop (.slice (.int .i64)) ds fun x6 ds => pop (.int .i64) ds fun x7 ds => pop (.slice (.slice (.int .i64))) ds fun x8 ds => pop (.slice (.int .i64)) ds fun x9 ds => popN ds (some (x0, x1, x2, x3, x4, x5, x6, x7, x8, x9))
def det_Explore_int_.c (k : Nat) (ds : List Dat) : Option (Int × Int × Bool × Int × Int × (List (List Int)) × (List Int) × Int × (List (List Int)) × (List Int)) := pop (.int .i64) ds fun x0 ds => pop (.int .i64) ds fun x1 ds => pop (.int .i64) ds fun x2 ds => pop (.int .i64) ds fun x3 ds => pop (.int .i64) ds fun x4 ds => pop (.slice (.slice (.int .i64))) ds fun x5 ds => pop (.slice (.int .i64)) ds fun x6 ds => pop (.int .i64) ds fun x7 ds => popN ds (det_Explore_int_.f k x0 x1 x2 x3 x4 x5 x6 x7)
def det_Explore_int_.g : Nat → List Dat → Option (Int × Int × Bool × Int × Int × (List (List Int)) × (List Int) × Int × (List (List Int)) × (List Int))
 | 0, _ => none
 | k + 1, ds => det_Explore_int_.c k ds
def det_Explore_int_.env (k : Nat) : Nat → List SV → List Chunk → KT (Int × Int × Bool × Int × Int × (List (List Int)) × (List Int) × Int × (List (List Int)) × (List Int)) → Option (Int × Int × Bool × Int × Int × (List (List Int)) × (List Int) × Int × (List (List Int)) × (List Int)) := (envC 173 4 higman_sets_1.ti higman_sets_1.to (fun ds K => pop (.int .i64) ds fun x0 ds => pop (.int .i64) ds fun x1 ds => pop (.int .i64) ds fun x2 ds => pop (.int .i64) ds fun x3 ds => pop (.slice (.slice (.int .i64))) ds fun x4 ds => pop (.slice (.int .i64)) ds fun x5 ds => popN ds ((higman_sets_1.f k x0 x1 x2 x3 x4 x5).bind fun r => K (higman_sets_1.rs r))) (envC 174 2 higman_sets_2.ti higman_sets_2.to (fun ds K => pop (.int .i64) ds fun x0 ds => pop (.int .i64) ds fun x1 ds => popN ds ((higman_sets_2.f k x0 x1).bind fun r => K (higman_sets_2.rs r))) env0))
def det_Explore_int_.t9 : Tm := ⟨[(0, .p (.int .i64)), (2, .fn 173 [.ptr 0 0, .ptr 1 0]), (3, .fn 174 [.ptr 2 0]), (4, .p (.int .i64)), (10, .ptr 3 0), (12, .ptr 4 0), (13, .map 5), (14, .own 6)], [.box [.p (.int .i64), .p (.int .i64), .p (.slice (.slice (.int .i64))), .p (.slice (.int .i64))] 58, .box [.fn 127 []] 150, .box [.p (.int .i64)] 3, .box [.p (.int .i64), .p (.int .i64), .own 7, .own 8] 58, .box [.p (.int .i64), .p (.int .i64), .own 9, .own 10] 58, .map (.int .i64) (.int .i64), .own (.int .i64), .own (.slice (.int .i64)), .own (.int .i64), .own (.slice (.int .i64)), .own (.int .i64)]⟩
def det_Explore_int_.c9 (k : Nat) (ds : List Dat) : Option (Int × Int × Bool × Int × Int × (List (List Int)) × (List Int) × Int × (List (List Int)) × (List Int)) := pop (.int .i64) ds fun x0 ds => pop (.int .i64) ds fun x1 ds => pop (.int .i64) ds fun x2 ds => pop (.int .i64) ds fun x3 ds => pop (.slice (.slice (.int .i64))) ds fun x4 ds => pop (.slice (.int .i64)) ds fun x5 ds => pop (.int .i64) ds fun x6 ds => pop (.int .i64) ds fun x7 ds => pop (.int .i64) ds fun x8 ds => pop (.int .i64) ds fun x9 ds => pop (.int .i64) ds fun x10 ds => pop (.slice (.pair (.int .i64) (.int .i64))) ds fun x11 ds => pop (.slice (.int .i64)) ds fun x12 ds => pop (.slice (.slice (.int .i64))) ds fun x13 ds => pop (.slice (.int .i64)) ds fun x14 ds => pop (.slice (.slice (.int .i64))) ds fun x15 ds => pop (.slice (.int .i64)) ds fun x16 ds => popN ds (det_Explore_int_.l4 k x0 x1 x2 x3 x4 x5 x6 x7 x8 x9 x10 x11 x12 x13 x14 x15 x16)
def det_Explore_int_.t17 : Tm := ⟨[(0, .p (.int .i64)), (2, .fn 173 [.ptr 0 0, .ptr 1 0]), (3, .fn 174 [.ptr 2 0]), (4, .p (.int .i64)), (10, .ptr 3 0), (12, .ptr 4 0), (13, .map 5), (14, .own 6), (15, .p (.int .i64)), (16, .own 7), (42, .p (.int .i64)), (43, .p (.int .i64))], [.box [.p (.int .i64), .p (.int .i64), .p (.slice (.slice (.int .i64))), .p (.slice (.int .i64))] 58, .box [.fn 127 []] 150, .box [.p (.int .i64)] 3, .box [.p (.int .i64), .p (.int .i64), .own 8, .own 9] 58, .box [.p (.int .i64), .p (.int .i64), .own 10, .own 11] 58, .map (.int .i64) (.int .i64), .own (.int .i64), .own (.int .i64), .own (.slice (.int .i64)), .own (.int .i64), .own (.slice (.int .i64)), .own (.int .i64)]⟩
def det_Explore_int_.c17 (k : Nat) (ds : List Dat) : Option (Int × Int × Bool × Int × Int × (List (List Int)) × (List Int) × Int × (List (List Int)) × (List Int)) := pop (.int .i64) ds fun x0 ds => pop (.int .i64) ds fun x1 ds => pop (.int .i64) ds fun x2 ds => pop (.int .i64) ds fun x3 ds => pop (.int .i64) ds fun x4 ds => pop (.int .i64) ds fun x5 ds => pop (.int .i64) ds fun x6 ds => pop (.slice (.slice (.int .i64))) ds fun x7 ds => pop (.slice (.int .i64)) ds fun x8 ds => pop (.int .i64) ds fun x9 ds => pop (.int .i64) ds fun x10 ds => pop (.int .i64) ds fun x11 ds => pop (.int .i64) ds fun x12 ds => pop (.int .i64) ds fun x13 ds => pop (.slice (.pair (.int .i64) (.int .i64))) ds fun x14 ds => pop (.slice (.int .i64)) ds fun x15 ds => pop (.slice (.int .i64)) ds fun x16 ds => pop (.slice (.slice (.int .i64))) ds fun x17 ds => pop (.slice (.int .i64)) ds fun x18 ds => pop (.slice (.slice (.int .i64))) ds fun x19 ds => pop (.slice (.int .i64)) ds fun x20 ds => popN ds (det_Explore_int_.l8 k x0 x1 x2 x3 x4 x5 x6 x7 x8 x9 x10 x11 x12 x13 x14 x15 x16 x17 x18 x19 x20)
def det_Explore_int_.t36 : Tm := ⟨[(0, .p (.int .i64)), (2, .fn 173 [.ptr 0 0, .ptr 1 0]), (3, .fn 174 [.ptr 2 0]), (4, .p (.int .i64)), (10, .ptr 3 0), (12, .ptr 4 0), (13, .map 5), (14, .own 6), (15, .p (.int .i64)), (16, .own 7), (17, .p (.int .i64)), (19, .p (.int .i64)), (42, .p (.int .i64)), (43, .p (.int .i64))], [.box [.p (.int .i64), .p (.int .i64), .p (.slice (.slice (.int .i64))), .p (.slice (.int .i64))] 58, .box [.fn 127 []] 150, .box [.p (.int .i64)] 3, .box [.p (.int .i64), .p (.int .i64), .own 8, .own 9] 58, .box [.p (.int .i64), .p (.int .i64), .own 10, .own 11] 58, .map (.int .i64) (.int .i64), .own (.int .i64), .own (.int .i64), .own (.slice (.int .i64)), .own (.int .i64), .own (.slice (.int .i64)), .own (.int .i64)]⟩
def det_Explore_int_.c36 (k : Nat) (ds : List Dat) : Option (Int × Int × Bool × Int × Int × (List (List Int)) × (List Int) × Int × (List (List Int)) × (List Int)) := pop (.int .i64) ds fun x0 ds => pop (.int .i64) ds fun x1 ds => pop (.int .i64) ds fun x2 ds => pop (.int .i64) ds fun x3 ds => pop (.int .i64) ds fun x4 ds => pop (.int .i64) ds fun x5 ds => pop (.int .i64) ds fun x6 ds => pop (.int .i64) ds fun x7 ds => pop (.int .i64) ds fun x8 ds => pop (.slice (.slice (.int .i64))) ds fun x9 ds => pop (.slice (.int .i64)) ds fun x10 ds => pop (.int .i64) ds fun x11 ds => pop (.int .i64) ds fun x12 ds => pop (.int .i64) ds fun x13 ds => pop (.int .i64) ds fun x14 ds => pop (.int .i64) ds fun x15 ds => pop (.slice (.pair (.int .i64) (.int .i64))) ds fun x16 ds => pop (.slice (.int .i64)) ds fun x17 ds => pop (.slice (.int .i64)) ds fun x18 ds => pop (.slice (.slice (.int .i64))) ds fun x19 ds => pop (.slice (.int .i64)) ds fun x20 ds => pop (.slice (.slice (.int .i64))) ds fun x21 ds => pop (.slice (.int .i64)) ds fun x22 ds => popN ds (det_Explore_int_.j18 k x0 x1 x2 x3 x4 x5 x6 x7 x8 x9 x10 x11 x12 x13 x14 x15 x16 x17 x18 x19 x20 x21 x22)
def det_Explore_int_.tbl : List (Nat × Tm × (Nat → List Dat → Option (Int × Int × Bool × Int × Int × (List (List Int)) × (List Int) × Int × (List (List Int)) × (List Int)))) := [(9, det_Explore_int_.t9, det_Explore_int_.c9), (17, det_Explore_int_.t17, det_Explore_int_.c17), (36, det_Explore_int_.t36, det_Explore_int_.c36)]
noncomputable abbrev det_Explore_int_.R (k : Nat) := run T (det_Explore_int_.env k) Try.f112.ntmps (cutE 3 det_Explore_int_.tbl k) (finE 3 det_Explore_int_.to det_Explore_int_.out) (fnRes Try.f112) [18] 100000 true
theorem det_Explore_int_.e9 (k : Nat) (x0 : Int) (x1 : Int) (x2 : Int) (x3 : Int) (x4 : (List (List Int))) (x5 : (List Int)) (x6 : Int) (x7 : Int) (x8 : Int) (x9 : Int) (x10 : Int) (x11 : (List (Int × Int))) (x12 : (List Int)) (x13 : (List (List Int))) (x14 : (List Int)) (x15 : (List (List Int))) (x16 : (List Int)) : det_Explore_int_.l4 (k + 1) x0 x1 x2 x3 x4 x5 x6 x7 x8 x9 x10 x11 x12 x13 x14 x15 x16 = det_Explore_int_.R k (start (stackOf 9 det_Explore_int_.body)) (det_Explore_int_.t9.fill [⟨(.int .i64), x0⟩, ⟨(.int .i64), x1⟩, ⟨(.int .i64), x2⟩, ⟨(.int .i64), x3⟩, ⟨(.slice (.slice (.int .i64))), x4⟩, ⟨(.slice (.int .i64)), x5⟩, ⟨(.int .i64), x6⟩, ⟨(.int .i64), x7⟩, ⟨(.int .i64), x8⟩, ⟨(.int .i64), x9⟩, ⟨(.int .i64), x10⟩, ⟨(.slice (.pair (.int .i64) (.int .i64))), x11⟩, ⟨(.slice (.int .i64)), x12⟩, ⟨(.slice (.slice (.int .i64))), x13⟩, ⟨(.slice (.int .i64)), x14⟩, ⟨(.slice (.slice (.int .i64))), x15⟩, ⟨(.slice (.int .i64)), x16⟩]) := by kernel_rfl
theorem det_Explore_int_.s9 : stackAt 9 det_Explore_int_.body [] = some (stackOf 9 det_Explore_int_.body) := by kernel_rfl
theorem det_Explore_int_.h9 (k : Nat) (ds : List Dat) (r : Int × Int × Bool × Int × Int × (List (List Int)) × (List Int) × Int × (List (List Int)) × (List Int)) (h : det_Explore_int_.c9 k ds = some r) : ∃ k', k' < k ∧ ∃ s, stackAt 9 det_Explore_int_.body [] = some s ∧ det_Explore_int_.R k' (start s) (det_Explore_int_.t9.fill ds) = some r := by
  unfold det_Explore_int_.c9 at h
  obtain ⟨x0, d0, rfl, h0⟩ := pop_some h
  obtain ⟨x1, d1, rfl, h1⟩ := pop_some h0
  obtain ⟨x2, d2, rfl, h2⟩ := pop_some h1
  obtain ⟨x3, d3, rfl, h3⟩ := pop_some h2
  obtain ⟨x4, d4, rfl, h4⟩ := pop_some h3
  obtain ⟨x5, d5, rfl, h5⟩ := pop_some h4
  obtain ⟨x6, d6, rfl, h6⟩ := pop_some h5
  obtain ⟨x7, d7, rfl, h7⟩ := pop_some h6
  obtain ⟨x8, d8, rfl, h8⟩ := pop_some h7
  obtain ⟨x9, d9, rfl, h9⟩ := pop_some h8
  obtain ⟨x10, d10, rfl, h10⟩ := pop_some h9
  obtain ⟨x11, d11, rfl, h11⟩ := pop_some h10
  obtain ⟨x12, d12, rfl, h12⟩ := pop_some h11
  obtain ⟨x13, d13, rfl, h13⟩ := pop_some h12
  obtain ⟨x14, d14, rfl, h14⟩ := pop_some h13
  obtain ⟨x15, d15, rfl, h15⟩ := pop_some h14
  obtain ⟨x16, d16, rfl, h16⟩ := pop_some h15
  obtain ⟨rfl, g⟩ := popN_some h16
  cases k with
  | zero => cases (show none = some r from g)
  | succ k => exact ⟨k, Nat.lt_succ_self k, _, det_Explore_int_.s9, (det_Explore_int_.e9 k x0 x1 x2 x3 x4 x5 x6 x7 x8 x9 x10 x11 x12 x13 x14 x15 x16).symm.trans g⟩
theorem det_Explore_int_.e17 (k : Nat) (x0 : Int) (x1 : Int) (x2 : Int) (x3 : Int) (x4 : Int) (x5 : Int) (x6 : Int) (x7 : (List (List Int))) (x8 : (List Int)) (x9 : Int) (x10 : Int) (x11 : Int) (x12 : Int) (x13 : Int) (x14 : (List (Int × Int))) (x15 : (List Int)) (x16 : (List Int)) (x17 : (List (List Int))) (x18 : (List Int)) (x19 : (List (List Int))) (x20 : (List Int)) : det_Explore_int_.l8 (k + 1) x0 x1 x2 x3 x4 x5 x6 x7 x8 x9 x10 x11 x12 x13 x14 x15 x16 x17 x18 x19 x20 = det_Explore_int_.R k (start (stackOf 17 det_Explore_int_.body)) (det_Explore_int_.t17.fill [⟨(.int .i64), x0⟩, ⟨(.int .i64), x1⟩, ⟨(.int .i64), x2⟩, ⟨(.int .i64), x3⟩, ⟨(.int .i64), x4⟩, ⟨(.int .i64), x5⟩, ⟨(.int .i64), x6⟩, ⟨(.slice (.slice (.int .i64))), x7⟩, ⟨(.slice (.int .i64)), x8⟩, ⟨(.int .i64), x9⟩, ⟨(.int .i64), x10⟩, ⟨(.int .i64), x11⟩, ⟨(.int .i64), x12⟩, ⟨(.int .i64), x13⟩, ⟨(.slice (.pair (.int .i64) (.int .i64))), x14⟩, ⟨(.slice (.int .i64)), x15⟩, ⟨(.slice (.int .i64)), x16⟩, ⟨(.slice (.slice (.int .i64))), x17⟩, ⟨(.slice (.int .i64)), x18⟩, ⟨(.slice (.slice (.int .i64))), x19⟩, ⟨(.slice (.int .i64)), x20⟩]) := by kernel_rfl
theorem det_Explore_int_.s17 : stackAt 17 det_Explore_int_.body [] = some (stackOf 17 det_Explore_int_.body) := by kernel_rfl
theorem det_Explore_int_.h17 (k : Nat) (ds : List Dat) (r : Int × Int × Bool × Int × Int × (List (List Int)) × (List Int) × Int × (List (List Int)) × (List Int)) (h : det_Explore_int_.c17 k ds = some r) : ∃ k', k' < k ∧ ∃ s, stackAt 17 det_Explore_int_.body [] = some s ∧ det_Explore_int_.R k' (start s) (det_Explore_int_.t17.fill ds) = some r := by
  unfold det_Explore_int_.c17 at h
  obtain ⟨x0, d0, rfl, h0⟩ := pop_some h
  obtain ⟨x1, d1, rfl, h1⟩ := pop_some h0
  obtain ⟨x2, d2, rfl, h2⟩ := pop_some h1
  obtain ⟨x3, d3, rfl, h3⟩ := pop_some h2
  obtain ⟨x4, d4, rfl, h4⟩ := pop_some h3
  obtain ⟨x5, d5, rfl, h5⟩ := pop_some h4
  obtain ⟨x6, d6, rfl, h6⟩ := pop_some h5
  obtain ⟨x7, d7, rfl, h7⟩ := pop_some h6
  obtain ⟨x8, d8, rfl, h8⟩ := pop_some h7
  obtain ⟨x9, d9, rfl, h9⟩ := pop_some h8
  obtain ⟨x10, d10, rfl, h10⟩ := pop_some h9
  obtain ⟨x11, d11, rfl, h11⟩ := pop_some h10
  obtain ⟨x12, d12, rfl, h12⟩ := pop_some h11
  obtain ⟨x13, d13, rfl, h13⟩ := pop_some h12
  obtain ⟨x14, d14, rfl, h14⟩ := pop_some h13
  obtain ⟨x15, d15, rfl, h15⟩ := pop_some h14
  obtain ⟨x16, d16, rfl, h16⟩ := pop_some h15
  obtain ⟨x17, d17, rfl, h17⟩ := pop_some h16
  obtain ⟨x18, d18, rfl, h18⟩ := pop_some h17
  obtain ⟨x19, d19, rfl, h19⟩ := pop_some h18
  obtain ⟨x20, d20, rfl, h20⟩ := pop_some h19
  obtain ⟨rfl, g⟩ := popN_some h20
  cases k with
  | zero => cases (show none = some r from g)
  | succ k => exact ⟨k, Nat.lt_succ_self k, _, det_Explore_int_.s17, (det_Explore_int_.e17 k x0 x1 x2 x3 x4 x5 x6 x7 x8 x9 x10 x11 x12 x13 x14 x15 x16 x17 x18 x19 x20).symm.trans g⟩
theorem det_Explore_int_.e36 (k : Nat) (x0 : Int) (x1 : Int) (x2 : Int) (x3 : Int) (x4 : Int) (x5 : Int) (x6 : Int) (x7 : Int) (x8 : Int) (x9 : (List (List Int))) (x10 : (List Int)) (x11 : Int) (x12 : Int) (x13 : Int) (x14 : Int) (x15 : Int) (x16 : (List (Int × Int))) (x17 : (List Int)) (x18 : (List Int)) (x19 : (List (List Int))) (x20 : (List Int)) (x21 : (List (List Int))) (x22 : (List Int)) : det_Explore_int_.j18 (k + 1) x0 x1 x2 x3 x4 x5 x6 x7 x8 x9 x10 x11 x12 x13 x14 x15 x16 x17 x18 x19 x20 x21 x22 = det_Explore_int_.R k (start (stackOf 36 det_Explore_int_.body)) (det_Explore_int_.t36.fill [⟨(.int .i64), x0⟩, ⟨(.int .i64), x1⟩, ⟨(.int .i64), x2⟩, ⟨(.int .i64), x3⟩, ⟨(.int .i64), x4⟩, ⟨(.int .i64), x5⟩, ⟨(.int .i64), x6⟩, ⟨(.int .i64), x7⟩, ⟨(.int .i64), x8⟩, ⟨(.slice (.slice (.int .i64))), x9⟩, ⟨(.slice (.int .i64)), x10⟩, ⟨(.int .i64), x11⟩, ⟨(.int .i64), x12⟩, ⟨(.int .i64), x13⟩, ⟨(.int .i64), x14⟩, ⟨(.int .i64), x15⟩, ⟨(.slice (.pair (.int .i64) (.int .i64))), x16⟩, ⟨(.slice (.int .i64)), x17⟩, ⟨(.slice (.int .i64)), x18⟩, ⟨(.slice (.slice (.int .i64))), x19⟩, ⟨(.slice (.int .i64)), x20⟩, ⟨(.slice (.slice (.int .i64))), x21⟩, ⟨(.slice (.int .i64)), x22⟩]) := by kernel_rfl
theorem det_Explore_int_.s36 : stackAt 36 det_Explore_int_.body [] = some (stackOf 36 det_Explore_int_.body) := by kernel_rfl
theorem det_Explore_int_.h36 (k : Nat) (ds : List Dat) (r : Int × Int × Bool × Int × Int × (List (List Int)) × (List Int) × Int × (List (List Int)) × (List Int)) (h : det_Explore_int_.c36 k ds = some r) : ∃ k', k' < k ∧ ∃ s, stackAt 36 det_Explore_int_.body [] = some s ∧ det_Explore_int_.R k' (start s) (det_Explore_int_.t36.fill ds) = some r := by
  unfold det_Explore_int_.c36 at h
  obtain ⟨x0, d0, rfl, h0⟩ := pop_some h
  obtain ⟨x1, d1, rfl, h1⟩ := pop_some h0
  obtain ⟨x2, d2, rfl, h2⟩ := pop_some h1
  obtain ⟨x3, d3, rfl, h3⟩ := pop_some h2
  obtain ⟨x4, d4, rfl, h4⟩ := pop_some h3
  obtain ⟨x5, d5, rfl, h5⟩ := pop_some h4
  obtain ⟨x6, d6, rfl, h6⟩ := pop_some h5
  obtain ⟨x7, d7, rfl, h7⟩ := pop_some h6
  obtain ⟨x8, d8, rfl, h8⟩ := pop_some h7
  obtain ⟨x9, d9, rfl, h9⟩ := pop_some h8
  obtain ⟨x10, d10, rfl, h10⟩ := pop_some h9
  obtain ⟨x11, d11, rfl, h11⟩ := pop_some h10
  obtain ⟨x12, d12, rfl, h12⟩ := pop_some h11
  obtain ⟨x13, d13, rfl, h13⟩ := pop_some h12
  obtain ⟨x14, d14, rfl, h14⟩ := pop_some h13
  obtain ⟨x15, d15, rfl, h15⟩ := pop_some h14
  obtain ⟨x16, d16, rfl, h16⟩ := pop_some h15
  obtain ⟨x17, d17, rfl, h17⟩ := pop_some h16
  obtain ⟨x18, d18, rfl, h18⟩ := pop_some h17
  obtain ⟨x19, d19, rfl, h19⟩ := pop_some h18
  obtain ⟨x20, d20, rfl, h20⟩ := pop_some h19
  obtain ⟨x21, d21, rfl, h21⟩ := pop_some h20
  obtain ⟨x22, d22, rfl, h22⟩ := pop_some h21
  obtain ⟨rfl, g⟩ := popN_some h22
  cases k with
  | zero => cases (show none = some r from g)
  | succ k => exact ⟨k, Nat.lt_succ_self k, _, det_Explore_int_.s36, (det_Explore_int_.e36 k x0 x1 x2 x3 x4 x5 x6 x7 x8 x9 x10 x11 x12 x13 x14 x15 x16 x17 x18 x19 x20 x21 x22).symm.trans g⟩
theorem det_Explore_int_.e (k : Nat) (x0 : Int) (x1 : Int) (x2 : Int) (x3 : Int) (x4 : Int) (x5 : (List (List Int))) (x6 : (List Int)) (x7 : Int) : det_Explore_int_.f k x0 x1 x2 x3 x4 x5 x6 x7 = det_Explore_int_.R k ([.code det_Explore_int_.body]) (det_Explore_int_.ti.fill [⟨(.int .i64), x0⟩, ⟨(.int .i64), x1⟩, ⟨(.int .i64), x2⟩, ⟨(.int .i64), x3⟩, ⟨(.int .i64), x4⟩, ⟨(.slice (.slice (.int .i64))), x5⟩, ⟨(.slice (.int .i64)), x6⟩, ⟨(.int .i64), x7⟩]) := by kernel_rfl
theorem det_Explore_int_.h (k : Nat) (ds : List Dat) (r : Int × Int × Bool × Int × Int × (List (List Int)) × (List Int) × Int × (List (List Int)) × (List Int)) (h : det_Explore_int_.g k ds = some r) : ∃ k', k' < k ∧ det_Explore_int_.R k' ([.code det_Explore_int_.body]) (det_Explore_int_.ti.fill ds) = some r := by
  cases k with
  | zero => cases (show none = some r from h)
  | succ k =>
  replace h : det_Explore_int_.c k ds = some r := h
  unfold det_Explore_int_.c at h
  obtain ⟨x0, d0, rfl, h0⟩ := pop_some h
  obtain ⟨x1, d1, rfl, h1⟩ := pop_some h0
  obtain ⟨x2, d2, rfl, h2⟩ := pop_some h1
  obtain ⟨x3, d3, rfl, h3⟩ := pop_some h2
  obtain ⟨x4, d4, rfl, h4⟩ := pop_some h3
  obtain ⟨x5, d5, rfl, h5⟩ := pop_some h4
  obtain ⟨x6, d6, rfl, h6⟩ := pop_some h5
  obtain ⟨x7, d7, rfl, h7⟩ := pop_some h6
  obtain ⟨rfl, g⟩ := popN_some h7
  exact ⟨k, Nat.lt_succ_self k, (det_Explore_int_.e k x0 x1 x2 x3 x4 x5 x6 x7).symm.trans g⟩
theorem det_Explore_int_.o (ds : List Dat) (r : Int × Int × Bool × Int × Int × (List (List Int)) × (List Int) × Int × (List (List Int)) × (List Int)) (h : det_Explore_int_.out ds = some r) : ds = det_Explore_int_.rs r := by
  unfold det_Explore_int_.out at h
  obtain ⟨x0, d0, rfl, h0⟩ := pop_some h
  obtain ⟨x1, d1, rfl, h1⟩ := pop_some h0
  obtain ⟨x2, d2, rfl, h2⟩ := pop_some h1
  obtain ⟨x3, d3, rfl, h3⟩ := pop_some h2
  obtain ⟨x4, d4, rfl, h4⟩ := pop_some h3
  obtain ⟨x5, d5, rfl, h5⟩ := pop_some h4
  obtain ⟨x6, d6, rfl, h6⟩ := pop_some h5
  obtain ⟨x7, d7, rfl, h7⟩ := pop_some h6
  obtain ⟨x8, d8, rfl, h8⟩ := pop_some h7
  obtain ⟨x9, d9, rfl, h9⟩ := pop_some h8
  obtain ⟨rfl, g⟩ := popN_some h9
  cases g
  rfl
theorem det_Explore_int_.fn : FnOk Try.prog 112 Try.f112 det_Explore_int_.body Try.f112.ntmps 5 (fnRes Try.f112) :=
  fnOk_of (by kernel_rfl) (by kernel_rfl) (by kernel_rfl) (by kernel_rfl)
theorem det_Explore_int_.con' : ∀ k ds r, det_Explore_int_.g k ds = some r → Con Try.prog 112 5 det_Explore_int_.ti det_Explore_int_.to ds (det_Explore_int_.rs r) :=
  fun_ok (T := T) T_ok mixed det_Explore_int_.fn (env := det_Explore_int_.env) (tbl := det_Explore_int_.tbl) (gOut := det_Explore_int_.out) (nin := 3) (cuts := [18]) (fuel := 100000) rfl (by kernel_rfl) (by kernel_rfl) (by kernel_rfl) (fun x hx => by
    simp only [det_Explore_int_.tbl, List.mem_cons, List.not_mem_nil, or_false] at hx
    rcases hx with rfl | rfl | rfl
    · exact det_Explore_int_.h9
    · exact det_Explore_int_.h17
    · exact det_Explore_int_.h36
) det_Explore_int_.o det_Explore_int_.h (fun k _ => by unfold det_Explore_int_.env; exact (envC_ok (fun ds K r h => by
    obtain ⟨x0, d0, rfl, h0⟩ := pop_some h
    obtain ⟨x1, d1, rfl, h1⟩ := pop_some h0
    obtain ⟨x2, d2, rfl, h2⟩ := pop_some h1
    obtain ⟨x3, d3, rfl, h3⟩ := pop_some h2
    obtain ⟨x4, d4, rfl, h4⟩ := pop_some h3
    obtain ⟨x5, d5, rfl, h5⟩ := pop_some h4
    obtain ⟨rfl, g⟩ := popN_some h5
    obtain ⟨r1, h1, h2⟩ := bind_some g
    exact ⟨_, h2, higman_sets_1.con k _ h1⟩) (envC_ok (fun ds K r h => by
    obtain ⟨x0, d0, rfl, h0⟩ := pop_some h
    obtain ⟨x1, d1, rfl, h1⟩ := pop_some h0
    obtain ⟨rfl, g⟩ := popN_some h1
    obtain ⟨r1, h1, h2⟩ := bind_some g
    exact ⟨_, h2, higman_sets_2.con k _ h1⟩) env0_ok)))
theorem det_Explore_int_.con (k : Nat) {x0 : Int} {x1 : Int} {x2 : Int} {x3 : Int} {x4 : Int} {x5 : (List (List Int))} {x6 : (List Int)} {x7 : Int} (r : Int × Int × Bool × Int × Int × (List (List Int)) × (List Int) × Int × (List (List Int)) × (List Int)) (h : det_Explore_int_.f k x0 x1 x2 x3 x4 x5 x6 x7 = some r) : Con Try.prog 112 5 det_Explore_int_.ti det_Explore_int_.to [⟨(.int .i64), x0⟩, ⟨(.int .i64), x1⟩, ⟨(.int .i64), x2⟩, ⟨(.int .i64), x3⟩, ⟨(.int .i64), x4⟩, ⟨(.slice (.slice (.int .i64))), x5⟩, ⟨(.slice (.int .i64)), x6⟩, ⟨(.int .i64), x7⟩] (det_Explore_int_.rs r) :=
  det_Explore_int_.con' (k + 1) _ r (by show det_Explore_int_.c k _ = some r; unfold det_Explore_int_.c; simp only [pop_self, popN]; exact h)
def slices_Clone___int_int_.f (k : Nat) (x0 : List (Int)) : Option (List (Int)) := if Short x0.length then some x0 else none
def slices_Clone___int_int_.ti : Tm := cloneIn (.int .i64)
def slices_Clone___int_int_.to : Tm := cloneOut (.int .i64)
def slices_Clone___int_int_.rs (r : List Int) : List Dat := [⟨.slice (.int .i64), r⟩]
theorem slices_Clone___int_int_.fn : FnOk Try.prog 84 Try.f84 (fnBody Try.f84) Try.f84.ntmps 1 (fnRes Try.f84) :=
  fnOk_of (by kernel_rfl) (by kernel_rfl) (by kernel_rfl) (by kernel_rfl)
theorem slices_Clone___int_int_.con (k : Nat) {x0 : List Int} (r : List Int) (h : slices_Clone___int_int_.f k x0 = some r) : Con Try.prog 84 1 slices_Clone___int_int_.ti slices_Clone___int_int_.to [⟨.slice (.int .i64), x0⟩] (slices_Clone___int_int_.rs r) := by
  unfold slices_Clone___int_int_.f at h
  split at h
  · rename_i hs
    cases h
    exact clone_con (u := (.int .i64)) (t := 23) (t' := 23) (k := restOf (stackOf 2 (fnBody Try.f84))) (ops := opsAt 1 (fnBody Try.f84)) (o1 := opAt 0 (opsAt 1 (fnBody Try.f84))) (o2 := opAt 1 (opsAt 1 (fnBody Try.f84))) T_ok mixed slices_Clone___int_int_.fn (by kernel_rfl) ⟨by kernel_rfl, by kernel_rfl, by kernel_rfl, by kernel_rfl, by kernel_rfl, by kernel_rfl, by kernel_rfl, ⟨3, by kernel_rfl⟩⟩ (Nat.le_of_ble_eq_true (by kernel_rfl)) (by kernel_rfl) (by kernel_rfl) (fun L => by kernel_rfl) (by kernel_rfl) (fun L => by kernel_rfl) x0 hs
  · cases h
mutual
def det_Classes.l3 : Nat → Int → Int → Int → List (List (Int)) → List (Int) → List (Int) → Option (List Int)
 | 0, _, _, _, _, _, _ => none
 | k + 1, count4, d1_0, d1_1, d1_2, d1_3, class3 =>
  if 0 ≤ (↑class3.length : Int) then
  if (↑class3.length : Int) ≤ (↑class3.length : Int) then
   if (↑class3.length : Int) * ((↑8 : Int) + 1) ≤ 1099511627776 then
    det_Classes.l6 k count4 d1_2 ((↑d1_2.length : Int)) 0 d1_0 d1_1 d1_2 d1_3 class3 [] (List.replicate (↑class3.length : Int).toNat (Int.ofNat 0))
    else none
   else none
  else none
def det_Classes.l6 : Nat → Int → List (List (Int)) → Int → Int → Int → Int → List (List (Int)) → List (Int) → List (Int) → List (((Int × (ByteArray × Unit)) × Int)) → List (Int) → Option (List Int)
 | 0, _, _, _, _, _, _, _, _, _, _, _ => none
 | k + 1, count4, x23, x24, x25, d1_0, d1_1, d1_2, d1_3, class3, number5, next6 =>
  if x25 < x24 then
   if 0 ≤ x25 then
   if x25 < (↑x23.length : Int) then
    det_Classes.l10 k count4 x25 x23 x24 x25 (Go.Proofs.YtiiioobebeaafaaSx.rd [] x23 x25) ((↑(Go.Proofs.YtiiioobebeaafaaSx.rd [] x23 x25).length : Int)) 0 d1_0 d1_1 d1_2 d1_3 class3 number5 next6 []
    else none
   else none
  else
   if (↑number5.length : Int) = count4 then
    some (next6)
   else
    det_Classes.l3 k ((↑number5.length : Int)) d1_0 d1_1 d1_2 d1_3 next6
def det_Classes.l10 : Nat → Int → Int → List (List (Int)) → Int → Int → List (Int) → Int → Int → Int → Int → List (List (Int)) → List (Int) → List (Int) → List (((Int × (ByteArray × Unit)) × Int)) → List (Int) → List (Int) → Option (List Int)
 | 0, _, _, _, _, _, _, _, _, _, _, _, _, _, _, _, _ => none
 | k + 1, count4, q7, x23, x24, x25, x30, x31, x32, d1_0, d1_1, d1_2, d1_3, class3, number5, next6, b9 =>
  if x32 < x31 then
   if 0 ≤ x32 then
   if x32 < (↑x30.length : Int) then
    if 0 ≤ Go.Proofs.YtiiioobebeaafaaSx.rd (Int.ofNat 0) x30 x32 then
     if Go.Proofs.YtiiioobebeaafaaSx.rd (Int.ofNat 0) x30 x32 < (↑class3.length : Int) then
      if 0 ≤ Go.Proofs.YtiiioobebeaafaaSx.rd (Int.ofNat 0) x30 x32 then
       if Go.Proofs.YtiiioobebeaafaaSx.rd (Int.ofNat 0) x30 x32 < (↑class3.length : Int) then
        if 0 ≤ 8 then
         if (b9 ++ [Go.IntKind.u8.wrap (class3.getD (Go.Proofs.YtiiioobebeaafaaSx.rd (Int.ofNat 0) x30 x32).toNat (Int.ofNat 0)), Go.IntKind.u8.wrap ((class3.getD (Go.Proofs.YtiiioobebeaafaaSx.rd (Int.ofNat 0) x30 x32).toNat (Int.ofNat 0)).fdiv (2 ^ min (Int.toNat 8) Go.IntKind.i64.bits))]).length.blt 1000000000 = true then
          det_Classes.l10 k count4 q7 x23 x24 x25 x30 x31 (Go.IntKind.i64.wrap (x32 + 1)) d1_0 d1_1 d1_2 d1_3 class3 number5 next6 (b9 ++ [Go.IntKind.u8.wrap (class3.getD (Go.Proofs.YtiiioobebeaafaaSx.rd (Int.ofNat 0) x30 x32).toNat (Int.ofNat 0)), Go.IntKind.u8.wrap ((class3.getD (Go.Proofs.YtiiioobebeaafaaSx.rd (Int.ofNat 0) x30 x32).toNat (Int.ofNat 0)).fdiv (2 ^ min (Int.toNat 8) Go.IntKind.i64.bits))])
          else none
         else none
        else none
       else none
      else none
     else none
    else none
   else none
  else
   if 0 ≤ q7 then
   if q7 < (↑class3.length : Int) then
    if Go.Proofs.YtiiioobebeaafaaSx.mhas ((Go.Proofs.YtiiioobebeaafaaSx.Ty.int Go.IntKind.i64).pair (Go.Proofs.YtiiioobebeaafaaSx.Ty.str.pair Go.Proofs.YtiiioobebeaafaaSx.Ty.unit)) (Go.Proofs.YtiiioobebeaafaaSx.Ty.int Go.IntKind.i64) number5 (class3.getD q7.toNat (Int.ofNat 0), Go.Proofs.YtiiioobebeaafaaSx.strOf b9, ()) = true then
      det_Classes.j18 k count4 q7 x23 x24 x25 d1_0 d1_1 d1_2 d1_3 class3 number5 next6 (class3.getD q7.toNat (Int.ofNat 0)) (Go.Proofs.YtiiioobebeaafaaSx.strOf b9)
     else
      det_Classes.j18 k count4 q7 x23 x24 x25 d1_0 d1_1 d1_2 d1_3 class3 (Go.Proofs.YtiiioobebeaafaaSx.mput ((Go.Proofs.YtiiioobebeaafaaSx.Ty.int Go.IntKind.i64).pair (Go.Proofs.YtiiioobebeaafaaSx.Ty.str.pair Go.Proofs.YtiiioobebeaafaaSx.Ty.unit)) (Go.Proofs.YtiiioobebeaafaaSx.Ty.int Go.IntKind.i64) number5 (class3.getD q7.toNat (Int.ofNat 0), Go.Proofs.YtiiioobebeaafaaSx.strOf b9, ()) (↑number5.length : Int)) next6 (class3.getD q7.toNat (Int.ofNat 0)) (Go.Proofs.YtiiioobebeaafaaSx.strOf b9)
    else none
   else none
def det_Classes.j18 : Nat → Int → Int → List (List (Int)) → Int → Int → Int → Int → List (List (Int)) → List (Int) → List (Int) → List (((Int × (ByteArray × Unit)) × Int)) → List (Int) → Int → ByteArray → Option (List Int)
 | 0, _, _, _, _, _, _, _, _, _, _, _, _, _, _ => none
 | k + 1, count4, q7, x23, x24, x25, d1_0, d1_1, d1_2, d1_3, class3, number5, next6, k12_0, k12_1 =>
  if 0 ≤ q7 then
  if q7 < (↑next6.length : Int) then
   det_Classes.l6 k count4 x23 x24 (Go.IntKind.i64.wrap (x25 + 1)) d1_0 d1_1 d1_2 d1_3 class3 number5 (next6.set q7.toNat (Go.Proofs.YtiiioobebeaafaaSx.mget ((Go.Proofs.YtiiioobebeaafaaSx.Ty.int Go.IntKind.i64).pair (Go.Proofs.YtiiioobebeaafaaSx.Ty.str.pair Go.Proofs.YtiiioobebeaafaaSx.Ty.unit)) (Go.Proofs.YtiiioobebeaafaaSx.Ty.int Go.IntKind.i64) number5 (k12_0, k12_1, ())))
   else none
  else none
end
def det_Classes.f (k : Nat) (d0 : (Int × (Int × (List (List (Int)) × (List (Int) × Unit))))) : Option (List Int) :=
 (slices_Clone___int_int_.f k d0.snd.snd.snd.fst).bind fun r1 =>
  det_Classes.l3 k 0 d0.fst d0.snd.fst d0.snd.snd.fst d0.snd.snd.snd.fst r1

noncomputable def det_Classes.body : Code := fnBody Try.f161
def det_Classes.ti : Tm := ⟨[(0, .p (.pair (.int .i64) (.pair (.int .i64) (.pair (.slice (.slice (.int .i64))) (.pair (.slice (.int .i64)) .unit)))))], []⟩
def det_Classes.to : Tm := ⟨[(0, .own 0)], [.own (.int .i64)]⟩
def det_Classes.rs (r : (List Int)) : List Dat := [⟨(.slice (.int .i64)), r⟩]
def det_Classes.out (ds : List Dat) : Option ((List Int)) := pop (.slice (.int .i64)) ds fun x0 ds => popN ds (some (x0))
def det_Classes.c (k : Nat) (ds : List Dat) : Option ((List Int)) := pop (.pair (.int .i64) (.pair (.int .i64) (.pair (.slice (.slice (.int .i64))) (.pair (.slice (.int .i64)) .unit)))) ds fun x0 ds => popN ds (det_Classes.f k x0)
def det_Classes.g : Nat → List Dat → Option ((List Int))
 | 0, _ => none
 | k + 1, ds => det_Classes.c k ds
def det_Classes.env (k : Nat) : Nat → List SV → List Chunk → KT ((List Int)) → Option ((List Int)) := (envC 84 1 slices_Clone___int_int_.ti slices_Clone___int_int_.to (fun ds K => pop (.slice (.int .i64)) ds fun x0 ds => popN ds ((slices_Clone___int_int_.f k x0).bind fun r => K (slices_Clone___int_int_.rs r))) env0)
def det_Classes.t7 : Tm := ⟨[(1, .ptr 0 0), (3, .own 1), (4, .p (.int .i64))], [.box [.p (.int .i64), .p (.int .i64), .p (.slice (.slice (.int .i64))), .p (.slice (.int .i64))] 58, .own (.int .i64)]⟩
def det_Classes.c7 (k : Nat) (ds : List Dat) : Option ((List Int)) := pop (.int .i64) ds fun x0 ds => pop (.int .i64) ds fun x1 ds => pop (.int .i64) ds fun x2 ds => pop (.slice (.slice (.int .i64))) ds fun x3 ds => pop (.slice (.int .i64)) ds fun x4 ds => pop (.slice (.int .i64)) ds fun x5 ds => popN ds (det_Classes.l3 k x0 x1 x2 x3 x4 x5)
def det_Classes.t13 : Tm := ⟨[(1, .ptr 0 0), (3, .own 1), (4, .p (.int .i64)), (5, .map 2), (6, .own 3), (23, .p (.slice (.slice (.int .i64)))), (24, .p (.int .i64)), (25, .p (.int .i64))], [.box [.p (.int .i64), .p (.int .i64), .p (.slice (.slice (.int .i64))), .p (.slice (.int .i64))] 58, .own (.int .i64), .map (.pair (.int .i64) (.pair .str .unit)) (.int .i64), .own (.int .i64)]⟩
def det_Classes.c13 (k : Nat) (ds : List Dat) : Option ((List Int)) := pop (.int .i64) ds fun x0 ds => pop (.slice (.slice (.int .i64))) ds fun x1 ds => pop (.int .i64) ds fun x2 ds => pop (.int .i64) ds fun x3 ds => pop (.int .i64) ds fun x4 ds => pop (.int .i64) ds fun x5 ds => pop (.slice (.slice (.int .i64))) ds fun x6 ds => pop (.slice (.int .i64)) ds fun x7 ds => pop (.slice (.int .i64)) ds fun x8 ds => pop (.slice (.pair (.pair (.int .i64) (.pair .str .unit)) (.int .i64))) ds fun x9 ds => pop (.slice (.int .i64)) ds fun x10 ds => popN ds (det_Classes.l6 k x0 x1 x2 x3 x4 x5 x6 x7 x8 x9 x10)
def det_Classes.t21 : Tm := ⟨[(1, .ptr 0 0), (3, .own 1), (4, .p (.int .i64)), (5, .map 2), (6, .own 3), (7, .p (.int .i64)), (9, .own 4), (23, .p (.slice (.slice (.int .i64)))), (24, .p (.int .i64)), (25, .p (.int .i64)), (30, .p (.slice (.int .i64))), (31, .p (.int .i64)), (32, .p (.int .i64))], [.box [.p (.int .i64), .p (.int .i64), .p (.slice (.slice (.int .i64))), .p (.slice (.int .i64))] 58, .own (.int .i64), .map (.pair (.int .i64) (.pair .str .unit)) (.int .i64), .own (.int .i64), .own (.int .u8)]⟩
def det_Classes.c21 (k : Nat) (ds : List Dat) : Option ((List Int)) := pop (.int .i64) ds fun x0 ds => pop (.int .i64) ds fun x1 ds => pop (.slice (.slice (.int .i64))) ds fun x2 ds => pop (.int .i64) ds fun x3 ds => pop (.int .i64) ds fun x4 ds => pop (.slice (.int .i64)) ds fun x5 ds => pop (.int .i64) ds fun x6 ds => pop (.int .i64) ds fun x7 ds => pop (.int .i64) ds fun x8 ds => pop (.int .i64) ds fun x9 ds => pop (.slice (.slice (.int .i64))) ds fun x10 ds => pop (.slice (.int .i64)) ds fun x11 ds => pop (.slice (.int .i64)) ds fun x12 ds => pop (.slice (.pair (.pair (.int .i64) (.pair .str .unit)) (.int .i64))) ds fun x13 ds => pop (.slice (.int .i64)) ds fun x14 ds => pop (.slice (.int .u8)) ds fun x15 ds => popN ds (det_Classes.l10 k x0 x1 x2 x3 x4 x5 x6 x7 x8 x9 x10 x11 x12 x13 x14 x15)
def det_Classes.t36 : Tm := ⟨[(1, .ptr 0 0), (3, .own 1), (4, .p (.int .i64)), (5, .map 2), (6, .own 3), (7, .p (.int .i64)), (12, .ptr 4 0), (23, .p (.slice (.slice (.int .i64)))), (24, .p (.int .i64)), (25, .p (.int .i64))], [.box [.p (.int .i64), .p (.int .i64), .p (.slice (.slice (.int .i64))), .p (.slice (.int .i64))] 58, .own (.int .i64), .map (.pair (.int .i64) (.pair .str .unit)) (.int .i64), .own (.int .i64), .box [.p (.int .i64), .p .str] 202]⟩
def det_Classes.c36 (k : Nat) (ds : List Dat) : Option ((List Int)) := pop (.int .i64) ds fun x0 ds => pop (.int .i64) ds fun x1 ds => pop (.slice (.slice (.int .i64))) ds fun x2 ds => pop (.int .i64) ds fun x3 ds => pop (.int .i64) ds fun x4 ds => pop (.int .i64) ds fun x5 ds => pop (.int .i64) ds fun x6 ds => pop (.slice (.slice (.int .i64))) ds fun x7 ds => pop (.slice (.int .i64)) ds fun x8 ds => pop (.slice (.int .i64)) ds fun x9 ds => pop (.slice (.pair (.pair (.int .i64) (.pair .str .unit)) (.int .i64))) ds fun x10 ds => pop (.slice (.int .i64)) ds fun x11 ds => pop (.int .i64) ds fun x12 ds => pop .str ds fun x13 ds => popN ds (det_Classes.j18 k x0 x1 x2 x3 x4 x5 x6 x7 x8 x9 x10 x11 x12 x13)
def det_Classes.tbl : List (Nat × Tm × (Nat → List Dat → Option ((List Int)))) := [(7, det_Classes.t7, det_Classes.c7), (13, det_Classes.t13, det_Classes.c13), (21, det_Classes.t21, det_Classes.c21), (36, det_Classes.t36, det_Classes.c36)]
noncomputable abbrev det_Classes.R (k : Nat) := run T (det_Classes.env k) Try.f161.ntmps (cutE 0 det_Classes.tbl k) (finE 0 det_Classes.to det_Classes.out) (fnRes Try.f161) [18] 100000 true
theorem det_Classes.e7 (k : Nat) (x0 : Int) (x1 : Int) (x2 : Int) (x3 : (List (List Int))) (x4 : (List Int)) (x5 : (List Int)) : det_Classes.l3 (k + 1) x0 x1 x2 x3 x4 x5 = det_Classes.R k (start (stackOf 7 det_Classes.body)) (det_Classes.t7.fill [⟨(.int .i64), x0⟩, ⟨(.int .i64), x1⟩, ⟨(.int .i64), x2⟩, ⟨(.slice (.slice (.int .i64))), x3⟩, ⟨(.slice (.int .i64)), x4⟩, ⟨(.slice (.int .i64)), x5⟩]) := by kernel_rfl
theorem det_Classes.s7 : stackAt 7 det_Classes.body [] = some (stackOf 7 det_Classes.body) := by kernel_rfl
theorem det_Classes.h7 (k : Nat) (ds : List Dat) (r : (List Int)) (h : det_Classes.c7 k ds = some r) : ∃ k', k' < k ∧ ∃ s, stackAt 7 det_Classes.body [] = some s ∧ det_Classes.R k' (start s) (det_Classes.t7.fill ds) = some r := by
  unfold det_Classes.c7 at h
  obtain ⟨x0, d0, rfl, h0⟩ := pop_some h
  obtain ⟨x1, d1, rfl, h1⟩ := pop_some h0
  obtain ⟨x2, d2, rfl, h2⟩ := pop_some h1
  obtain ⟨x3, d3, rfl, h3⟩ := pop_some h2
  obtain ⟨x4, d4, rfl, h4⟩ := pop_some h3
  obtain ⟨x5, d5, rfl, h5⟩ := pop_some h4
  obtain ⟨rfl, g⟩ := popN_some h5
  cases k with
  | zero => cases (show none = some r from g)
  | succ k => exact ⟨k, Nat.lt_succ_self k, _, det_Classes.s7, (det_Classes.e7 k x0 x1 x2 x3 x4 x5).symm.trans g⟩
theorem det_Classes.e13 (k : Nat) (x0 : Int) (x1 : (List (List Int))) (x2 : Int) (x3 : Int) (x4 : Int) (x5 : Int) (x6 : (List (List Int))) (x7 : (List Int)) (x8 : (List Int)) (x9 : (List ((Int × (ByteArray × Unit)) × Int))) (x10 : (List Int)) : det_Classes.l6 (k + 1) x0 x1 x2 x3 x4 x5 x6 x7 x8 x9 x10 = det_Classes.R k (start (stackOf 13 det_Classes.body)) (det_Classes.t13.fill [⟨(.int .i64), x0⟩, ⟨(.slice (.slice (.int .i64))), x1⟩, ⟨(.int .i64), x2⟩, ⟨(.int .i64), x3⟩, ⟨(.int .i64), x4⟩, ⟨(.int .i64), x5⟩, ⟨(.slice (.slice (.int .i64))), x6⟩, ⟨(.slice (.int .i64)), x7⟩, ⟨(.slice (.int .i64)), x8⟩, ⟨(.slice (.pair (.pair (.int .i64) (.pair .str .unit)) (.int .i64))), x9⟩, ⟨(.slice (.int .i64)), x10⟩]) := by kernel_rfl
theorem det_Classes.s13 : stackAt 13 det_Classes.body [] = some (stackOf 13 det_Classes.body) := by kernel_rfl
theorem det_Classes.h13 (k : Nat) (ds : List Dat) (r : (List Int)) (h : det_Classes.c13 k ds = some r) : ∃ k', k' < k ∧ ∃ s, stackAt 13 det_Classes.body [] = some s ∧ det_Classes.R k' (start s) (det_Classes.t13.fill ds) = some r := by
  unfold det_Classes.c13 at h
  obtain ⟨x0, d0, rfl, h0⟩ := pop_some h
  obtain ⟨x1, d1, rfl, h1⟩ := pop_some h0
  obtain ⟨x2, d2, rfl, h2⟩ := pop_some h1
  obtain ⟨x3, d3, rfl, h3⟩ := pop_some h2
  obtain ⟨x4, d4, rfl, h4⟩ := pop_some h3
  obtain ⟨x5, d5, rfl, h5⟩ := pop_some h4
  obtain ⟨x6, d6, rfl, h6⟩ := pop_some h5
  obtain ⟨x7, d7, rfl, h7⟩ := pop_some h6
  obtain ⟨x8, d8, rfl, h8⟩ := pop_some h7
  obtain ⟨x9, d9, rfl, h9⟩ := pop_some h8
  obtain ⟨x10, d10, rfl, h10⟩ := pop_some h9
  obtain ⟨rfl, g⟩ := popN_some h10
  cases k with
  | zero => cases (show none = some r from g)
  | succ k => exact ⟨k, Nat.lt_succ_self k, _, det_Classes.s13, (det_Classes.e13 k x0 x1 x2 x3 x4 x5 x6 x7 x8 x9 x10).symm.trans g⟩
theorem det_Classes.e21 (k : Nat) (x0 : Int) (x1 : Int) (x2 : (List (List Int))) (x3 : Int) (x4 : Int) (x5 : (List Int)) (x6 : Int) (x7 : Int) (x8 : Int) (x9 : Int) (x10 : (List (List Int))) (x11 : (List Int)) (x12 : (List Int)) (x13 : (List ((Int × (ByteArray × Unit)) × Int))) (x14 : (List Int)) (x15 : (List Int)) : det_Classes.l10 (k + 1) x0 x1 x2 x3 x4 x5 x6 x7 x8 x9 x10 x11 x12 x13 x14 x15 = det_Classes.R k (start (stackOf 21 det_Classes.body)) (det_Classes.t21.fill [⟨(.int .i64), x0⟩, ⟨(.int .i64), x1⟩, ⟨(.slice (.slice (.int .i64))), x2⟩, ⟨(.int .i64), x3⟩, ⟨(.int .i64), x4⟩, ⟨(.slice (.int .i64)), x5⟩, ⟨(.int .i64), x6⟩, ⟨(.int .i64), x7⟩, ⟨(.int .i64), x8⟩, ⟨(.int .i64), x9⟩, ⟨(.slice (.slice (.int .i64))), x10⟩, ⟨(.slice (.int .i64)), x11⟩, ⟨(.slice (.int .i64)), x12⟩, ⟨(.slice (.pair (.pair (.int .i64) (.pair .str .unit)) (.int .i64))), x13⟩, ⟨(.slice (.int .i64)), x14⟩, ⟨(.slice (.int .u8)), x15⟩]) := by kernel_rfl
theorem det_Classes.s21 : stackAt 21 det_Classes.body [] = some (stackOf 21 det_Classes.body) := by kernel_rfl
theorem det_Classes.h21 (k : Nat) (ds : List Dat) (r : (List Int)) (h : det_Classes.c21 k ds = some r) : ∃ k', k' < k ∧ ∃ s, stackAt 21 det_Classes.body [] = some s ∧ det_Classes.R k' (start s) (det_Classes.t21.fill ds) = some r := by
  unfold det_Classes.c21 at h
  obtain ⟨x0, d0, rfl, h0⟩ := pop_some h
  obtain ⟨x1, d1, rfl, h1⟩ := pop_some h0
  obtain ⟨x2, d2, rfl, h2⟩ := pop_some h1
  obtain ⟨x3, d3, rfl, h3⟩ := pop_some h2
  obtain ⟨x4, d4, rfl, h4⟩ := pop_some h3
  obtain ⟨x5, d5, rfl, h5⟩ := pop_some h4
  obtain ⟨x6, d6, rfl, h6⟩ := pop_some h5
  obtain ⟨x7, d7, rfl, h7⟩ := pop_some h6
  obtain ⟨x8, d8, rfl, h8⟩ := pop_some h7
  obtain ⟨x9, d9, rfl, h9⟩ := pop_some h8
  obtain ⟨x10, d10, rfl, h10⟩ := pop_some h9
  obtain ⟨x11, d11, rfl, h11⟩ := pop_some h10
  obtain ⟨x12, d12, rfl, h12⟩ := pop_some h11
  obtain ⟨x13, d13, rfl, h13⟩ := pop_some h12
  obtain ⟨x14, d14, rfl, h14⟩ := pop_some h13
  obtain ⟨x15, d15, rfl, h15⟩ := pop_some h14
  obtain ⟨rfl, g⟩ := popN_some h15
  cases k with
  | zero => cases (show none = some r from g)
  | succ k => exact ⟨k, Nat.lt_succ_self k, _, det_Classes.s21, (det_Classes.e21 k x0 x1 x2 x3 x4 x5 x6 x7 x8 x9 x10 x11 x12 x13 x14 x15).symm.trans g⟩
theorem det_Classes.e36 (k : Nat) (x0 : Int) (x1 : Int) (x2 : (List (List Int))) (x3 : Int) (x4 : Int) (x5 : Int) (x6 : Int) (x7 : (List (List Int))) (x8 : (List Int)) (x9 : (List Int)) (x10 : (List ((Int × (ByteArray × Unit)) × Int))) (x11 : (List Int)) (x12 : Int) (x13 : ByteArray) : det_Classes.j18 (k + 1) x0 x1 x2 x3 x4 x5 x6 x7 x8 x9 x10 x11 x12 x13 = det_Classes.R k (start (stackOf 36 det_Classes.body)) (det_Classes.t36.fill [⟨(.int .i64), x0⟩, ⟨(.int .i64), x1⟩, ⟨(.slice (.slice (.int .i64))), x2⟩, ⟨(.int .i64), x3⟩, ⟨(.int .i64), x4⟩, ⟨(.int .i64), x5⟩, ⟨(.int .i64), x6⟩, ⟨(.slice (.slice (.int .i64))), x7⟩, ⟨(.slice (.int .i64)), x8⟩, ⟨(.slice (.int .i64)), x9⟩, ⟨(.slice (.pair (.pair (.int .i64) (.pair .str .unit)) (.int .i64))), x10⟩, ⟨(.slice (.int .i64)), x11⟩, ⟨(.int .i64), x12⟩, ⟨.str, x13⟩]) := by kernel_rfl
theorem det_Classes.s36 : stackAt 36 det_Classes.body [] = some (stackOf 36 det_Classes.body) := by kernel_rfl
theorem det_Classes.h36 (k : Nat) (ds : List Dat) (r : (List Int)) (h : det_Classes.c36 k ds = some r) : ∃ k', k' < k ∧ ∃ s, stackAt 36 det_Classes.body [] = some s ∧ det_Classes.R k' (start s) (det_Classes.t36.fill ds) = some r := by
  unfold det_Classes.c36 at h
  obtain ⟨x0, d0, rfl, h0⟩ := pop_some h
  obtain ⟨x1, d1, rfl, h1⟩ := pop_some h0
  obtain ⟨x2, d2, rfl, h2⟩ := pop_some h1
  obtain ⟨x3, d3, rfl, h3⟩ := pop_some h2
  obtain ⟨x4, d4, rfl, h4⟩ := pop_some h3
  obtain ⟨x5, d5, rfl, h5⟩ := pop_some h4
  obtain ⟨x6, d6, rfl, h6⟩ := pop_some h5
  obtain ⟨x7, d7, rfl, h7⟩ := pop_some h6
  obtain ⟨x8, d8, rfl, h8⟩ := pop_some h7
  obtain ⟨x9, d9, rfl, h9⟩ := pop_some h8
  obtain ⟨x10, d10, rfl, h10⟩ := pop_some h9
  obtain ⟨x11, d11, rfl, h11⟩ := pop_some h10
  obtain ⟨x12, d12, rfl, h12⟩ := pop_some h11
  obtain ⟨x13, d13, rfl, h13⟩ := pop_some h12
  obtain ⟨rfl, g⟩ := popN_some h13
  cases k with
  | zero => cases (show none = some r from g)
  | succ k => exact ⟨k, Nat.lt_succ_self k, _, det_Classes.s36, (det_Classes.e36 k x0 x1 x2 x3 x4 x5 x6 x7 x8 x9 x10 x11 x12 x13).symm.trans g⟩
theorem det_Classes.e (k : Nat) (x0 : (Int × (Int × ((List (List Int)) × ((List Int) × Unit))))) : det_Classes.f k x0 = det_Classes.R k ([.code det_Classes.body]) (det_Classes.ti.fill [⟨(.pair (.int .i64) (.pair (.int .i64) (.pair (.slice (.slice (.int .i64))) (.pair (.slice (.int .i64)) .unit)))), x0⟩]) := by kernel_rfl
theorem det_Classes.h (k : Nat) (ds : List Dat) (r : (List Int)) (h : det_Classes.g k ds = some r) : ∃ k', k' < k ∧ det_Classes.R k' ([.code det_Classes.body]) (det_Classes.ti.fill ds) = some r := by
  cases k with
  | zero => cases (show none = some r from h)
  | succ k =>
  replace h : det_Classes.c k ds = some r := h
  unfold det_Classes.c at h
  obtain ⟨x0, d0, rfl, h0⟩ := pop_some h
  obtain ⟨rfl, g⟩ := popN_some h0
  exact ⟨k, Nat.lt_succ_self k, (det_Classes.e k x0).symm.trans g⟩
theorem det_Classes.o (ds : List Dat) (r : (List Int)) (h : det_Classes.out ds = some r) : ds = det_Classes.rs r := by
  unfold det_Classes.out at h
  obtain ⟨x0, d0, rfl, h0⟩ := pop_some h
  obtain ⟨rfl, g⟩ := popN_some h0
  cases g
  rfl
theorem det_Classes.fn : FnOk Try.prog 161 Try.f161 det_Classes.body Try.f161.ntmps 1 (fnRes Try.f161) :=
  fnOk_of (by kernel_rfl) (by kernel_rfl) (by kernel_rfl) (by kernel_rfl)
theorem det_Classes.con' : ∀ k ds r, det_Classes.g k ds = some r → Con Try.prog 161 1 det_Classes.ti det_Classes.to ds (det_Classes.rs r) :=
  fun_ok (T := T) T_ok mixed det_Classes.fn (env := det_Classes.env) (tbl := det_Classes.tbl) (gOut := det_Classes.out) (nin := 0) (cuts := [18]) (fuel := 100000) rfl (by kernel_rfl) (by kernel_rfl) (by kernel_rfl) (fun x hx => by
    simp only [det_Classes.tbl, List.mem_cons, List.not_mem_nil, or_false] at hx
    rcases hx with rfl | rfl | rfl | rfl
    · exact det_Classes.h7
    · exact det_Classes.h13
    · exact det_Classes.h21
    · exact det_Classes.h36
) det_Classes.o det_Classes.h (fun k _ => by unfold det_Classes.env; exact (envC_ok (fun ds K r h => by
    obtain ⟨x0, d0, rfl, h0⟩ := pop_some h
    obtain ⟨rfl, g⟩ := popN_some h0
    obtain ⟨r1, h1, h2⟩ := bind_some g
    exact ⟨_, h2, slices_Clone___int_int_.con k _ h1⟩) env0_ok))
theorem det_Classes.con (k : Nat) {x0 : (Int × (Int × ((List (List Int)) × ((List Int) × Unit))))} (r : (List Int)) (h : det_Classes.f k x0 = some r) : Con Try.prog 161 1 det_Classes.ti det_Classes.to [⟨(.pair (.int .i64) (.pair (.int .i64) (.pair (.slice (.slice (.int .i64))) (.pair (.slice (.int .i64)) .unit)))), x0⟩] (det_Classes.rs r) :=
  det_Classes.con' (k + 1) _ r (by show det_Classes.c k _ = some r; unfold det_Classes.c; simp only [pop_self, popN]; exact h)
def det_Smallest_1.f (k : Nat) (c0 : Int) (a1 : Int) (x3_0 : Int) (x3_1 : Int) (x3_2 : List (List (Int))) (x3_3 : List (Int)) (c3 : List (Int)) (c4 : List (Int)) : Option (Int × Int × Int × List (List Int) × List Int × List Int × List Int) :=
 if 0 ≤ c0 then
 if c0 < (↑c4.length : Int) then
  if 0 ≤ c4.getD c0.toNat (Int.ofNat 0) then
   if c4.getD c0.toNat (Int.ofNat 0) < (↑x3_2.length : Int) then
    if 0 ≤ a1 then
     if a1 < (↑(Go.Proofs.YtiiioobebeaafaaSx.rd [] x3_2 (c4.getD c0.toNat (Int.ofNat 0))).length : Int) then
      if 0 ≤ Go.Proofs.YtiiioobebeaafaaSx.rd (Int.ofNat 0) (Go.Proofs.YtiiioobebeaafaaSx.rd [] x3_2 (c4.getD c0.toNat (Int.ofNat 0))) a1 then
       if Go.Proofs.YtiiioobebeaafaaSx.rd (Int.ofNat 0) (Go.Proofs.YtiiioobebeaafaaSx.rd [] x3_2 (c4.getD c0.toNat (Int.ofNat 0))) a1 < (↑c3.length : Int) then
        some (c3.getD (Go.Proofs.YtiiioobebeaafaaSx.rd (Int.ofNat 0) (Go.Proofs.YtiiioobebeaafaaSx.rd [] x3_2 (c4.getD c0.toNat (Int.ofNat 0))) a1).toNat (Int.ofNat 0), x3_0, x3_1, x3_2, x3_3, c3, c4)
        else none
       else none
      else none
     else none
    else none
   else none
  else none
 else none

noncomputable def det_Smallest_1.body : Code := fnBody Try.f162
def det_Smallest_1.ti : Tm := ⟨[(0, .p (.int .i64)), (1, .p (.int .i64)), (2, .ptr 0 0), (3, .ptr 1 0), (4, .ptr 2 0)], [.box [.own 3] 23, .box [.p (.int .i64), .p (.int .i64), .p (.slice (.slice (.int .i64))), .p (.slice (.int .i64))] 58, .box [.own 4] 23, .own (.int .i64), .own (.int .i64)]⟩
def det_Smallest_1.to : Tm := ⟨[(0, .p (.int .i64))], [.box [.own 3] 23, .box [.p (.int .i64), .p (.int .i64), .p (.slice (.slice (.int .i64))), .p (.slice (.int .i64))] 58, .box [.own 4] 23, .own (.int .i64), .own (.int .i64)]⟩
def det_Smallest_1.rs (r : Int × Int × Int × (List (List Int)) × (List Int) × (List Int) × (List Int)) : List Dat := [⟨(.int .i64), r.1⟩, ⟨(.int .i64), r.2.1⟩, ⟨(.int .i64), r.2.2.1⟩, ⟨(.slice (.slice (.int .i64))), r.2.2.2.1⟩, ⟨(.slice (.int .i64)), r.2.2.2.2.1⟩, ⟨(.slice (.int .i64)), r.2.2.2.2.2.1⟩, ⟨(.slice (.int .i64)), r.2.2.2.2.2.2⟩]
def det_Smallest_1.out (ds : List Dat) : Option (Int × Int × Int × (List (List Int)) × (List Int) × (List Int) × (List Int)) := pop (.int .i64) ds fun x0 ds => pop (.int .i64) ds fun x1 ds => pop (.int .i64) ds fun x2 ds => pop (.slice (.slice (.int .i64))) ds fun x3 ds => pop (.slice (.int .i64)) ds fun x4 ds => pop (.slice (.int .i64)) ds fun x5 ds => pop (.slice (.int .i64)) ds fun x6 ds => popN ds (some (x0, x1, x2, x3, x4, x5, x6))
def det_Smallest_1.c (k : Nat) (ds : List Dat) : Option (Int × Int × Int × (List (List Int)) × (List Int) × (List Int) × (List Int)) := pop (.int .i64) ds fun x0 ds => pop (.int .i64) ds fun x1 ds => pop (.int .i64) ds fun x2 ds => pop (.int .i64) ds fun x3 ds => pop (.slice (.slice (.int .i64))) ds fun x4 ds => pop (.slice (.int .i64)) ds fun x5 ds => pop (.slice (.int .i64)) ds fun x6 ds => pop (.slice (.int .i64)) ds fun x7 ds => popN ds (det_Smallest_1.f k x0 x1 x2 x3 x4 x5 x6 x7)
def det_Smallest_1.g : Nat → List Dat → Option (Int × Int × Int × (List (List Int)) × (List Int) × (List Int) × (List Int))
 | 0, _ => none
 | k + 1, ds => det_Smallest_1.c k ds
def det_Smallest_1.env (k : Nat) : Nat → List SV → List Chunk → KT (Int × Int × Int × (List (List Int)) × (List Int) × (List Int) × (List Int)) → Option (Int × Int × Int × (List (List Int)) × (List Int) × (List Int) × (List Int)) := env0
def det_Smallest_1.tbl : List (Nat × Tm × (Nat → List Dat → Option (Int × Int × Int × (List (List Int)) × (List Int) × (List Int) × (List Int)))) := []
noncomputable abbrev det_Smallest_1.R (k : Nat) := run T (det_Smallest_1.env k) Try.f162.ntmps (cutE 5 det_Smallest_1.tbl k) (finE 5 det_Smallest_1.to det_Smallest_1.out) (fnRes Try.f162) [] 100000 true
theorem det_Smallest_1.e (k : Nat) (x0 : Int) (x1 : Int) (x2 : Int) (x3 : Int) (x4 : (List (List Int))) (x5 : (List Int)) (x6 : (List Int)) (x7 : (List Int)) : det_Smallest_1.f k x0 x1 x2 x3 x4 x5 x6 x7 = det_Smallest_1.R k ([.code det_Smallest_1.body]) (det_Smallest_1.ti.fill [⟨(.int .i64), x0⟩, ⟨(.int .i64), x1⟩, ⟨(.int .i64), x2⟩, ⟨(.int .i64), x3⟩, ⟨(.slice (.slice (.int .i64))), x4⟩, ⟨(.slice (.int .i64)), x5⟩, ⟨(.slice (.int .i64)), x6⟩, ⟨(.slice (.int .i64)), x7⟩]) := by kernel_rfl
theorem det_Smallest_1.h (k : Nat) (ds : List Dat) (r : Int × Int × Int × (List (List Int)) × (List Int) × (List Int) × (List Int)) (h : det_Smallest_1.g k ds = some r) : ∃ k', k' < k ∧ det_Smallest_1.R k' ([.code det_Smallest_1.body]) (det_Smallest_1.ti.fill ds) = some r := by
  cases k with
  | zero => cases (show none = some r from h)
  | succ k =>
  replace h : det_Smallest_1.c k ds = some r := h
  unfold det_Smallest_1.c at h
  obtain ⟨x0, d0, rfl, h0⟩ := pop_some h
  obtain ⟨x1, d1, rfl, h1⟩ := pop_some h0
  obtain ⟨x2, d2, rfl, h2⟩ := pop_some h1
  obtain ⟨x3, d3, rfl, h3⟩ := pop_some h2
  obtain ⟨x4, d4, rfl, h4⟩ := pop_some h3
  obtain ⟨x5, d5, rfl, h5⟩ := pop_some h4
  obtain ⟨x6, d6, rfl, h6⟩ := pop_some h5
  obtain ⟨x7, d7, rfl, h7⟩ := pop_some h6
  obtain ⟨rfl, g⟩ := popN_some h7
  exact ⟨k, Nat.lt_succ_self k, (det_Smallest_1.e k x0 x1 x2 x3 x4 x5 x6 x7).symm.trans g⟩
theorem det_Smallest_1.o (ds : List Dat) (r : Int × Int × Int × (List (List Int)) × (List Int) × (List Int) × (List Int)) (h : det_Smallest_1.out ds = some r) : ds = det_Smallest_1.rs r := by
  unfold det_Smallest_1.out at h
  obtain ⟨x0, d0, rfl, h0⟩ := pop_some h
  obtain ⟨x1, d1, rfl, h1⟩ := pop_some h0
  obtain ⟨x2, d2, rfl, h2⟩ := pop_some h1
  obtain ⟨x3, d3, rfl, h3⟩ := pop_some h2
  obtain ⟨x4, d4, rfl, h4⟩ := pop_some h3
  obtain ⟨x5, d5, rfl, h5⟩ := pop_some h4
  obtain ⟨x6, d6, rfl, h6⟩ := pop_some h5
  obtain ⟨rfl, g⟩ := popN_some h6
  cases g
  rfl
theorem det_Smallest_1.fn : FnOk Try.prog 162 Try.f162 det_Smallest_1.body Try.f162.ntmps 5 (fnRes Try.f162) :=
  fnOk_of (by kernel_rfl) (by kernel_rfl) (by kernel_rfl) (by kernel_rfl)
theorem det_Smallest_1.con' : ∀ k ds r, det_Smallest_1.g k ds = some r → Con Try.prog 162 5 det_Smallest_1.ti det_Smallest_1.to ds (det_Smallest_1.rs r) :=
  fun_ok (T := T) T_ok mixed det_Smallest_1.fn (env := det_Smallest_1.env) (tbl := det_Smallest_1.tbl) (gOut := det_Smallest_1.out) (nin := 5) (cuts := []) (fuel := 100000) rfl (by kernel_rfl) (by kernel_rfl) (by kernel_rfl) (fun x hx => by simp [det_Smallest_1.tbl] at hx) det_Smallest_1.o det_Smallest_1.h (fun k _ => by unfold det_Smallest_1.env; exact env0_ok)
theorem det_Smallest_1.con (k : Nat) {x0 : Int} {x1 : Int} {x2 : Int} {x3 : Int} {x4 : (List (List Int))} {x5 : (List Int)} {x6 : (List Int)} {x7 : (List Int)} (r : Int × Int × Int × (List (List Int)) × (List Int) × (List Int) × (List Int)) (h : det_Smallest_1.f k x0 x1 x2 x3 x4 x5 x6 x7 = some r) : Con Try.prog 162 5 det_Smallest_1.ti det_Smallest_1.to [⟨(.int .i64), x0⟩, ⟨(.int .i64), x1⟩, ⟨(.int .i64), x2⟩, ⟨(.int .i64), x3⟩, ⟨(.slice (.slice (.int .i64))), x4⟩, ⟨(.slice (.int .i64)), x5⟩, ⟨(.slice (.int .i64)), x6⟩, ⟨(.slice (.int .i64)), x7⟩] (det_Smallest_1.rs r) :=
  det_Smallest_1.con' (k + 1) _ r (by show det_Smallest_1.c k _ = some r; unfold det_Smallest_1.c; simp only [pop_self, popN]; exact h)
def det_Smallest_2.f (k : Nat) (c0 : Int) (x1_0 : Int) (x1_1 : Int) (x1_2 : List (List (Int))) (x1_3 : List (Int)) (c2 : List (Int)) : Option (Int × Int × Int × List (List Int) × List Int × List Int) :=
 if 0 ≤ c0 then
 if c0 < (↑c2.length : Int) then
  if 0 ≤ c2.getD c0.toNat (Int.ofNat 0) then
   if c2.getD c0.toNat (Int.ofNat 0) < (↑x1_3.length : Int) then
    some (Go.Proofs.YtiiioobebeaafaaSx.rd (Int.ofNat 0) x1_3 (c2.getD c0.toNat (Int.ofNat 0)), x1_0, x1_1, x1_2, x1_3, c2)
    else none
   else none
  else none
 else none

noncomputable def det_Smallest_2.body : Code := fnBody Try.f163
def det_Smallest_2.ti : Tm := ⟨[(0, .p (.int .i64)), (1, .ptr 0 0), (2, .ptr 1 0)], [.box [.p (.int .i64), .p (.int .i64), .p (.slice (.slice (.int .i64))), .p (.slice (.int .i64))] 58, .box [.own 2] 23, .own (.int .i64)]⟩
def det_Smallest_2.to : Tm := ⟨[(0, .p (.int .i64))], [.box [.p (.int .i64), .p (.int .i64), .p (.slice (.slice (.int .i64))), .p (.slice (.int .i64))] 58, .box [.own 2] 23, .own (.int .i64)]⟩
def det_Smallest_2.rs (r : Int × Int × Int × (List (List Int)) × (List Int) × (List Int)) : List Dat := [⟨(.int .i64), r.1⟩, ⟨(.int .i64), r.2.1⟩, ⟨(.int .i64), r.2.2.1⟩, ⟨(.slice (.slice (.int .i64))), r.2.2.2.1⟩, ⟨(.slice (.int .i64)), r.2.2.2.2.1⟩, ⟨(.slice (.int .i64)), r.2.2.2.2.2⟩]
def det_Smallest_2.out (ds : List Dat) : Option (Int × Int × Int × (List (List Int)) × (List Int) × (List Int)) := pop (.int .i64) ds fun x0 ds => pop (.int .i64) ds fun x1 ds => pop (.int .i64) ds fun x2 ds => pop (.slice (.slice (.int .i64))) ds fun x3 ds => pop (.slice (.int .i64)) ds fun x4 ds => pop (.slice (.int .i64)) ds fun x5 ds => popN ds (some (x0, x1, x2, x3, x4, x5))
def det_Smallest_2.c (k : Nat) (ds : List Dat) : Option (Int × Int × Int × (List (List Int)) × (List Int) × (List Int)) := pop (.int .i64) ds fun x0 ds => pop (.int .i64) ds fun x1 ds => pop (.int .i64) ds fun x2 ds => pop (.slice (.slice (.int .i64))) ds fun x3 ds => pop (.slice (.int .i64)) ds fun x4 ds => pop (.slice (.int .i64)) ds fun x5 ds => popN ds (det_Smallest_2.f k x0 x1 x2 x3 x4 x5)
def det_Smallest_2.g : Nat → List Dat → Option (Int × Int × Int × (List (List Int)) × (List Int) × (List Int))
 | 0, _ => none
 | k + 1, ds => det_Smallest_2.c k ds
def det_Smallest_2.env (k : Nat) : Nat → List SV → List Chunk → KT (Int × Int × Int × (List (List Int)) × (List Int) × (List Int)) → Option (Int × Int × Int × (List (List Int)) × (List Int) × (List Int)) := env0
def det_Smallest_2.tbl : List (Nat × Tm × (Nat → List Dat → Option (Int × Int × Int × (List (List Int)) × (List Int) × (List Int)))) := []
noncomputable abbrev det_Smallest_2.R (k : Nat) := run T (det_Smallest_2.env k) Try.f163.ntmps (cutE 3 det_Smallest_2.tbl k) (finE 3 det_Smallest_2.to det_Smallest_2.out) (fnRes Try.f163) [] 100000 true
theorem det_Smallest_2.e (k : Nat) (x0 : Int) (x1 : Int) (x2 : Int) (x3 : (List (List Int))) (x4 : (List Int)) (x5 : (List Int)) : det_Smallest_2.f k x0 x1 x2 x3 x4 x5 = det_Smallest_2.R k ([.code det_Smallest_2.body]) (det_Smallest_2.ti.fill [⟨(.int .i64), x0⟩, ⟨(.int .i64), x1⟩, ⟨(.int .i64), x2⟩, ⟨(.slice (.slice (.int .i64))), x3⟩, ⟨(.slice (.int .i64)), x4⟩, ⟨(.slice (.int .i64)), x5⟩]) := by kernel_rfl
theorem det_Smallest_2.h (k : Nat) (ds : List Dat) (r : Int × Int × Int × (List (List Int)) × (List Int) × (List Int)) (h : det_Smallest_2.g k ds = some r) : ∃ k', k' < k ∧ det_Smallest_2.R k' ([.code det_Smallest_2.body]) (det_Smallest_2.ti.fill ds) = some r := by
  cases k with
  | zero => cases (show none = some r from h)
  | succ k =>
  replace h : det_Smallest_2.c k ds = some r := h
  unfold det_Smallest_2.c at h
  obtain ⟨x0, d0, rfl, h0⟩ := pop_some h
  obtain ⟨x1, d1, rfl, h1⟩ := pop_some h0
  obtain ⟨x2, d2, rfl, h2⟩ := pop_some h1
  obtain ⟨x3, d3, rfl, h3⟩ := pop_some h2
  obtain ⟨x4, d4, rfl, h4⟩ := pop_some h3
  obtain ⟨x5, d5, rfl, h5⟩ := pop_some h4
  obtain ⟨rfl, g⟩ := popN_some h5
  exact ⟨k, Nat.lt_succ_self k, (det_Smallest_2.e k x0 x1 x2 x3 x4 x5).symm.trans g⟩
theorem det_Smallest_2.o (ds : List Dat) (r : Int × Int × Int × (List (List Int)) × (List Int) × (List Int)) (h : det_Smallest_2.out ds = some r) : ds = det_Smallest_2.rs r := by
  unfold det_Smallest_2.out at h
  obtain ⟨x0, d0, rfl, h0⟩ := pop_some h
  obtain ⟨x1, d1, rfl, h1⟩ := pop_some h0
  obtain ⟨x2, d2, rfl, h2⟩ := pop_some h1
  obtain ⟨x3, d3, rfl, h3⟩ := pop_some h2
  obtain ⟨x4, d4, rfl, h4⟩ := pop_some h3
  obtain ⟨x5, d5, rfl, h5⟩ := pop_some h4
  obtain ⟨rfl, g⟩ := popN_some h5
  cases g
  rfl
theorem det_Smallest_2.fn : FnOk Try.prog 163 Try.f163 det_Smallest_2.body Try.f163.ntmps 3 (fnRes Try.f163) :=
  fnOk_of (by kernel_rfl) (by kernel_rfl) (by kernel_rfl) (by kernel_rfl)
theorem det_Smallest_2.con' : ∀ k ds r, det_Smallest_2.g k ds = some r → Con Try.prog 163 3 det_Smallest_2.ti det_Smallest_2.to ds (det_Smallest_2.rs r) :=
  fun_ok (T := T) T_ok mixed det_Smallest_2.fn (env := det_Smallest_2.env) (tbl := det_Smallest_2.tbl) (gOut := det_Smallest_2.out) (nin := 3) (cuts := []) (fuel := 100000) rfl (by kernel_rfl) (by kernel_rfl) (by kernel_rfl) (fun x hx => by simp [det_Smallest_2.tbl] at hx) det_Smallest_2.o det_Smallest_2.h (fun k _ => by unfold det_Smallest_2.env; exact env0_ok)
theorem det_Smallest_2.con (k : Nat) {x0 : Int} {x1 : Int} {x2 : Int} {x3 : (List (List Int))} {x4 : (List Int)} {x5 : (List Int)} (r : Int × Int × Int × (List (List Int)) × (List Int) × (List Int)) (h : det_Smallest_2.f k x0 x1 x2 x3 x4 x5 = some r) : Con Try.prog 163 3 det_Smallest_2.ti det_Smallest_2.to [⟨(.int .i64), x0⟩, ⟨(.int .i64), x1⟩, ⟨(.int .i64), x2⟩, ⟨(.slice (.slice (.int .i64))), x3⟩, ⟨(.slice (.int .i64)), x4⟩, ⟨(.slice (.int .i64)), x5⟩] (det_Smallest_2.rs r) :=
  det_Smallest_2.con' (k + 1) _ r (by show det_Smallest_2.c k _ = some r; unfold det_Smallest_2.c; simp only [pop_self, popN]; exact h)
mutual
def det_Explore_int__2.l4 : Nat → Int → Int → Int → Int → List (List (Int)) → List (Int) → List (Int) → List (Int) → Int → Int → Int → Int → List ((Int × Int)) → List (Int) → List (List (Int)) → List (Int) → List (List (Int)) → List (Int) → Option (Int × Int × Bool × Int × Int × List (List Int) × List Int × List Int × List Int × List (List Int) × List Int)
 | 0, _, _, _, _, _, _, _, _, _, _, _, _, _, _, _, _, _, _ => none
 | k + 1, letters0, most4, c1_0, c1_1, c1_2, c1_3, c3, c4, x10_0, x10_1, d12_0, d12_1, number13, l14, c9, c10, c11, c12 =>
  if (↑c11.length : Int) < (↑l14.length : Int) then
   if 0 ≤ (↑c11.length : Int) then
   if (↑c11.length : Int) < (↑l14.length : Int) then
    if 0 ≤ letters0 then
     if letters0 ≤ letters0 then
      if letters0 * ((↑8 : Int) + 1) ≤ 1099511627776 then
       det_Explore_int__2.l8 k letters0 most4 (l14.getD (↑c11.length : Int).toNat (Int.ofNat 0)) letters0 0 c1_0 c1_1 c1_2 c1_3 c3 c4 x10_0 x10_1 d12_0 d12_1 number13 l14 (List.replicate letters0.toNat (Int.ofNat 0)) c9 c10 c11 c12
       else none
      else none
     else none
    else none
   else none
  else
   some (d12_0, d12_1, true, c1_0, c1_1, c1_2, c1_3, c3, c4, c11, c12)
def det_Explore_int__2.l8 : Nat → Int → Int → Int → Int → Int → Int → Int → List (List (Int)) → List (Int) → List (Int) → List (Int) → Int → Int → Int → Int → List ((Int × Int)) → List (Int) → List (Int) → List (List (Int)) → List (Int) → List (List (Int)) → List (Int) → Option (Int × Int × Bool × Int × Int × List (List Int) × List Int × List Int × List Int × List (List Int) × List Int)
 | 0, _, _, _, _, _, _, _, _, _, _, _, _, _, _, _, _, _, _, _, _, _, _ => none
 | k + 1, letters0, most4, k15, x42, x43, c1_0, c1_1, c1_2, c1_3, c3, c4, x10_0, x10_1, d12_0, d12_1, number13, l14, row16, c10, c11, c12, c13 =>
  if x43 < x42 then
   (det_Smallest_1.f k k15 x43 c1_0 c1_1 c1_2 c1_3 c3 c4).bind fun r3 =>
    if Go.Proofs.YtiiioobebeaafaaSx.mhas (Go.Proofs.YtiiioobebeaafaaSx.Ty.int Go.IntKind.i64) (Go.Proofs.YtiiioobebeaafaaSx.Ty.int Go.IntKind.i64) number13 r3.fst = true then
     det_Explore_int__2.j18 k letters0 most4 k15 x43 (Go.Proofs.YtiiioobebeaafaaSx.mget (Go.Proofs.YtiiioobebeaafaaSx.Ty.int Go.IntKind.i64) (Go.Proofs.YtiiioobebeaafaaSx.Ty.int Go.IntKind.i64) number13 r3.fst) x42 x43 r3.snd.fst r3.snd.snd.fst r3.snd.snd.snd.fst r3.snd.snd.snd.snd.fst r3.snd.snd.snd.snd.snd.fst r3.snd.snd.snd.snd.snd.snd x10_0 x10_1 d12_0 d12_1 number13 l14 row16 c10 c11 c12 c13
    else
     if (↑l14.length : Int) = most4 then
      some (0, 0, false, r3.snd.fst, r3.snd.snd.fst, r3.snd.snd.snd.fst, r3.snd.snd.snd.snd.fst, r3.snd.snd.snd.snd.snd.fst, r3.snd.snd.snd.snd.snd.snd, [], [])
     else
      if (l14 ++ [r3.fst]).length.blt 1000000000 = true then
      det_Explore_int__2.j18 k letters0 most4 k15 x43 ((↑l14.length : Int)) x42 x43 r3.snd.fst r3.snd.snd.fst r3.snd.snd.snd.fst r3.snd.snd.snd.snd.fst r3.snd.snd.snd.snd.snd.fst r3.snd.snd.snd.snd.snd.snd x10_0 x10_1 d12_0 d12_1 (Go.Proofs.YtiiioobebeaafaaSx.mput (Go.Proofs.YtiiioobebeaafaaSx.Ty.int Go.IntKind.i64) (Go.Proofs.YtiiioobebeaafaaSx.Ty.int Go.IntKind.i64) number13 r3.fst (↑l14.length : Int)) (l14 ++ [r3.fst]) row16 c10 c11 c12 c13
      else none
  else
   if (c12 ++ [row16]).length.blt 1000000000 = true then
   (det_Smallest_2.f k k15 c1_0 c1_1 c1_2 c1_3 c4).bind fun r4 =>
     if (c13 ++ [r4.fst]).length.blt 1000000000 = true then
     det_Explore_int__2.l4 k letters0 most4 r4.snd.fst r4.snd.snd.fst r4.snd.snd.snd.fst r4.snd.snd.snd.snd.fst c3 r4.snd.snd.snd.snd.snd x10_0 x10_1 d12_0 d12_1 number13 l14 c10 c11 (c12 ++ [row16]) (c13 ++ [r4.fst])
     else none
   else none
def det_Explore_int__2.j18 : Nat → Int → Int → Int → Int → Int → Int → Int → Int → Int → List (List (Int)) → List (Int) → List (Int) → List (Int) → Int → Int → Int → Int → List ((Int × Int)) → List (Int) → List (Int) → List (List (Int)) → List (Int) → List (List (Int)) → List (Int) → Option (Int × Int × Bool × Int × Int × List (List Int) × List Int × List Int × List Int × List (List Int) × List Int)
 | 0, _, _, _, _, _, _, _, _, _, _, _, _, _, _, _, _, _, _, _, _, _, _, _, _ => none
 | k + 1, letters0, most4, k15, a17, n19, x42, x43, c1_0, c1_1, c1_2, c1_3, c3, c4, x10_0, x10_1, d12_0, d12_1, number13, l14, row16, c10, c11, c12, c13 =>
  if 0 ≤ a17 then
  if a17 < (↑row16.length : Int) then
   det_Explore_int__2.l8 k letters0 most4 k15 x42 (Go.IntKind.i64.wrap (x43 + 1)) c1_0 c1_1 c1_2 c1_3 c3 c4 x10_0 x10_1 d12_0 d12_1 number13 l14 (row16.set a17.toNat n19) c10 c11 c12 c13
   else none
  else none
end
def det_Explore_int__2.f (k : Nat) (letters0 : Int) (first1 : Int) (most4 : Int) (c1_0 : Int) (c1_1 : Int) (c1_2 : List (List (Int))) (c1_3 : List (Int)) (c3 : List (Int)) (c4 : List (Int)) : Option (Int × Int × Bool × Int × Int × List (List Int) × List Int × List Int × List Int × List (List Int) × List Int) :=
 det_Explore_int__2.l4 k letters0 most4 c1_0 c1_1 c1_2 c1_3 c3 c4 0 0 letters0 0 (Go.Proofs.YtiiioobebeaafaaSx.mput (Go.Proofs.YtiiioobebeaafaaSx.Ty.int Go.IntKind.i64) (Go.Proofs.YtiiioobebeaafaaSx.Ty.int Go.IntKind.i64) [] first1 (Int.ofNat 0)) [first1] [] [] [] []

noncomputable def det_Explore_int__2.body : Code := fnBody Try.f112
def det_Explore_int__2.ti : Tm := ⟨[(0, .p (.int .i64)), (1, .p (.int .i64)), (2, .fn 162 [.ptr 0 0, .ptr 1 0, .ptr 2 0]), (3, .fn 163 [.ptr 1 0, .ptr 2 0]), (4, .p (.int .i64))], [.box [.own 3] 23, .box [.p (.int .i64), .p (.int .i64), .p (.slice (.slice (.int .i64))), .p (.slice (.int .i64))] 58, .box [.own 4] 23, .own (.int .i64), .own (.int .i64)]⟩
def det_Explore_int__2.to : Tm := ⟨[(0, .agg [.p (.int .i64), .p (.int .i64), .own 5, .own 6]), (1, .p .bool)], [.box [.own 3] 23, .box [.p (.int .i64), .p (.int .i64), .p (.slice (.slice (.int .i64))), .p (.slice (.int .i64))] 58, .box [.own 4] 23, .own (.int .i64), .own (.int .i64), .own (.slice (.int .i64)), .own (.int .i64)]⟩
def det_Explore_int__2.rs (r : Int × Int × Bool × Int × Int × (List (List Int)) × (List Int) × (List Int) × (List Int) × (List (List Int)) × (List Int)) : List Dat := [⟨(.int .i64), r.1⟩, ⟨(.int .i64), r.2.1⟩, ⟨.bool, r.2.2.1⟩, ⟨(.int .i64), r.2.2.2.1⟩, ⟨(.int .i64), r.2.2.2.2.1⟩, ⟨(.slice (.slice (.int .i64))), r.2.2.2.2.2.1⟩, ⟨(.slice (.int .i64)), r.2.2.2.2.2.2.1⟩, ⟨(.slice (.int .i64)), r.2.2.2.2.2.2.2.1⟩, ⟨(.slice (.int .i64)), r.2.2.2.2.2.2.2.2.1⟩, ⟨(.slice (.slice (.int .i64))), r.2.2.2.2.2.2.2.2.2.1⟩, ⟨(.slice (.int .i64)), r.2.2.2.2.2.2.2.2.2.2⟩]
def det_Explore_int__2.out (ds : List Dat) : Option (Int × Int × Bool × Int × Int × (List (List Int)) × (List Int) × (List Int) × (List Int) × (List (List Int)) × (List Int)) := pop (.int .i64) ds fun x0 ds => pop (.int .i64) ds fun x1 ds => pop .bool ds fun x2 ds => pop (.int .i64) ds fun x3 ds => pop (.int .i64) ds fun x4 ds => pop (.slice (.slice (.int .i64))) ds fun x5 ds => pop (.slice (.int .i64)) ds fun x6 ds => pop (.slice (.int .i64)) ds fun x7 ds => pop (.slice (.int .i64)) ds fun x8 ds => pop (.slice (.slice (.int .i64))) ds fun x9 ds => pop (.slice (.int .i64)) ds fun x10 ds => popN ds (some (x0, x1, x2, x3, x4, x5, x6, x7, x8, x9, x10))
def det_Explore_int__2.c (k : Nat) (ds : List Dat) : Option (Int × Int × Bool × Int × Int × (List (List Int)) × (List Int) × (List Int) × (List Int) × (List (List Int)) × (List Int)) := pop (.int .i64) ds fun x0 ds => pop (.int .i64) ds fun x1 ds => pop (.int .i64) ds fun x2 ds => pop (.int .i64) ds fun x3 ds => pop (.int .i64) ds fun x4 ds => pop (.slice (.slice (.int .i64))) ds fun x5 ds => pop (.slice (.int .i64)) ds fun x6 ds => pop (.slice (.int .i64)) ds fun x7 ds => pop (.slice (.int .i64)) ds fun x8 ds => popN ds (det_Explore_int__2.f k x0 x1 x2 x3 x4 x5 x6 x7 x8)
def det_Explore_int__2.g : Nat → List Dat → Option (Int × Int × Bool × Int × Int × (List (List Int)) × (List Int) × (List Int) × (List Int) × (List (List Int)) × (List Int))
 | 0, _ => none
 | k + 1, ds => det_Explore_int__2.c k ds
def det_Explore_int__2.env (k : Nat) : Nat → List SV → List Chunk → KT (Int × Int × Bool × Int × Int × (List (List Int)) × (List Int) × (List Int) × (List Int) × (List (List Int)) × (List Int)) → Option (Int × Int × Bool × Int × Int × (List (List Int)) × (List Int) × (List Int) × (List Int) × (List (List Int)) × (List Int)) := (envC 162 5 det_Smallest_1.ti det_Smallest_1.to (fun ds K => pop (.int .i64) ds fun x0 ds => pop (.int .i64) ds fun x1 ds => pop (.int .i64) ds fun x2 ds => pop (.int .i64) ds fun x3 ds => pop (.slice (.slice (.int .i64))) ds fun x4 ds => pop (.slice (.int .i64)) ds fun x5 ds => pop (.slice (.int .i64)) ds fun x6 ds => pop (.slice (.int .i64)) ds fun x7 ds => popN ds ((det_Smallest_1.f k x0 x1 x2 x3 x4 x5 x6 x7).bind fun r => K (det_Smallest_1.rs r))) (envC 163 3 det_Smallest_2.ti det_Smallest_2.to (fun ds K => pop (.int .i64) ds fun x0 ds => pop (.int .i64) ds fun x1 ds => pop (.int .i64) ds fun x2 ds => pop (.slice (.slice (.int .i64))) ds fun x3 ds => pop (.slice (.int .i64)) ds fun x4 ds => pop (.slice (.int .i64)) ds fun x5 ds => popN ds ((det_Smallest_2.f k x0 x1 x2 x3 x4 x5).bind fun r => K (det_Smallest_2.rs r))) env0))
def det_Explore_int__2.t9 : Tm := ⟨[(0, .p (.int .i64)), (2, .fn 162 [.ptr 0 0, .ptr 1 0, .ptr 2 0]), (3, .fn 163 [.ptr 1 0, .ptr 2 0]), (4, .p (.int .i64)), (10, .ptr 5 0), (12, .ptr 6 0), (13, .map 7), (14, .own 8)], [.box [.own 3] 23, .box [.p (.int .i64), .p (.int .i64), .p (.slice (.slice (.int .i64))), .p (.slice (.int .i64))] 58, .box [.own 4] 23, .own (.int .i64), .own (.int .i64), .box [.p (.int .i64), .p (.int .i64), .own 9, .own 10] 58, .box [.p (.int .i64), .p (.int .i64), .own 11, .own 12] 58, .map (.int .i64) (.int .i64), .own (.int .i64), .own (.slice (.int .i64)), .own (.int .i64), .own (.slice (.int .i64)), .own (.int .i64)]⟩
def det_Explore_int__2.c9 (k : Nat) (ds : List Dat) : Option (Int × Int × Bool × Int × Int × (List (List Int)) × (List Int) × (List Int) × (List Int) × (List (List Int)) × (List Int)) := pop (.int .i64) ds fun x0 ds => pop (.int .i64) ds fun x1 ds => pop (.int .i64) ds fun x2 ds => pop (.int .i64) ds fun x3 ds => pop (.slice (.slice (.int .i64))) ds fun x4 ds => pop (.slice (.int .i64)) ds fun x5 ds => pop (.slice (.int .i64)) ds fun x6 ds => pop (.slice (.int .i64)) ds fun x7 ds => pop (.int .i64) ds fun x8 ds => pop (.int .i64) ds fun x9 ds => pop (.int .i64) ds fun x10 ds => pop (.int .i64) ds fun x11 ds => pop (.slice (.pair (.int .i64) (.int .i64))) ds fun x12 ds => pop (.slice (.int .i64)) ds fun x13 ds => pop (.slice (.slice (.int .i64))) ds fun x14 ds => pop (.slice (.int .i64)) ds fun x15 ds => pop (.slice (.slice (.int .i64))) ds fun x16 ds => pop (.slice (.int .i64)) ds fun x17 ds => popN ds (det_Explore_int__2.l4 k x0 x1 x2 x3 x4 x5 x6 x7 x8 x9 x10 x11 x12 x13 x14 x15 x16 x17)
def det_Explore_int__2.t17 : Tm := ⟨[(0, .p (.int .i64)), (2, .fn 162 [.ptr 0 0, .ptr 1 0, .ptr 2 0]), (3, .fn 163 [.ptr 1 0, .ptr 2 0]), (4, .p (.int .i64)), (10, .ptr 5 0), (12, .ptr 6 0), (13, .map 7), (14, .own 8), (15, .p (.int .i64)), (16, .own 9), (42, .p (.int .i64)), (43, .p (.int .i64))], [.box [.own 3] 23, .box [.p (.int .i64), .p (.int .i64), .p (.slice (.slice (.int .i64))), .p (.slice (.int .i64))] 58, .box [.own 4] 23, .own (.int .i64), .own (.int .i64), .box [.p (.int .i64), .p (.int .i64), .own 10, .own 11] 58, .box [.p (.int .i64), .p (.int .i64), .own 12, .own 13] 58, .map (.int .i64) (.int .i64), .own (.int .i64), .own (.int .i64), .own (.slice (.int .i64)), .own (.int .i64), .own (.slice (.int .i64)), .own (.int .i64)]⟩
def det_Explore_int__2.c17 (k : Nat) (ds : List Dat) : Option (Int × Int × Bool × Int × Int × (List (List Int)) × (List Int) × (List Int) × (List Int) × (List (List Int)) × (List Int)) := pop (.int .i64) ds fun x0 ds => pop (.int .i64) ds fun x1 ds => pop (.int .i64) ds fun x2 ds => pop (.int .i64) ds fun x3 ds => pop (.int .i64) ds fun x4 ds => pop (.int .i64) ds fun x5 ds => pop (.int .i64) ds fun x6 ds => pop (.slice (.slice (.int .i64))) ds fun x7 ds => pop (.slice (.int .i64)) ds fun x8 ds => pop (.slice (.int .i64)) ds fun x9 ds => pop (.slice (.int .i64)) ds fun x10 ds => pop (.int .i64) ds fun x11 ds => pop (.int .i64) ds fun x12 ds => pop (.int .i64) ds fun x13 ds => pop (.int .i64) ds fun x14 ds => pop (.slice (.pair (.int .i64) (.int .i64))) ds fun x15 ds => pop (.slice (.int .i64)) ds fun x16 ds => pop (.slice (.int .i64)) ds fun x17 ds => pop (.slice (.slice (.int .i64))) ds fun x18 ds => pop (.slice (.int .i64)) ds fun x19 ds => pop (.slice (.slice (.int .i64))) ds fun x20 ds => pop (.slice (.int .i64)) ds fun x21 ds => popN ds (det_Explore_int__2.l8 k x0 x1 x2 x3 x4 x5 x6 x7 x8 x9 x10 x11 x12 x13 x14 x15 x16 x17 x18 x19 x20 x21)
def det_Explore_int__2.t36 : Tm := ⟨[(0, .p (.int .i64)), (2, .fn 162 [.ptr 0 0, .ptr 1 0, .ptr 2 0]), (3, .fn 163 [.ptr 1 0, .ptr 2 0]), (4, .p (.int .i64)), (10, .ptr 5 0), (12, .ptr 6 0), (13, .map 7), (14, .own 8), (15, .p (.int .i64)), (16, .own 9), (17, .p (.int .i64)), (19, .p (.int .i64)), (42, .p (.int .i64)), (43, .p (.int .i64))], [.box [.own 3] 23, .box [.p (.int .i64), .p (.int .i64), .p (.slice (.slice (.int .i64))), .p (.slice (.int .i64))] 58, .box [.own 4] 23, .own (.int .i64), .own (.int .i64), .box [.p (.int .i64), .p (.int .i64), .own 10, .own 11] 58, .box [.p (.int .i64), .p (.int .i64), .own 12, .own 13] 58, .map (.int .i64) (.int .i64), .own (.int .i64), .own (.int .i64), .own (.slice (.int .i64)), .own (.int .i64), .own (.slice (.int .i64)), .own (.int .i64)]⟩
def det_Explore_int__2.c36 (k : Nat) (ds : List Dat) : Option (Int × Int × Bool × Int × Int × (List (List Int)) × (List Int) × (List Int) × (List Int) × (List (List Int)) × (List Int)) := pop (.int .i64) ds fun x0 ds => pop (.int .i64) ds fun x1 ds => pop (.int .i64) ds fun x2 ds => pop (.int .i64) ds fun x3 ds => pop (.int .i64) ds fun x4 ds => pop (.int .i64) ds fun x5 ds => pop (.int .i64) ds fun x6 ds => pop (.int .i64) ds fun x7 ds => pop (.int .i64) ds fun x8 ds => pop (.slice (.slice (.int .i64))) ds fun x9 ds => pop (.slice (.int .i64)) ds fun x10 ds => pop (.slice (.int .i64)) ds fun x11 ds => pop (.slice (.int .i64)) ds fun x12 ds => pop (.int .i64) ds fun x13 ds => pop (.int .i64) ds fun x14 ds => pop (.int .i64) ds fun x15 ds => pop (.int .i64) ds fun x16 ds => pop (.slice (.pair (.int .i64) (.int .i64))) ds fun x17 ds => pop (.slice (.int .i64)) ds fun x18 ds => pop (.slice (.int .i64)) ds fun x19 ds => pop (.slice (.slice (.int .i64))) ds fun x20 ds => pop (.slice (.int .i64)) ds fun x21 ds => pop (.slice (.slice (.int .i64))) ds fun x22 ds => pop (.slice (.int .i64)) ds fun x23 ds => popN ds (det_Explore_int__2.j18 k x0 x1 x2 x3 x4 x5 x6 x7 x8 x9 x10 x11 x12 x13 x14 x15 x16 x17 x18 x19 x20 x21 x22 x23)
def det_Explore_int__2.tbl : List (Nat × Tm × (Nat → List Dat → Option (Int × Int × Bool × Int × Int × (List (List Int)) × (List Int) × (List Int) × (List Int) × (List (List Int)) × (List Int)))) := [(9, det_Explore_int__2.t9, det_Explore_int__2.c9), (17, det_Explore_int__2.t17, det_Explore_int__2.c17), (36, det_Explore_int__2.t36, det_Explore_int__2.c36)]
noncomputable abbrev det_Explore_int__2.R (k : Nat) := run T (det_Explore_int__2.env k) Try.f112.ntmps (cutE 5 det_Explore_int__2.tbl k) (finE 5 det_Explore_int__2.to det_Explore_int__2.out) (fnRes Try.f112) [18] 100000 true
theorem det_Explore_int__2.e9 (k : Nat) (x0 : Int) (x1 : Int) (x2 : Int) (x3 : Int) (x4 : (List (List Int))) (x5 : (List Int)) (x6 : (List Int)) (x7 : (List Int)) (x8 : Int) (x9 : Int) (x10 : Int) (x11 : Int) (x12 : (List (Int × Int))) (x13 : (List Int)) (x14 : (List (List Int))) (x15 : (List Int)) (x16 : (List (List Int))) (x17 : (List Int)) : det_Explore_int__2.l4 (k + 1) x0 x1 x2 x3 x4 x5 x6 x7 x8 x9 x10 x11 x12 x13 x14 x15 x16 x17 = det_Explore_int__2.R k (start (stackOf 9 det_Explore_int__2.body)) (det_Explore_int__2.t9.fill [⟨(.int .i64), x0⟩, ⟨(.int .i64), x1⟩, ⟨(.int .i64), x2⟩, ⟨(.int .i64), x3⟩, ⟨(.slice (.slice (.int .i64))), x4⟩, ⟨(.slice (.int .i64)), x5⟩, ⟨(.slice (.int .i64)), x6⟩, ⟨(.slice (.int .i64)), x7⟩, ⟨(.int .i64), x8⟩, ⟨(.int .i64), x9⟩, ⟨(.int .i64), x10⟩, ⟨(.int .i64), x11⟩, ⟨(.slice (.pair (.int .i64) (.int .i64))), x12⟩, ⟨(.slice (.int .i64)), x13⟩, ⟨(.slice (.slice (.int .i64))), x14⟩, ⟨(.slice (.int .i64)), x15⟩, ⟨(.slice (.slice (.int .i64))), x16⟩, ⟨(.slice (.int .i64)), x17⟩]) := by kernel_rfl
theorem det_Explore_int__2.s9 : stackAt 9 det_Explore_int__2.body [] = some (stackOf 9 det_Explore_int__2.body) := by kernel_rfl
theorem det_Explore_int__2.h9 (k : Nat) (ds : List Dat) (r : Int × Int × Bool × Int × Int × (List (List Int)) × (List Int) × (List Int) × (List Int) × (List (List Int)) × (List Int)) (h : det_Explore_int__2.c9 k ds = some r) : ∃ k', k' < k ∧ ∃ s, stackAt 9 det_Explore_int__2.body [] = some s ∧ det_Explore_int__2.R k' (start s) (det_Explore_int__2.t9.fill ds) = some r := by
  unfold det_Explore_int__2.c9 at h
  obtain ⟨x0, d0, rfl, h0⟩ := pop_some h
  obtain ⟨x1, d1, rfl, h1⟩ := pop_some h0
  obtain ⟨x2, d2, rfl, h2⟩ := pop_some h1
  obtain ⟨x3, d3, rfl, h3⟩ := pop_some h2
  obtain ⟨x4, d4, rfl, h4⟩ := pop_some h3
  obtain ⟨x5, d5, rfl, h5⟩ := pop_some h4
  obtain ⟨x6, d6, rfl, h6⟩ := pop_some h5
  obtain ⟨x7, d7, rfl, h7⟩ := pop_some h6
  obtain ⟨x8, d8, rfl, h8⟩ := pop_some h7
  obtain ⟨x9, d9, rfl, h9⟩ := pop_some h8
  obtain ⟨x10, d10, rfl, h10⟩ := pop_some h9
  obtain ⟨x11, d11, rfl, h11⟩ := pop_some h10
  obtain ⟨x12, d12, rfl, h12⟩ := pop_some h11
  obtain ⟨x13, d13, rfl, h13⟩ := pop_some h12
  obtain ⟨x14, d14, rfl, h14⟩ := pop_some h13
  obtain ⟨x15, d15, rfl, h15⟩ := pop_some h14
  obtain ⟨x16, d16, rfl, h16⟩ := pop_some h15
  obtain ⟨x17, d17, rfl, h17⟩ := pop_some h16
  obtain ⟨rfl, g⟩ := popN_some h17
  cases k with
  | zero => cases (show none = some r from g)
  | succ k => exact ⟨k, Nat.lt_succ_self k, _, det_Explore_int__2.s9, (det_Explore_int__2.e9 k x0 x1 x2 x3 x4 x5 x6 x7 x8 x9 x10 x11 x12 x13 x14 x15 x16 x17).symm.trans g⟩
theorem det_Explore_int__2.e17 (k : Nat) (x0 : Int) (x1 : Int) (x2 : Int) (x3 : Int) (x4 : Int) (x5 : Int) (x6 : Int) (x7 : (List (List Int))) (x8 : (List Int)) (x9 : (List Int)) (x10 : (List Int)) (x11 : Int) (x12 : Int) (x13 : Int) (x14 : Int) (x15 : (List (Int × Int))) (x16 : (List Int)) (x17 : (List Int)) (x18 : (List (List Int))) (x19 : (List Int)) (x20 : (List (List Int))) (x21 : (List Int)) : det_Explore_int__2.l8 (k + 1) x0 x1 x2 x3 x4 x5 x6 x7 x8 x9 x10 x11 x12 x13 x14 x15 x16 x17 x18 x19 x20 x21 = det_Explore_int__2.R k (start (stackOf 17 det_Explore_int__2.body)) (det_Explore_int__2.t17.fill [⟨(.int .i64), x0⟩, ⟨(.int .i64), x1⟩, ⟨(.int .i64), x2⟩, ⟨(.int .i64), x3⟩, ⟨(.int .i64), x4⟩, ⟨(.int .i64), x5⟩, ⟨(.int .i64), x6⟩, ⟨(.slice (.slice (.int .i64))), x7⟩, ⟨(.slice (.int .i64)), x8⟩, ⟨(.slice (.int .i64)), x9⟩, ⟨(.slice (.int .i64)), x10⟩, ⟨(.int .i64), x11⟩, ⟨(.int .i64), x12⟩, ⟨(.int .i64), x13⟩, ⟨(.int .i64), x14⟩, ⟨(.slice (.pair (.int .i64) (.int .i64))), x15⟩, ⟨(.slice (.int .i64)), x16⟩, ⟨(.slice (.int .i64)), x17⟩, ⟨(.slice (.slice (.int .i64))), x18⟩, ⟨(.slice (.int .i64)), x19⟩, ⟨(.slice (.slice (.int .i64))), x20⟩, ⟨(.slice (.int .i64)), x21⟩]) := by kernel_rfl
theorem det_Explore_int__2.s17 : stackAt 17 det_Explore_int__2.body [] = some (stackOf 17 det_Explore_int__2.body) := by kernel_rfl
theorem det_Explore_int__2.h17 (k : Nat) (ds : List Dat) (r : Int × Int × Bool × Int × Int × (List (List Int)) × (List Int) × (List Int) × (List Int) × (List (List Int)) × (List Int)) (h : det_Explore_int__2.c17 k ds = some r) : ∃ k', k' < k ∧ ∃ s, stackAt 17 det_Explore_int__2.body [] = some s ∧ det_Explore_int__2.R k' (start s) (det_Explore_int__2.t17.fill ds) = some r := by
  unfold det_Explore_int__2.c17 at h
  obtain ⟨x0, d0, rfl, h0⟩ := pop_some h
  obtain ⟨x1, d1, rfl, h1⟩ := pop_some h0
  obtain ⟨x2, d2, rfl, h2⟩ := pop_some h1
  obtain ⟨x3, d3, rfl, h3⟩ := pop_some h2
  obtain ⟨x4, d4, rfl, h4⟩ := pop_some h3
  obtain ⟨x5, d5, rfl, h5⟩ := pop_some h4
  obtain ⟨x6, d6, rfl, h6⟩ := pop_some h5
  obtain ⟨x7, d7, rfl, h7⟩ := pop_some h6
  obtain ⟨x8, d8, rfl, h8⟩ := pop_some h7
  obtain ⟨x9, d9, rfl, h9⟩ := pop_some h8
  obtain ⟨x10, d10, rfl, h10⟩ := pop_some h9
  obtain ⟨x11, d11, rfl, h11⟩ := pop_some h10
  obtain ⟨x12, d12, rfl, h12⟩ := pop_some h11
  obtain ⟨x13, d13, rfl, h13⟩ := pop_some h12
  obtain ⟨x14, d14, rfl, h14⟩ := pop_some h13
  obtain ⟨x15, d15, rfl, h15⟩ := pop_some h14
  obtain ⟨x16, d16, rfl, h16⟩ := pop_some h15
  obtain ⟨x17, d17, rfl, h17⟩ := pop_some h16
  obtain ⟨x18, d18, rfl, h18⟩ := pop_some h17
  obtain ⟨x19, d19, rfl, h19⟩ := pop_some h18
  obtain ⟨x20, d20, rfl, h20⟩ := pop_some h19
  obtain ⟨x21, d21, rfl, h21⟩ := pop_some h20
  obtain ⟨rfl, g⟩ := popN_some h21
  cases k with
  | zero => cases (show none = some r from g)
  | succ k => exact ⟨k, Nat.lt_succ_self k, _, det_Explore_int__2.s17, (det_Explore_int__2.e17 k x0 x1 x2 x3 x4 x5 x6 x7 x8 x9 x10 x11 x12 x13 x14 x15 x16 x17 x18 x19 x20 x21).symm.trans g⟩
theorem det_Explore_int__2.e36 (k : Nat) (x0 : Int) (x1 : Int) (x2 : Int) (x3 : Int) (x4 : Int) (x5 : Int) (x6 : Int) (x7 : Int) (x8 : Int) (x9 : (List (List Int))) (x10 : (List Int)) (x11 : (List Int)) (x12 : (List Int)) (x13 : Int) (x14 : Int) (x15 : Int) (x16 : Int) (x17 : (List (Int × Int))) (x18 : (List Int)) (x19 : (List Int)) (x20 : (List (List Int))) (x21 : (List Int)) (x22 : (List (List Int))) (x23 : (List Int)) : det_Explore_int__2.j18 (k + 1) x0 x1 x2 x3 x4 x5 x6 x7 x8 x9 x10 x11 x12 x13 x14 x15 x16 x17 x18 x19 x20 x21 x22 x23 = det_Explore_int__2.R k (start (stackOf 36 det_Explore_int__2.body)) (det_Explore_int__2.t36.fill [⟨(.int .i64), x0⟩, ⟨(.int .i64), x1⟩, ⟨(.int .i64), x2⟩, ⟨(.int .i64), x3⟩, ⟨(.int .i64), x4⟩, ⟨(.int .i64), x5⟩, ⟨(.int .i64), x6⟩, ⟨(.int .i64), x7⟩, ⟨(.int .i64), x8⟩, ⟨(.slice (.slice (.int .i64))), x9⟩, ⟨(.slice (.int .i64)), x10⟩, ⟨(.slice (.int .i64)), x11⟩, ⟨(.slice (.int .i64)), x12⟩, ⟨(.int .i64), x13⟩, ⟨(.int .i64), x14⟩, ⟨(.int .i64), x15⟩, ⟨(.int .i64), x16⟩, ⟨(.slice (.pair (.int .i64) (.int .i64))), x17⟩, ⟨(.slice (.int .i64)), x18⟩, ⟨(.slice (.int .i64)), x19⟩, ⟨(.slice (.slice (.int .i64))), x20⟩, ⟨(.slice (.int .i64)), x21⟩, ⟨(.slice (.slice (.int .i64))), x22⟩, ⟨(.slice (.int .i64)), x23⟩]) := by kernel_rfl
theorem det_Explore_int__2.s36 : stackAt 36 det_Explore_int__2.body [] = some (stackOf 36 det_Explore_int__2.body) := by kernel_rfl
theorem det_Explore_int__2.h36 (k : Nat) (ds : List Dat) (r : Int × Int × Bool × Int × Int × (List (List Int)) × (List Int) × (List Int) × (List Int) × (List (List Int)) × (List Int)) (h : det_Explore_int__2.c36 k ds = some r) : ∃ k', k' < k ∧ ∃ s, stackAt 36 det_Explore_int__2.body [] = some s ∧ det_Explore_int__2.R k' (start s) (det_Explore_int__2.t36.fill ds) = some r := by
  unfold det_Explore_int__2.c36 at h
  obtain ⟨x0, d0, rfl, h0⟩ := pop_some h
  obtain ⟨x1, d1, rfl, h1⟩ := pop_some h0
  obtain ⟨x2, d2, rfl, h2⟩ := pop_some h1
  obtain ⟨x3, d3, rfl, h3⟩ := pop_some h2
  obtain ⟨x4, d4, rfl, h4⟩ := pop_some h3
  obtain ⟨x5, d5, rfl, h5⟩ := pop_some h4
  obtain ⟨x6, d6, rfl, h6⟩ := pop_some h5
  obtain ⟨x7, d7, rfl, h7⟩ := pop_some h6
  obtain ⟨x8, d8, rfl, h8⟩ := pop_some h7
  obtain ⟨x9, d9, rfl, h9⟩ := pop_some h8
  obtain ⟨x10, d10, rfl, h10⟩ := pop_some h9
  obtain ⟨x11, d11, rfl, h11⟩ := pop_some h10
  obtain ⟨x12, d12, rfl, h12⟩ := pop_some h11
  obtain ⟨x13, d13, rfl, h13⟩ := pop_some h12
  obtain ⟨x14, d14, rfl, h14⟩ := pop_some h13
  obtain ⟨x15, d15, rfl, h15⟩ := pop_some h14
  obtain ⟨x16, d16, rfl, h16⟩ := pop_some h15
  obtain ⟨x17, d17, rfl, h17⟩ := pop_some h16
  obtain ⟨x18, d18, rfl, h18⟩ := pop_some h17
  obtain ⟨x19, d19, rfl, h19⟩ := pop_some h18
  obtain ⟨x20, d20, rfl, h20⟩ := pop_some h19
  obtain ⟨x21, d21, rfl, h21⟩ := pop_some h20
  obtain ⟨x22, d22, rfl, h22⟩ := pop_some h21
  obtain ⟨x23, d23, rfl, h23⟩ := pop_some h22
  obtain ⟨rfl, g⟩ := popN_some h23
  cases k with
  | zero => cases (show none = some r from g)
  | succ k => exact ⟨k, Nat.lt_succ_self k, _, det_Explore_int__2.s36, (det_Explore_int__2.e36 k x0 x1 x2 x3 x4 x5 x6 x7 x8 x9 x10 x11 x12 x13 x14 x15 x16 x17 x18 x19 x20 x21 x22 x23).symm.trans g⟩
theorem det_Explore_int__2.e (k : Nat) (x0 : Int) (x1 : Int) (x2 : Int) (x3 : Int) (x4 : Int) (x5 : (List (List Int))) (x6 : (List Int)) (x7 : (List Int)) (x8 : (List Int)) : det_Explore_int__2.f k x0 x1 x2 x3 x4 x5 x6 x7 x8 = det_Explore_int__2.R k ([.code det_Explore_int__2.body]) (det_Explore_int__2.ti.fill [⟨(.int .i64), x0⟩, ⟨(.int .i64), x1⟩, ⟨(.int .i64), x2⟩, ⟨(.int .i64), x3⟩, ⟨(.int .i64), x4⟩, ⟨(.slice (.slice (.int .i64))), x5⟩, ⟨(.slice (.int .i64)), x6⟩, ⟨(.slice (.int .i64)), x7⟩, ⟨(.slice (.int .i64)), x8⟩]) := by kernel_rfl
theorem det_Explore_int__2.h (k : Nat) (ds : List Dat) (r : Int × Int × Bool × Int × Int × (List (List Int)) × (List Int) × (List Int) × (List Int) × (List (List Int)) × (List Int)) (h : det_Explore_int__2.g k ds = some r) : ∃ k', k' < k ∧ det_Explore_int__2.R k' ([.code det_Explore_int__2.body]) (det_Explore_int__2.ti.fill ds) = some r := by
  cases k with
  | zero => cases (show none = some r from h)
  | succ k =>
  replace h : det_Explore_int__2.c k ds = some r := h
  unfold det_Explore_int__2.c at h
  obtain ⟨x0, d0, rfl, h0⟩ := pop_some h
  obtain ⟨x1, d1, rfl, h1⟩ := pop_some h0
  obtain ⟨x2, d2, rfl, h2⟩ := pop_some h1
  obtain ⟨x3, d3, rfl, h3⟩ := pop_some h2
  obtain ⟨x4, d4, rfl, h4⟩ := pop_some h3
  obtain ⟨x5, d5, rfl, h5⟩ := pop_some h4
  obtain ⟨x6, d6, rfl, h6⟩ := pop_some h5
  obtain ⟨x7, d7, rfl, h7⟩ := pop_some h6
  obtain ⟨x8, d8, rfl, h8⟩ := pop_some h7
  obtain ⟨rfl, g⟩ := popN_some h8
  exact ⟨k, Nat.lt_succ_self k, (det_Explore_int__2.e k x0 x1 x2 x3 x4 x5 x6 x7 x8).symm.trans g⟩
theorem det_Explore_int__2.o (ds : List Dat) (r : Int × Int × Bool × Int × Int × (List (List Int)) × (List Int) × (List Int) × (List Int) × (List (List Int)) × (List Int)) (h : det_Explore_int__2.out ds = some r) : ds = det_Explore_int__2.rs r := by
  unfold det_Explore_int__2.out at h
  obtain ⟨x0, d0, rfl, h0⟩ := pop_some h
  obtain ⟨x1, d1, rfl, h1⟩ := pop_some h0
  obtain ⟨x2, d2, rfl, h2⟩ := pop_some h1
  obtain ⟨x3, d3, rfl, h3⟩ := pop_some h2
  obtain ⟨x4, d4, rfl, h4⟩ := pop_some h3
  obtain ⟨x5, d5, rfl, h5⟩ := pop_some h4
  obtain ⟨x6, d6, rfl, h6⟩ := pop_some h5
  obtain ⟨x7, d7, rfl, h7⟩ := pop_some h6
  obtain ⟨x8, d8, rfl, h8⟩ := pop_some h7
  obtain ⟨x9, d9, rfl, h9⟩ := pop_some h8
  obtain ⟨x10, d10, rfl, h10⟩ := pop_some h9
  obtain ⟨rfl, g⟩ := popN_some h10
  cases g
  rfl
theorem det_Explore_int__2.fn : FnOk Try.prog 112 Try.f112 det_Explore_int__2.body Try.f112.ntmps 5 (fnRes Try.f112) :=
  fnOk_of (by kernel_rfl) (by kernel_rfl) (by kernel_rfl) (by kernel_rfl)
theorem det_Explore_int__2.con' : ∀ k ds r, det_Explore_int__2.g k ds = some r → Con Try.prog 112 5 det_Explore_int__2.ti det_Explore_int__2.to ds (det_Explore_int__2.rs r) :=
  fun_ok (T := T) T_ok mixed det_Explore_int__2.fn (env := det_Explore_int__2.env) (tbl := det_Explore_int__2.tbl) (gOut := det_Explore_int__2.out) (nin := 5) (cuts := [18]) (fuel := 100000) rfl (by kernel_rfl) (by kernel_rfl) (by kernel_rfl) (fun x hx => by
    simp only [det_Explore_int__2.tbl, List.mem_cons, List.not_mem_nil, or_false] at hx
    rcases hx with rfl | rfl | rfl
    · exact det_Explore_int__2.h9
    · exact det_Explore_int__2.h17
    · exact det_Explore_int__2.h36
) det_Explore_int__2.o det_Explore_int__2.h (fun k _ => by unfold det_Explore_int__2.env; exact (envC_ok (fun ds K r h => by
    obtain ⟨x0, d0, rfl, h0⟩ := pop_some h
    obtain ⟨x1, d1, rfl, h1⟩ := pop_some h0
    obtain ⟨x2, d2, rfl, h2⟩ := pop_some h1
    obtain ⟨x3, d3, rfl, h3⟩ := pop_some h2
    obtain ⟨x4, d4, rfl, h4⟩ := pop_some h3
    obtain ⟨x5, d5, rfl, h5⟩ := pop_some h4
    obtain ⟨x6, d6, rfl, h6⟩ := pop_some h5
    obtain ⟨x7, d7, rfl, h7⟩ := pop_some h6
    obtain ⟨rfl, g⟩ := popN_some h7
    obtain ⟨r1, h1, h2⟩ := bind_some g
    exact ⟨_, h2, det_Smallest_1.con k _ h1⟩) (envC_ok (fun ds K r h => by
    obtain ⟨x0, d0, rfl, h0⟩ := pop_some h
    obtain ⟨x1, d1, rfl, h1⟩ := pop_some h0
    obtain ⟨x2, d2, rfl, h2⟩ := pop_some h1
    obtain ⟨x3, d3, rfl, h3⟩ := pop_some h2
    obtain ⟨x4, d4, rfl, h4⟩ := pop_some h3
    obtain ⟨x5, d5, rfl, h5⟩ := pop_some h4
    obtain ⟨rfl, g⟩ := popN_some h5
    obtain ⟨r1, h1, h2⟩ := bind_some g
    exact ⟨_, h2, det_Smallest_2.con k _ h1⟩) env0_ok)))
theorem det_Explore_int__2.con (k : Nat) {x0 : Int} {x1 : Int} {x2 : Int} {x3 : Int} {x4 : Int} {x5 : (List (List Int))} {x6 : (List Int)} {x7 : (List Int)} {x8 : (List Int)} (r : Int × Int × Bool × Int × Int × (List (List Int)) × (List Int) × (List Int) × (List Int) × (List (List Int)) × (List Int)) (h : det_Explore_int__2.f k x0 x1 x2 x3 x4 x5 x6 x7 x8 = some r) : Con Try.prog 112 5 det_Explore_int__2.ti det_Explore_int__2.to [⟨(.int .i64), x0⟩, ⟨(.int .i64), x1⟩, ⟨(.int .i64), x2⟩, ⟨(.int .i64), x3⟩, ⟨(.int .i64), x4⟩, ⟨(.slice (.slice (.int .i64))), x5⟩, ⟨(.slice (.int .i64)), x6⟩, ⟨(.slice (.int .i64)), x7⟩, ⟨(.slice (.int .i64)), x8⟩] (det_Explore_int__2.rs r) :=
  det_Explore_int__2.con' (k + 1) _ r (by show det_Explore_int__2.c k _ = some r; unfold det_Explore_int__2.c; simp only [pop_self, popN]; exact h)
mutual
def det_Smallest.l4 : Nat → Int → Int → Int → Int → List (List (Int)) → List (Int) → Int → Int → List (Int) → List (List (Int)) → List (Int) → List (Int) → Option (Int × Int × List (List Int) × List Int)
 | 0, _, _, _, _, _, _, _, _, _, _, _, _ => none
 | k + 1, x15, x16, d1_0, d1_1, d1_2, d1_3, x2_0, x2_1, x14, c5, c6, c7 =>
  if x16 < x15 then
   if 0 ≤ x16 then
   if x16 < (↑x14.length : Int) then
    if 0 ≤ x14.getD x16.toNat (Int.ofNat 0) then
     if x14.getD x16.toNat (Int.ofNat 0) < (↑c7.length : Int) then
      det_Smallest.l4 k x15 (Go.IntKind.i64.wrap (x16 + 1)) d1_0 d1_1 d1_2 d1_3 x2_0 x2_1 x14 c5 c6 (c7.set (x14.getD x16.toNat (Int.ofNat 0)).toNat x16)
      else none
     else none
    else none
   else none
  else
   if 0 ≤ d1_1 then
   if d1_1 < (↑x14.length : Int) then
    (det_Explore_int__2.f k d1_0 (x14.getD d1_1.toNat (Int.ofNat 0)) (Go.IntKind.i64.wrap ((↑x14.length : Int) + 1)) d1_0 d1_1 d1_2 d1_3 x14 c7).bind fun r5 =>
      some (r5.fst, r5.snd.fst, r5.snd.snd.snd.snd.snd.snd.snd.snd.snd.fst, r5.snd.snd.snd.snd.snd.snd.snd.snd.snd.snd)
    else none
   else none
end
def det_Smallest.f (k : Nat) (d0 : (Int × (Int × (List (List (Int)) × (List (Int) × Unit))))) : Option (Int × Int × List (List Int) × List Int) :=
 (det_Classes.f k (d0.fst, d0.snd.fst, d0.snd.snd.fst, d0.snd.snd.snd.fst, ())).bind fun r1 =>
  if 0 ≤ (↑r1.length : Int) then
  if (↑r1.length : Int) ≤ (↑r1.length : Int) then
   if (↑r1.length : Int) * ((↑8 : Int) + 1) ≤ 1099511627776 then
    det_Smallest.l4 k ((↑r1.length : Int)) 0 d0.fst d0.snd.fst d0.snd.snd.fst d0.snd.snd.snd.fst 0 0 r1 [] [] (List.replicate (↑r1.length : Int).toNat (Int.ofNat 0))
    else none
   else none
  else none

noncomputable def det_Smallest.body : Code := fnBody Try.f100
def det_Smallest.ti : Tm := ⟨[(0, .p (.pair (.int .i64) (.pair (.int .i64) (.pair (.slice (.slice (.int .i64))) (.pair (.slice (.int .i64)) .unit)))))], []⟩
def det_Smallest.to : Tm := ⟨[(0, .agg [.p (.int .i64), .p (.int .i64), .own 0, .own 1])], [.own (.slice (.int .i64)), .own (.int .i64)]⟩
def det_Smallest.rs (r : Int × Int × (List (List Int)) × (List Int)) : List Dat := [⟨(.int .i64), r.1⟩, ⟨(.int .i64), r.2.1⟩, ⟨(.slice (.slice (.int .i64))), r.2.2.1⟩, ⟨(.slice (.int .i64)), r.2.2.2⟩]
def det_Smallest.out (ds : List Dat) : Option (Int × Int × (List (List Int)) × (List Int)) := pop (.int .i64) ds fun x0 ds => pop (.int .i64) ds fun x1 ds => pop (.slice (.slice (.int .i64))) ds fun x2 ds => pop (.slice (.int .i64)) ds fun x3 ds => popN ds (some (x0, x1, x2, x3))
def det_Smallest.c (k : Nat) (ds : List Dat) : Option (Int × Int × (List (List Int)) × (List Int)) := pop (.pair (.int .i64) (.pair (.int .i64) (.pair (.slice (.slice (.int .i64))) (.pair (.slice (.int .i64)) .unit)))) ds fun x0 ds => popN ds (det_Smallest.f k x0)
def det_Smallest.g : Nat → List Dat → Option (Int × Int × (List (List Int)) × (List Int))
 | 0, _ => none
 | k + 1, ds => det_Smallest.c k ds
def det_Smallest.env (k : Nat) : Nat → List SV → List Chunk → KT (Int × Int × (List (List Int)) × (List Int)) → Option (Int × Int × (List (List Int)) × (List Int)) := (envC 112 5 det_Explore_int__2.ti det_Explore_int__2.to (fun ds K => pop (.int .i64) ds fun x0 ds => pop (.int .i64) ds fun x1 ds => pop (.int .i64) ds fun x2 ds => pop (.int .i64) ds fun x3 ds => pop (.int .i64) ds fun x4 ds => pop (.slice (.slice (.int .i64))) ds fun x5 ds => pop (.slice (.int .i64)) ds fun x6 ds => pop (.slice (.int .i64)) ds fun x7 ds => pop (.slice (.int .i64)) ds fun x8 ds => popN ds ((det_Explore_int__2.f k x0 x1 x2 x3 x4 x5 x6 x7 x8).bind fun r => K (det_Explore_int__2.rs r))) (envC 161 1 det_Classes.ti det_Classes.to (fun ds K => pop (.pair (.int .i64) (.pair (.int .i64) (.pair (.slice (.slice (.int .i64))) (.pair (.slice (.int .i64)) .unit)))) ds fun x0 ds => popN ds ((det_Classes.f k x0).bind fun r => K (det_Classes.rs r))) env0))
def det_Smallest.t9 : Tm := ⟨[(1, .ptr 0 0), (2, .ptr 1 0), (3, .ptr 2 0), (4, .ptr 3 0), (14, .own 4), (15, .p (.int .i64)), (16, .p (.int .i64))], [.box [.p (.int .i64), .p (.int .i64), .p (.slice (.slice (.int .i64))), .p (.slice (.int .i64))] 58, .box [.p (.int .i64), .p (.int .i64), .own 5, .own 6] 58, .box [.own 4] 23, .box [.own 7] 23, .own (.int .i64), .own (.slice (.int .i64)), .own (.int .i64), .own (.int .i64)]⟩
def det_Smallest.c9 (k : Nat) (ds : List Dat) : Option (Int × Int × (List (List Int)) × (List Int)) := pop (.int .i64) ds fun x0 ds => pop (.int .i64) ds fun x1 ds => pop (.int .i64) ds fun x2 ds => pop (.int .i64) ds fun x3 ds => pop (.slice (.slice (.int .i64))) ds fun x4 ds => pop (.slice (.int .i64)) ds fun x5 ds => pop (.int .i64) ds fun x6 ds => pop (.int .i64) ds fun x7 ds => pop (.slice (.int .i64)) ds fun x8 ds => pop (.slice (.slice (.int .i64))) ds fun x9 ds => pop (.slice (.int .i64)) ds fun x10 ds => pop (.slice (.int .i64)) ds fun x11 ds => popN ds (det_Smallest.l4 k x0 x1 x2 x3 x4 x5 x6 x7 x8 x9 x10 x11)
def det_Smallest.tbl : List (Nat × Tm × (Nat → List Dat → Option (Int × Int × (List (List Int)) × (List Int)))) := [(9, det_Smallest.t9, det_Smallest.c9)]
noncomputable abbrev det_Smallest.R (k : Nat) := run T (det_Smallest.env k) Try.f100.ntmps (cutE 0 det_Smallest.tbl k) (finE 0 det_Smallest.to det_Smallest.out) (fnRes Try.f100) [] 100000 true
theorem det_Smallest.e9 (k : Nat) (x0 : Int) (x1 : Int) (x2 : Int) (x3 : Int) (x4 : (List (List Int))) (x5 : (List Int)) (x6 : Int) (x7 : Int) (x8 : (List Int)) (x9 : (List (List Int))) (x10 : (List Int)) (x11 : (List Int)) : det_Smallest.l4 (k + 1) x0 x1 x2 x3 x4 x5 x6 x7 x8 x9 x10 x11 = det_Smallest.R k (start (stackOf 9 det_Smallest.body)) (det_Smallest.t9.fill [⟨(.int .i64), x0⟩, ⟨(.int .i64), x1⟩, ⟨(.int .i64), x2⟩, ⟨(.int .i64), x3⟩, ⟨(.slice (.slice (.int .i64))), x4⟩, ⟨(.slice (.int .i64)), x5⟩, ⟨(.int .i64), x6⟩, ⟨(.int .i64), x7⟩, ⟨(.slice (.int .i64)), x8⟩, ⟨(.slice (.slice (.int .i64))), x9⟩, ⟨(.slice (.int .i64)), x10⟩, ⟨(.slice (.int .i64)), x11⟩]) := by kernel_rfl
theorem det_Smallest.s9 : stackAt 9 det_Smallest.body [] = some (stackOf 9 det_Smallest.body) := by kernel_rfl
theorem det_Smallest.h9 (k : Nat) (ds : List Dat) (r : Int × Int × (List (List Int)) × (List Int)) (h : det_Smallest.c9 k ds = some r) : ∃ k', k' < k ∧ ∃ s, stackAt 9 det_Smallest.body [] = some s ∧ det_Smallest.R k' (start s) (det_Smallest.t9.fill ds) = some r := by
  unfold det_Smallest.c9 at h
  obtain ⟨x0, d0, rfl, h0⟩ := pop_some h
  obtain ⟨x1, d1, rfl, h1⟩ := pop_some h0
  obtain ⟨x2, d2, rfl, h2⟩ := pop_some h1
  obtain ⟨x3, d3, rfl, h3⟩ := pop_some h2
  obtain ⟨x4, d4, rfl, h4⟩ := pop_some h3
  obtain ⟨x5, d5, rfl, h5⟩ := pop_some h4
  obtain ⟨x6, d6, rfl, h6⟩ := pop_some h5
  obtain ⟨x7, d7, rfl, h7⟩ := pop_some h6
  obtain ⟨x8, d8, rfl, h8⟩ := pop_some h7
  obtain ⟨x9, d9, rfl, h9⟩ := pop_some h8
  obtain ⟨x10, d10, rfl, h10⟩ := pop_some h9
  obtain ⟨x11, d11, rfl, h11⟩ := pop_some h10
  obtain ⟨rfl, g⟩ := popN_some h11
  cases k with
  | zero => cases (show none = some r from g)
  | succ k => exact ⟨k, Nat.lt_succ_self k, _, det_Smallest.s9, (det_Smallest.e9 k x0 x1 x2 x3 x4 x5 x6 x7 x8 x9 x10 x11).symm.trans g⟩
theorem det_Smallest.e (k : Nat) (x0 : (Int × (Int × ((List (List Int)) × ((List Int) × Unit))))) : det_Smallest.f k x0 = det_Smallest.R k ([.code det_Smallest.body]) (det_Smallest.ti.fill [⟨(.pair (.int .i64) (.pair (.int .i64) (.pair (.slice (.slice (.int .i64))) (.pair (.slice (.int .i64)) .unit)))), x0⟩]) := by kernel_rfl
theorem det_Smallest.h (k : Nat) (ds : List Dat) (r : Int × Int × (List (List Int)) × (List Int)) (h : det_Smallest.g k ds = some r) : ∃ k', k' < k ∧ det_Smallest.R k' ([.code det_Smallest.body]) (det_Smallest.ti.fill ds) = some r := by
  cases k with
  | zero => cases (show none = some r from h)
  | succ k =>
  replace h : det_Smallest.c k ds = some r := h
  unfold det_Smallest.c at h
  obtain ⟨x0, d0, rfl, h0⟩ := pop_some h
  obtain ⟨rfl, g⟩ := popN_some h0
  exact ⟨k, Nat.lt_succ_self k, (det_Smallest.e k x0).symm.trans g⟩
theorem det_Smallest.o (ds : List Dat) (r : Int × Int × (List (List Int)) × (List Int)) (h : det_Smallest.out ds = some r) : ds = det_Smallest.rs r := by
  unfold det_Smallest.out at h
  obtain ⟨x0, d0, rfl, h0⟩ := pop_some h
  obtain ⟨x1, d1, rfl, h1⟩ := pop_some h0
  obtain ⟨x2, d2, rfl, h2⟩ := pop_some h1
  obtain ⟨x3, d3, rfl, h3⟩ := pop_some h2
  obtain ⟨rfl, g⟩ := popN_some h3
  cases g
  rfl
theorem det_Smallest.fn : FnOk Try.prog 100 Try.f100 det_Smallest.body Try.f100.ntmps 1 (fnRes Try.f100) :=
  fnOk_of (by kernel_rfl) (by kernel_rfl) (by kernel_rfl) (by kernel_rfl)
theorem det_Smallest.con' : ∀ k ds r, det_Smallest.g k ds = some r → Con Try.prog 100 1 det_Smallest.ti det_Smallest.to ds (det_Smallest.rs r) :=
  fun_ok (T := T) T_ok mixed det_Smallest.fn (env := det_Smallest.env) (tbl := det_Smallest.tbl) (gOut := det_Smallest.out) (nin := 0) (cuts := []) (fuel := 100000) rfl (by kernel_rfl) (by kernel_rfl) (by kernel_rfl) (fun x hx => by
    simp only [det_Smallest.tbl, List.mem_cons, List.not_mem_nil, or_false] at hx
    subst hx
    · exact det_Smallest.h9
) det_Smallest.o det_Smallest.h (fun k _ => by unfold det_Smallest.env; exact (envC_ok (fun ds K r h => by
    obtain ⟨x0, d0, rfl, h0⟩ := pop_some h
    obtain ⟨x1, d1, rfl, h1⟩ := pop_some h0
    obtain ⟨x2, d2, rfl, h2⟩ := pop_some h1
    obtain ⟨x3, d3, rfl, h3⟩ := pop_some h2
    obtain ⟨x4, d4, rfl, h4⟩ := pop_some h3
    obtain ⟨x5, d5, rfl, h5⟩ := pop_some h4
    obtain ⟨x6, d6, rfl, h6⟩ := pop_some h5
    obtain ⟨x7, d7, rfl, h7⟩ := pop_some h6
    obtain ⟨x8, d8, rfl, h8⟩ := pop_some h7
    obtain ⟨rfl, g⟩ := popN_some h8
    obtain ⟨r1, h1, h2⟩ := bind_some g
    exact ⟨_, h2, det_Explore_int__2.con k _ h1⟩) (envC_ok (fun ds K r h => by
    obtain ⟨x0, d0, rfl, h0⟩ := pop_some h
    obtain ⟨rfl, g⟩ := popN_some h0
    obtain ⟨r1, h1, h2⟩ := bind_some g
    exact ⟨_, h2, det_Classes.con k _ h1⟩) env0_ok)))
theorem det_Smallest.con (k : Nat) {x0 : (Int × (Int × ((List (List Int)) × ((List Int) × Unit))))} (r : Int × Int × (List (List Int)) × (List Int)) (h : det_Smallest.f k x0 = some r) : Con Try.prog 100 1 det_Smallest.ti det_Smallest.to [⟨(.pair (.int .i64) (.pair (.int .i64) (.pair (.slice (.slice (.int .i64))) (.pair (.slice (.int .i64)) .unit)))), x0⟩] (det_Smallest.rs r) :=
  det_Smallest.con' (k + 1) _ r (by show det_Smallest.c k _ = some r; unfold det_Smallest.c; simp only [pop_self, popN]; exact h)
mutual
def higman_sets.l3 : Nat → Int → List (Int) → Int → Int → Int → Int → List (List (Int)) → List (Int) → Int → Int → Int → List (List (Int)) → List (Int) → Option (Int × Int × List (List Int) × List Int)
 | 0, _, _, _, _, _, _, _, _, _, _, _, _, _ => none
 | k + 1, first1, x13, x14, x15, d3_0, d3_1, d3_2, d3_3, x6_0, x6_1, good7_0, c4, c5 =>
  if x15 < x14 then
   if 0 ≤ x15 then
   if x15 < (↑x13.length : Int) then
    if 0 ≤ x15 then
     higman_sets.l3 k first1 x13 x14 (Go.IntKind.i64.wrap (x15 + 1)) d3_0 d3_1 d3_2 d3_3 x6_0 x6_1 (Go.IntKind.i64.wrap (↑(BitVec.ofInt Go.IntKind.i64.bits good7_0 ||| BitVec.ofInt Go.IntKind.i64.bits (Go.IntKind.i64.wrap (Go.Proofs.YtiiioobebeaafaaSx.rd (Int.ofNat 0) x13 x15 * 2 ^ min x15.toNat Go.IntKind.i64.bits))).toNat : Int)) c4 c5
     else none
    else none
   else none
  else
   (det_Explore_int_.f k d3_0 first1 (Int.ofNat 64) d3_0 d3_1 d3_2 d3_3 good7_0).bind fun r3 =>
    (det_Smallest.f k (r3.fst, r3.snd.fst, r3.snd.snd.snd.snd.snd.snd.snd.snd.fst, r3.snd.snd.snd.snd.snd.snd.snd.snd.snd, ())).bind fun r4 =>
     some (r4.fst, r4.snd.fst, r4.snd.snd.fst, r4.snd.snd.snd)
end
def higman_sets.f (k : Nat) (d0 : (Int × (Int × (List (List (Int)) × (List (Int) × Unit))))) (first1 : Int) : Option (Int × Int × List (List Int) × List Int) :=
 higman_sets.l3 k first1 d0.snd.snd.snd.fst ((↑d0.snd.snd.snd.fst.length : Int)) 0 d0.fst d0.snd.fst d0.snd.snd.fst d0.snd.snd.snd.fst 0 0 0 [] []

noncomputable def higman_sets.body : Code := fnBody Try.f126
def higman_sets.ti : Tm := ⟨[(0, .p (.pair (.int .i64) (.pair (.int .i64) (.pair (.slice (.slice (.int .i64))) (.pair (.slice (.int .i64)) .unit))))), (1, .p (.int .i64)), (2, .fn 127 [])], []⟩
def higman_sets.to : Tm := ⟨[(0, .agg [.p (.int .i64), .p (.int .i64), .own 0, .own 1])], [.own (.slice (.int .i64)), .own (.int .i64)]⟩
def higman_sets.rs (r : Int × Int × (List (List Int)) × (List Int)) : List Dat := [⟨(.int .i64), r.1⟩, ⟨(.int .i64), r.2.1⟩, ⟨(.slice (.slice (.int .i64))), r.2.2.1⟩, ⟨(.slice (.int .i64)), r.2.2.2⟩]
def higman_sets.out (ds : List Dat) : Option (Int × Int × (List (List Int)) × (List Int)) := pop (.int .i64) ds fun x0 ds => pop (.int .i64) ds fun x1 ds => pop (.slice (.slice (.int .i64))) ds fun x2 ds => pop (.slice (.int .i64)) ds fun x3 ds => popN ds (some (x0, x1, x2, x3))
def higman_sets.c (k : Nat) (ds : List Dat) : Option (Int × Int × (List (List Int)) × (List Int)) := pop (.pair (.int .i64) (.pair (.int .i64) (.pair (.slice (.slice (.int .i64))) (.pair (.slice (.int .i64)) .unit)))) ds fun x0 ds => pop (.int .i64) ds fun x1 ds => popN ds (higman_sets.f k x0 x1)
def higman_sets.g : Nat → List Dat → Option (Int × Int × (List (List Int)) × (List Int))
 | 0, _ => none
 | k + 1, ds => higman_sets.c k ds
def higman_sets.env (k : Nat) : Nat → List SV → List Chunk → KT (Int × Int × (List (List Int)) × (List Int)) → Option (Int × Int × (List (List Int)) × (List Int)) := (envC 112 5 det_Explore_int_.ti det_Explore_int_.to (fun ds K => pop (.int .i64) ds fun x0 ds => pop (.int .i64) ds fun x1 ds => pop (.int .i64) ds fun x2 ds => pop (.int .i64) ds fun x3 ds => pop (.int .i64) ds fun x4 ds => pop (.slice (.slice (.int .i64))) ds fun x5 ds => pop (.slice (.int .i64)) ds fun x6 ds => pop (.int .i64) ds fun x7 ds => popN ds ((det_Explore_int_.f k x0 x1 x2 x3 x4 x5 x6 x7).bind fun r => K (det_Explore_int_.rs r))) (envC 100 1 det_Smallest.ti det_Smallest.to (fun ds K => pop (.pair (.int .i64) (.pair (.int .i64) (.pair (.slice (.slice (.int .i64))) (.pair (.slice (.int .i64)) .unit)))) ds fun x0 ds => popN ds ((det_Smallest.f k x0).bind fun r => K (det_Smallest.rs r))) env0))
def higman_sets.t7 : Tm := ⟨[(1, .p (.int .i64)), (3, .ptr 0 0), (5, .ptr 1 0), (6, .ptr 2 0), (7, .ptr 3 0), (13, .p (.slice (.int .i64))), (14, .p (.int .i64)), (15, .p (.int .i64))], [.box [.p (.int .i64), .p (.int .i64), .p (.slice (.slice (.int .i64))), .p (.slice (.int .i64))] 58, .box [.fn 127 []] 150, .box [.p (.int .i64), .p (.int .i64), .own 4, .own 5] 58, .box [.p (.int .i64)] 3, .own (.slice (.int .i64)), .own (.int .i64)]⟩
def higman_sets.c7 (k : Nat) (ds : List Dat) : Option (Int × Int × (List (List Int)) × (List Int)) := pop (.int .i64) ds fun x0 ds => pop (.slice (.int .i64)) ds fun x1 ds => pop (.int .i64) ds fun x2 ds => pop (.int .i64) ds fun x3 ds => pop (.int .i64) ds fun x4 ds => pop (.int .i64) ds fun x5 ds => pop (.slice (.slice (.int .i64))) ds fun x6 ds => pop (.slice (.int .i64)) ds fun x7 ds => pop (.int .i64) ds fun x8 ds => pop (.int .i64) ds fun x9 ds => pop (.int .i64) ds fun x10 ds => pop (.slice (.slice (.int .i64))) ds fun x11 ds => pop (.slice (.int .i64)) ds fun x12 ds => popN ds (higman_sets.l3 k x0 x1 x2 x3 x4 x5 x6 x7 x8 x9 x10 x11 x12)
def higman_sets.tbl : List (Nat × Tm × (Nat → List Dat → Option (Int × Int × (List (List Int)) × (List Int)))) := [(7, higman_sets.t7, higman_sets.c7)]
noncomputable abbrev higman_sets.R (k : Nat) := run T (higman_sets.env k) Try.f126.ntmps (cutE 0 higman_sets.tbl k) (finE 0 higman_sets.to higman_sets.out) (fnRes Try.f126) [] 100000 true
theorem higman_sets.e7 (k : Nat) (x0 : Int) (x1 : (List Int)) (x2 : Int) (x3 : Int) (x4 : Int) (x5 : Int) (x6 : (List (List Int))) (x7 : (List Int)) (x8 : Int) (x9 : Int) (x10 : Int) (x11 : (List (List Int))) (x12 : (List Int)) : higman_sets.l3 (k + 1) x0 x1 x2 x3 x4 x5 x6 x7 x8 x9 x10 x11 x12 = higman_sets.R k (start (stackOf 7 higman_sets.body)) (higman_sets.t7.fill [⟨(.int .i64), x0⟩, ⟨(.slice (.int .i64)), x1⟩, ⟨(.int .i64), x2⟩, ⟨(.int .i64), x3⟩, ⟨(.int .i64), x4⟩, ⟨(.int .i64), x5⟩, ⟨(.slice (.slice (.int .i64))), x6⟩, ⟨(.slice (.int .i64)), x7⟩, ⟨(.int .i64), x8⟩, ⟨(.int .i64), x9⟩, ⟨(.int .i64), x10⟩, ⟨(.slice (.slice (.int .i64))), x11⟩, ⟨(.slice (.int .i64)), x12⟩]) := by kernel_rfl
theorem higman_sets.s7 : stackAt 7 higman_sets.body [] = some (stackOf 7 higman_sets.body) := by kernel_rfl
theorem higman_sets.h7 (k : Nat) (ds : List Dat) (r : Int × Int × (List (List Int)) × (List Int)) (h : higman_sets.c7 k ds = some r) : ∃ k', k' < k ∧ ∃ s, stackAt 7 higman_sets.body [] = some s ∧ higman_sets.R k' (start s) (higman_sets.t7.fill ds) = some r := by
  unfold higman_sets.c7 at h
  obtain ⟨x0, d0, rfl, h0⟩ := pop_some h
  obtain ⟨x1, d1, rfl, h1⟩ := pop_some h0
  obtain ⟨x2, d2, rfl, h2⟩ := pop_some h1
  obtain ⟨x3, d3, rfl, h3⟩ := pop_some h2
  obtain ⟨x4, d4, rfl, h4⟩ := pop_some h3
  obtain ⟨x5, d5, rfl, h5⟩ := pop_some h4
  obtain ⟨x6, d6, rfl, h6⟩ := pop_some h5
  obtain ⟨x7, d7, rfl, h7⟩ := pop_some h6
  obtain ⟨x8, d8, rfl, h8⟩ := pop_some h7
  obtain ⟨x9, d9, rfl, h9⟩ := pop_some h8
  obtain ⟨x10, d10, rfl, h10⟩ := pop_some h9
  obtain ⟨x11, d11, rfl, h11⟩ := pop_some h10
  obtain ⟨x12, d12, rfl, h12⟩ := pop_some h11
  obtain ⟨rfl, g⟩ := popN_some h12
  cases k with
  | zero => cases (show none = some r from g)
  | succ k => exact ⟨k, Nat.lt_succ_self k, _, higman_sets.s7, (higman_sets.e7 k x0 x1 x2 x3 x4 x5 x6 x7 x8 x9 x10 x11 x12).symm.trans g⟩
theorem higman_sets.e (k : Nat) (x0 : (Int × (Int × ((List (List Int)) × ((List Int) × Unit))))) (x1 : Int) : higman_sets.f k x0 x1 = higman_sets.R k ([.code higman_sets.body]) (higman_sets.ti.fill [⟨(.pair (.int .i64) (.pair (.int .i64) (.pair (.slice (.slice (.int .i64))) (.pair (.slice (.int .i64)) .unit)))), x0⟩, ⟨(.int .i64), x1⟩]) := by kernel_rfl
theorem higman_sets.h (k : Nat) (ds : List Dat) (r : Int × Int × (List (List Int)) × (List Int)) (h : higman_sets.g k ds = some r) : ∃ k', k' < k ∧ higman_sets.R k' ([.code higman_sets.body]) (higman_sets.ti.fill ds) = some r := by
  cases k with
  | zero => cases (show none = some r from h)
  | succ k =>
  replace h : higman_sets.c k ds = some r := h
  unfold higman_sets.c at h
  obtain ⟨x0, d0, rfl, h0⟩ := pop_some h
  obtain ⟨x1, d1, rfl, h1⟩ := pop_some h0
  obtain ⟨rfl, g⟩ := popN_some h1
  exact ⟨k, Nat.lt_succ_self k, (higman_sets.e k x0 x1).symm.trans g⟩
theorem higman_sets.o (ds : List Dat) (r : Int × Int × (List (List Int)) × (List Int)) (h : higman_sets.out ds = some r) : ds = higman_sets.rs r := by
  unfold higman_sets.out at h
  obtain ⟨x0, d0, rfl, h0⟩ := pop_some h
  obtain ⟨x1, d1, rfl, h1⟩ := pop_some h0
  obtain ⟨x2, d2, rfl, h2⟩ := pop_some h1
  obtain ⟨x3, d3, rfl, h3⟩ := pop_some h2
  obtain ⟨rfl, g⟩ := popN_some h3
  cases g
  rfl
theorem higman_sets.fn : FnOk Try.prog 126 Try.f126 higman_sets.body Try.f126.ntmps 3 (fnRes Try.f126) :=
  fnOk_of (by kernel_rfl) (by kernel_rfl) (by kernel_rfl) (by kernel_rfl)
theorem higman_sets.con' : ∀ k ds r, higman_sets.g k ds = some r → Con Try.prog 126 3 higman_sets.ti higman_sets.to ds (higman_sets.rs r) :=
  fun_ok (T := T) T_ok mixed higman_sets.fn (env := higman_sets.env) (tbl := higman_sets.tbl) (gOut := higman_sets.out) (nin := 0) (cuts := []) (fuel := 100000) rfl (by kernel_rfl) (by kernel_rfl) (by kernel_rfl) (fun x hx => by
    simp only [higman_sets.tbl, List.mem_cons, List.not_mem_nil, or_false] at hx
    subst hx
    · exact higman_sets.h7
) higman_sets.o higman_sets.h (fun k _ => by unfold higman_sets.env; exact (envC_ok (fun ds K r h => by
    obtain ⟨x0, d0, rfl, h0⟩ := pop_some h
    obtain ⟨x1, d1, rfl, h1⟩ := pop_some h0
    obtain ⟨x2, d2, rfl, h2⟩ := pop_some h1
    obtain ⟨x3, d3, rfl, h3⟩ := pop_some h2
    obtain ⟨x4, d4, rfl, h4⟩ := pop_some h3
    obtain ⟨x5, d5, rfl, h5⟩ := pop_some h4
    obtain ⟨x6, d6, rfl, h6⟩ := pop_some h5
    obtain ⟨x7, d7, rfl, h7⟩ := pop_some h6
    obtain ⟨rfl, g⟩ := popN_some h7
    obtain ⟨r1, h1, h2⟩ := bind_some g
    exact ⟨_, h2, det_Explore_int_.con k _ h1⟩) (envC_ok (fun ds K r h => by
    obtain ⟨x0, d0, rfl, h0⟩ := pop_some h
    obtain ⟨rfl, g⟩ := popN_some h0
    obtain ⟨r1, h1, h2⟩ := bind_some g
    exact ⟨_, h2, det_Smallest.con k _ h1⟩) env0_ok)))
theorem higman_sets.con (k : Nat) {x0 : (Int × (Int × ((List (List Int)) × ((List Int) × Unit))))} {x1 : Int} (r : Int × Int × (List (List Int)) × (List Int)) (h : higman_sets.f k x0 x1 = some r) : Con Try.prog 126 3 higman_sets.ti higman_sets.to [⟨(.pair (.int .i64) (.pair (.int .i64) (.pair (.slice (.slice (.int .i64))) (.pair (.slice (.int .i64)) .unit)))), x0⟩, ⟨(.int .i64), x1⟩] (higman_sets.rs r) :=
  higman_sets.con' (k + 1) _ r (by show higman_sets.c k _ = some r; unfold higman_sets.c; simp only [pop_self, popN]; exact h)
def higman_Up.f (k : Nat) (d0 : (Int × (Int × (List (List (Int)) × (List (Int) × Unit))))) : Option (Int × Int × Int × List (List Int) × List Int) :=
 (higman_small.f k (d0.fst, d0.snd.fst, d0.snd.snd.fst, d0.snd.snd.snd.fst, ())).bind fun r1 =>
  if r1 = 0 then
   if 0 ≤ d0.snd.fst then
   (higman_sets.f k (d0.fst, d0.snd.fst, d0.snd.snd.fst, d0.snd.snd.snd.fst, ()) (Go.IntKind.i64.wrap (1 * 2 ^ min d0.snd.fst.toNat Go.IntKind.i64.bits))).bind fun r4 =>
     some (r4.fst, r4.snd.fst, 0, r4.snd.snd.fst, r4.snd.snd.snd)
   else none
  else
   some (0, 0, r1, [], [])

noncomputable def higman_Up.body : Code := fnBody Try.f59
def higman_Up.ti : Tm := ⟨[(0, .p (.pair (.int .i64) (.pair (.int .i64) (.pair (.slice (.slice (.int .i64))) (.pair (.slice (.int .i64)) .unit)))))], []⟩
def higman_Up.to : Tm := ⟨[(0, .agg [.p (.int .i64), .p (.int .i64), .own 0, .own 1]), (1, .p (.int .i64))], [.own (.slice (.int .i64)), .own (.int .i64)]⟩
def higman_Up.rs (r : Int × Int × Int × (List (List Int)) × (List Int)) : List Dat := [⟨(.int .i64), r.1⟩, ⟨(.int .i64), r.2.1⟩, ⟨(.int .i64), r.2.2.1⟩, ⟨(.slice (.slice (.int .i64))), r.2.2.2.1⟩, ⟨(.slice (.int .i64)), r.2.2.2.2⟩]
def higman_Up.out (ds : List Dat) : Option (Int × Int × Int × (List (List Int)) × (List Int)) := pop (.int .i64) ds fun x0 ds => pop (.int .i64) ds fun x1 ds => pop (.int .i64) ds fun x2 ds => pop (.slice (.slice (.int .i64))) ds fun x3 ds => pop (.slice (.int .i64)) ds fun x4 ds => popN ds (some (x0, x1, x2, x3, x4))
def higman_Up.c (k : Nat) (ds : List Dat) : Option (Int × Int × Int × (List (List Int)) × (List Int)) := pop (.pair (.int .i64) (.pair (.int .i64) (.pair (.slice (.slice (.int .i64))) (.pair (.slice (.int .i64)) .unit)))) ds fun x0 ds => popN ds (higman_Up.f k x0)
def higman_Up.g : Nat → List Dat → Option (Int × Int × Int × (List (List Int)) × (List Int))
 | 0, _ => none
 | k + 1, ds => higman_Up.c k ds
def higman_Up.env (k : Nat) : Nat → List SV → List Chunk → KT (Int × Int × Int × (List (List Int)) × (List Int)) → Option (Int × Int × Int × (List (List Int)) × (List Int)) := (envC 125 1 higman_small.ti higman_small.to (fun ds K => pop (.pair (.int .i64) (.pair (.int .i64) (.pair (.slice (.slice (.int .i64))) (.pair (.slice (.int .i64)) .unit)))) ds fun x0 ds => popN ds ((higman_small.f k x0).bind fun r => K (higman_small.rs r))) (envC 126 3 higman_sets.ti higman_sets.to (fun ds K => pop (.pair (.int .i64) (.pair (.int .i64) (.pair (.slice (.slice (.int .i64))) (.pair (.slice (.int .i64)) .unit)))) ds fun x0 ds => pop (.int .i64) ds fun x1 ds => popN ds ((higman_sets.f k x0 x1).bind fun r => K (higman_sets.rs r))) env0))
def higman_Up.tbl : List (Nat × Tm × (Nat → List Dat → Option (Int × Int × Int × (List (List Int)) × (List Int)))) := []
noncomputable abbrev higman_Up.R (k : Nat) := run T (higman_Up.env k) Try.f59.ntmps (cutE 0 higman_Up.tbl k) (finE 0 higman_Up.to higman_Up.out) (fnRes Try.f59) [] 100000 true
theorem higman_Up.e (k : Nat) (x0 : (Int × (Int × ((List (List Int)) × ((List Int) × Unit))))) : higman_Up.f k x0 = higman_Up.R k ([.code higman_Up.body]) (higman_Up.ti.fill [⟨(.pair (.int .i64) (.pair (.int .i64) (.pair (.slice (.slice (.int .i64))) (.pair (.slice (.int .i64)) .unit)))), x0⟩]) := by kernel_rfl
theorem higman_Up.h (k : Nat) (ds : List Dat) (r : Int × Int × Int × (List (List Int)) × (List Int)) (h : higman_Up.g k ds = some r) : ∃ k', k' < k ∧ higman_Up.R k' ([.code higman_Up.body]) (higman_Up.ti.fill ds) = some r := by
  cases k with
  | zero => cases (show none = some r from h)
  | succ k =>
  replace h : higman_Up.c k ds = some r := h
  unfold higman_Up.c at h
  obtain ⟨x0, d0, rfl, h0⟩ := pop_some h
  obtain ⟨rfl, g⟩ := popN_some h0
  exact ⟨k, Nat.lt_succ_self k, (higman_Up.e k x0).symm.trans g⟩
theorem higman_Up.o (ds : List Dat) (r : Int × Int × Int × (List (List Int)) × (List Int)) (h : higman_Up.out ds = some r) : ds = higman_Up.rs r := by
  unfold higman_Up.out at h
  obtain ⟨x0, d0, rfl, h0⟩ := pop_some h
  obtain ⟨x1, d1, rfl, h1⟩ := pop_some h0
  obtain ⟨x2, d2, rfl, h2⟩ := pop_some h1
  obtain ⟨x3, d3, rfl, h3⟩ := pop_some h2
  obtain ⟨x4, d4, rfl, h4⟩ := pop_some h3
  obtain ⟨rfl, g⟩ := popN_some h4
  cases g
  rfl
theorem higman_Up.fn : FnOk Try.prog 59 Try.f59 higman_Up.body Try.f59.ntmps 1 (fnRes Try.f59) :=
  fnOk_of (by kernel_rfl) (by kernel_rfl) (by kernel_rfl) (by kernel_rfl)
theorem higman_Up.con' : ∀ k ds r, higman_Up.g k ds = some r → Con Try.prog 59 1 higman_Up.ti higman_Up.to ds (higman_Up.rs r) :=
  fun_ok (T := T) T_ok mixed higman_Up.fn (env := higman_Up.env) (tbl := higman_Up.tbl) (gOut := higman_Up.out) (nin := 0) (cuts := []) (fuel := 100000) rfl (by kernel_rfl) (by kernel_rfl) (by kernel_rfl) (fun x hx => by simp [higman_Up.tbl] at hx) higman_Up.o higman_Up.h (fun k _ => by unfold higman_Up.env; exact (envC_ok (fun ds K r h => by
    obtain ⟨x0, d0, rfl, h0⟩ := pop_some h
    obtain ⟨rfl, g⟩ := popN_some h0
    obtain ⟨r1, h1, h2⟩ := bind_some g
    exact ⟨_, h2, higman_small.con k _ h1⟩) (envC_ok (fun ds K r h => by
    obtain ⟨x0, d0, rfl, h0⟩ := pop_some h
    obtain ⟨x1, d1, rfl, h1⟩ := pop_some h0
    obtain ⟨rfl, g⟩ := popN_some h1
    obtain ⟨r1, h1, h2⟩ := bind_some g
    exact ⟨_, h2, higman_sets.con k _ h1⟩) env0_ok)))
theorem higman_Up.con (k : Nat) {x0 : (Int × (Int × ((List (List Int)) × ((List Int) × Unit))))} (r : Int × Int × Int × (List (List Int)) × (List Int)) (h : higman_Up.f k x0 = some r) : Con Try.prog 59 1 higman_Up.ti higman_Up.to [⟨(.pair (.int .i64) (.pair (.int .i64) (.pair (.slice (.slice (.int .i64))) (.pair (.slice (.int .i64)) .unit)))), x0⟩] (higman_Up.rs r) :=
  higman_Up.con' (k + 1) _ r (by show higman_Up.c k _ = some r; unfold higman_Up.c; simp only [pop_self, popN]; exact h)
mutual
def higman_ahead.l1 : Nat → Int → Int → Int → List (List (Int)) → List (Int) → Option (Int)
 | 0, _, _, _, _, _ => none
 | k + 1, set1, d2_0, d2_1, d2_2, d2_3 =>
  higman_ahead.l3 k set1 set1 d2_2 ((↑d2_2.length : Int)) 0 d2_0 d2_1 d2_2 d2_3
def higman_ahead.l3 : Nat → Int → Int → List (List (Int)) → Int → Int → Int → Int → List (List (Int)) → List (Int) → Option (Int)
 | 0, _, _, _, _, _, _, _, _, _ => none
 | k + 1, set1, next5, x12, x13, x14, d2_0, d2_1, d2_2, d2_3 =>
  if x14 < x13 then
   if 0 ≤ x14 then
   if x14 < (↑x12.length : Int) then
    higman_ahead.l6 k set1 next5 x14 x12 x13 x14 (Go.Proofs.YtiiioobebeaafaaSx.rd [] x12 x14) ((↑(Go.Proofs.YtiiioobebeaafaaSx.rd [] x12 x14).length : Int)) 0 d2_0 d2_1 d2_2 d2_3
    else none
   else none
  else
   if next5 = set1 then
    some (set1)
   else
    higman_ahead.l1 k next5 d2_0 d2_1 d2_2 d2_3
def higman_ahead.l6 : Nat → Int → Int → Int → List (List (Int)) → Int → Int → List (Int) → Int → Int → Int → Int → List (List (Int)) → List (Int) → Option (Int)
 | 0, _, _, _, _, _, _, _, _, _, _, _, _, _ => none
 | k + 1, set1, next5, q6, x12, x13, x14, x19, x20, x21, d2_0, d2_1, d2_2, d2_3 =>
  if x21 < x20 then
   if 0 ≤ x21 then
   if x21 < (↑x19.length : Int) then
    if 0 ≤ q6 then
     if Go.IntKind.i64.wrap (↑(BitVec.ofInt Go.IntKind.i64.bits (set1.fdiv (2 ^ min q6.toNat Go.IntKind.i64.bits)) &&& BitVec.ofInt Go.IntKind.i64.bits 1).toNat : Int) = 1 then
       if 0 ≤ Go.Proofs.YtiiioobebeaafaaSx.rd (Int.ofNat 0) x19 x21 then
       higman_ahead.j10 k set1 (Go.IntKind.i64.wrap (↑(BitVec.ofInt Go.IntKind.i64.bits next5 ||| BitVec.ofInt Go.IntKind.i64.bits (Go.IntKind.i64.wrap (1 * 2 ^ min (Go.Proofs.YtiiioobebeaafaaSx.rd (Int.ofNat 0) x19 x21).toNat Go.IntKind.i64.bits))).toNat : Int)) q6 x12 x13 x14 x19 x20 x21 d2_0 d2_1 d2_2 d2_3
       else none
      else
       higman_ahead.j10 k set1 next5 q6 x12 x13 x14 x19 x20 x21 d2_0 d2_1 d2_2 d2_3
     else none
    else none
   else none
  else
   higman_ahead.l3 k set1 next5 x12 x13 (Go.IntKind.i64.wrap (x14 + 1)) d2_0 d2_1 d2_2 d2_3
def higman_ahead.j10 : Nat → Int → Int → Int → List (List (Int)) → Int → Int → List (Int) → Int → Int → Int → Int → List (List (Int)) → List (Int) → Option (Int)
 | 0, _, _, _, _, _, _, _, _, _, _, _, _, _ => none
 | k + 1, set1, next5, q6, x12, x13, x14, x19, x20, x21, d2_0, d2_1, d2_2, d2_3 =>
  higman_ahead.l6 k set1 next5 q6 x12 x13 x14 x19 x20 (Go.IntKind.i64.wrap (x21 + 1)) d2_0 d2_1 d2_2 d2_3
end
def higman_ahead.f (k : Nat) (d0 : (Int × (Int × (List (List (Int)) × (List (Int) × Unit))))) (set1 : Int) : Option (Int) :=
 higman_ahead.l1 k set1 d0.fst d0.snd.fst d0.snd.snd.fst d0.snd.snd.snd.fst

noncomputable def higman_ahead.body : Code := fnBody Try.f128
def higman_ahead.ti : Tm := ⟨[(0, .p (.pair (.int .i64) (.pair (.int .i64) (.pair (.slice (.slice (.int .i64))) (.pair (.slice (.int .i64)) .unit))))), (1, .p (.int .i64))], []⟩
def higman_ahead.to : Tm := ⟨[(0, .p (.int .i64))], []⟩
def higman_ahead.rs (r : Int) : List Dat := [⟨(.int .i64), r⟩]
def higman_ahead.out (ds : List Dat) : Option (Int) := pop (.int .i64) ds fun x0 ds => popN ds (some (x0))
def higman_ahead.c (k : Nat) (ds : List Dat) : Option (Int) := pop (.pair (.int .i64) (.pair (.int .i64) (.pair (.slice (.slice (.int .i64))) (.pair (.slice (.int .i64)) .unit)))) ds fun x0 ds => pop (.int .i64) ds fun x1 ds => popN ds (higman_ahead.f k x0 x1)
def higman_ahead.g : Nat → List Dat → Option (Int)
 | 0, _ => none
 | k + 1, ds => higman_ahead.c k ds
def higman_ahead.env (k : Nat) : Nat → List SV → List Chunk → KT (Int) → Option (Int) := env0
def higman_ahead.t3 : Tm := ⟨[(1, .p (.int .i64)), (2, .ptr 0 0)], [.box [.p (.int .i64), .p (.int .i64), .p (.slice (.slice (.int .i64))), .p (.slice (.int .i64))] 58]⟩
def higman_ahead.c3 (k : Nat) (ds : List Dat) : Option (Int) := pop (.int .i64) ds fun x0 ds => pop (.int .i64) ds fun x1 ds => pop (.int .i64) ds fun x2 ds => pop (.slice (.slice (.int .i64))) ds fun x3 ds => pop (.slice (.int .i64)) ds fun x4 ds => popN ds (higman_ahead.l1 k x0 x1 x2 x3 x4)
def higman_ahead.t7 : Tm := ⟨[(1, .p (.int .i64)), (2, .ptr 0 0), (5, .p (.int .i64)), (12, .p (.slice (.slice (.int .i64)))), (13, .p (.int .i64)), (14, .p (.int .i64))], [.box [.p (.int .i64), .p (.int .i64), .p (.slice (.slice (.int .i64))), .p (.slice (.int .i64))] 58]⟩
def higman_ahead.c7 (k : Nat) (ds : List Dat) : Option (Int) := pop (.int .i64) ds fun x0 ds => pop (.int .i64) ds fun x1 ds => pop (.slice (.slice (.int .i64))) ds fun x2 ds => pop (.int .i64) ds fun x3 ds => pop (.int .i64) ds fun x4 ds => pop (.int .i64) ds fun x5 ds => pop (.int .i64) ds fun x6 ds => pop (.slice (.slice (.int .i64))) ds fun x7 ds => pop (.slice (.int .i64)) ds fun x8 ds => popN ds (higman_ahead.l3 k x0 x1 x2 x3 x4 x5 x6 x7 x8)
def higman_ahead.t13 : Tm := ⟨[(1, .p (.int .i64)), (2, .ptr 0 0), (5, .p (.int .i64)), (6, .p (.int .i64)), (12, .p (.slice (.slice (.int .i64)))), (13, .p (.int .i64)), (14, .p (.int .i64)), (19, .p (.slice (.int .i64))), (20, .p (.int .i64)), (21, .p (.int .i64))], [.box [.p (.int .i64), .p (.int .i64), .p (.slice (.slice (.int .i64))), .p (.slice (.int .i64))] 58]⟩
def higman_ahead.c13 (k : Nat) (ds : List Dat) : Option (Int) := pop (.int .i64) ds fun x0 ds => pop (.int .i64) ds fun x1 ds => pop (.int .i64) ds fun x2 ds => pop (.slice (.slice (.int .i64))) ds fun x3 ds => pop (.int .i64) ds fun x4 ds => pop (.int .i64) ds fun x5 ds => pop (.slice (.int .i64)) ds fun x6 ds => pop (.int .i64) ds fun x7 ds => pop (.int .i64) ds fun x8 ds => pop (.int .i64) ds fun x9 ds => pop (.int .i64) ds fun x10 ds => pop (.slice (.slice (.int .i64))) ds fun x11 ds => pop (.slice (.int .i64)) ds fun x12 ds => popN ds (higman_ahead.l6 k x0 x1 x2 x3 x4 x5 x6 x7 x8 x9 x10 x11 x12)
def higman_ahead.t20 : Tm := ⟨[(1, .p (.int .i64)), (2, .ptr 0 0), (5, .p (.int .i64)), (6, .p (.int .i64)), (12, .p (.slice (.slice (.int .i64)))), (13, .p (.int .i64)), (14, .p (.int .i64)), (19, .p (.slice (.int .i64))), (20, .p (.int .i64)), (21, .p (.int .i64))], [.box [.p (.int .i64), .p (.int .i64), .p (.slice (.slice (.int .i64))), .p (.slice (.int .i64))] 58]⟩
def higman_ahead.c20 (k : Nat) (ds : List Dat) : Option (Int) := pop (.int .i64) ds fun x0 ds => pop (.int .i64) ds fun x1 ds => pop (.int .i64) ds fun x2 ds => pop (.slice (.slice (.int .i64))) ds fun x3 ds => pop (.int .i64) ds fun x4 ds => pop (.int .i64) ds fun x5 ds => pop (.slice (.int .i64)) ds fun x6 ds => pop (.int .i64) ds fun x7 ds => pop (.int .i64) ds fun x8 ds => pop (.int .i64) ds fun x9 ds => pop (.int .i64) ds fun x10 ds => pop (.slice (.slice (.int .i64))) ds fun x11 ds => pop (.slice (.int .i64)) ds fun x12 ds => popN ds (higman_ahead.j10 k x0 x1 x2 x3 x4 x5 x6 x7 x8 x9 x10 x11 x12)
def higman_ahead.tbl : List (Nat × Tm × (Nat → List Dat → Option (Int))) := [(3, higman_ahead.t3, higman_ahead.c3), (7, higman_ahead.t7, higman_ahead.c7), (13, higman_ahead.t13, higman_ahead.c13), (20, higman_ahead.t20, higman_ahead.c20)]
noncomputable abbrev higman_ahead.R (k : Nat) := run T (higman_ahead.env k) Try.f128.ntmps (cutE 0 higman_ahead.tbl k) (finE 0 higman_ahead.to higman_ahead.out) (fnRes Try.f128) [10] 100000 true
theorem higman_ahead.e3 (k : Nat) (x0 : Int) (x1 : Int) (x2 : Int) (x3 : (List (List Int))) (x4 : (List Int)) : higman_ahead.l1 (k + 1) x0 x1 x2 x3 x4 = higman_ahead.R k (start (stackOf 3 higman_ahead.body)) (higman_ahead.t3.fill [⟨(.int .i64), x0⟩, ⟨(.int .i64), x1⟩, ⟨(.int .i64), x2⟩, ⟨(.slice (.slice (.int .i64))), x3⟩, ⟨(.slice (.int .i64)), x4⟩]) := by kernel_rfl
theorem higman_ahead.s3 : stackAt 3 higman_ahead.body [] = some (stackOf 3 higman_ahead.body) := by kernel_rfl
theorem higman_ahead.h3 (k : Nat) (ds : List Dat) (r : Int) (h : higman_ahead.c3 k ds = some r) : ∃ k', k' < k ∧ ∃ s, stackAt 3 higman_ahead.body [] = some s ∧ higman_ahead.R k' (start s) (higman_ahead.t3.fill ds) = some r := by
  unfold higman_ahead.c3 at h
  obtain ⟨x0, d0, rfl, h0⟩ := pop_some h
  obtain ⟨x1, d1, rfl, h1⟩ := pop_some h0
  obtain ⟨x2, d2, rfl, h2⟩ := pop_some h1
  obtain ⟨x3, d3, rfl, h3⟩ := pop_some h2
  obtain ⟨x4, d4, rfl, h4⟩ := pop_some h3
  obtain ⟨rfl, g⟩ := popN_some h4
  cases k with
  | zero => cases (show none = some r from g)
  | succ k => exact ⟨k, Nat.lt_succ_self k, _, higman_ahead.s3, (higman_ahead.e3 k x0 x1 x2 x3 x4).symm.trans g⟩
theorem higman_ahead.e7 (k : Nat) (x0 : Int) (x1 : Int) (x2 : (List (List Int))) (x3 : Int) (x4 : Int) (x5 : Int) (x6 : Int) (x7 : (List (List Int))) (x8 : (List Int)) : higman_ahead.l3 (k + 1) x0 x1 x2 x3 x4 x5 x6 x7 x8 = higman_ahead.R k (start (stackOf 7 higman_ahead.body)) (higman_ahead.t7.fill [⟨(.int .i64), x0⟩, ⟨(.int .i64), x1⟩, ⟨(.slice (.slice (.int .i64))), x2⟩, ⟨(.int .i64), x3⟩, ⟨(.int .i64), x4⟩, ⟨(.int .i64), x5⟩, ⟨(.int .i64), x6⟩, ⟨(.slice (.slice (.int .i64))), x7⟩, ⟨(.slice (.int .i64)), x8⟩]) := by kernel_rfl
theorem higman_ahead.s7 : stackAt 7 higman_ahead.body [] = some (stackOf 7 higman_ahead.body) := by kernel_rfl
theorem higman_ahead.h7 (k : Nat) (ds : List Dat) (r : Int) (h : higman_ahead.c7 k ds = some r) : ∃ k', k' < k ∧ ∃ s, stackAt 7 higman_ahead.body [] = some s ∧ higman_ahead.R k' (start s) (higman_ahead.t7.fill ds) = some r := by
  unfold higman_ahead.c7 at h
  obtain ⟨x0, d0, rfl, h0⟩ := pop_some h
  obtain ⟨x1, d1, rfl, h1⟩ := pop_some h0
  obtain ⟨x2, d2, rfl, h2⟩ := pop_some h1
  obtain ⟨x3, d3, rfl, h3⟩ := pop_some h2
  obtain ⟨x4, d4, rfl, h4⟩ := pop_some h3
  obtain ⟨x5, d5, rfl, h5⟩ := pop_some h4
  obtain ⟨x6, d6, rfl, h6⟩ := pop_some h5
  obtain ⟨x7, d7, rfl, h7⟩ := pop_some h6
  obtain ⟨x8, d8, rfl, h8⟩ := pop_some h7
  obtain ⟨rfl, g⟩ := popN_some h8
  cases k with
  | zero => cases (show none = some r from g)
  | succ k => exact ⟨k, Nat.lt_succ_self k, _, higman_ahead.s7, (higman_ahead.e7 k x0 x1 x2 x3 x4 x5 x6 x7 x8).symm.trans g⟩
theorem higman_ahead.e13 (k : Nat) (x0 : Int) (x1 : Int) (x2 : Int) (x3 : (List (List Int))) (x4 : Int) (x5 : Int) (x6 : (List Int)) (x7 : Int) (x8 : Int) (x9 : Int) (x10 : Int) (x11 : (List (List Int))) (x12 : (List Int)) : higman_ahead.l6 (k + 1) x0 x1 x2 x3 x4 x5 x6 x7 x8 x9 x10 x11 x12 = higman_ahead.R k (start (stackOf 13 higman_ahead.body)) (higman_ahead.t13.fill [⟨(.int .i64), x0⟩, ⟨(.int .i64), x1⟩, ⟨(.int .i64), x2⟩, ⟨(.slice (.slice (.int .i64))), x3⟩, ⟨(.int .i64), x4⟩, ⟨(.int .i64), x5⟩, ⟨(.slice (.int .i64)), x6⟩, ⟨(.int .i64), x7⟩, ⟨(.int .i64), x8⟩, ⟨(.int .i64), x9⟩, ⟨(.int .i64), x10⟩, ⟨(.slice (.slice (.int .i64))), x11⟩, ⟨(.slice (.int .i64)), x12⟩]) := by kernel_rfl
theorem higman_ahead.s13 : stackAt 13 higman_ahead.body [] = some (stackOf 13 higman_ahead.body) := by kernel_rfl
theorem higman_ahead.h13 (k : Nat) (ds : List Dat) (r : Int) (h : higman_ahead.c13 k ds = some r) : ∃ k', k' < k ∧ ∃ s, stackAt 13 higman_ahead.body [] = some s ∧ higman_ahead.R k' (start s) (higman_ahead.t13.fill ds) = some r := by
  unfold higman_ahead.c13 at h
  obtain ⟨x0, d0, rfl, h0⟩ := pop_some h
  obtain ⟨x1, d1, rfl, h1⟩ := pop_some h0
  obtain ⟨x2, d2, rfl, h2⟩ := pop_some h1
  obtain ⟨x3, d3, rfl, h3⟩ := pop_some h2
  obtain ⟨x4, d4, rfl, h4⟩ := pop_some h3
  obtain ⟨x5, d5, rfl, h5⟩ := pop_some h4
  obtain ⟨x6, d6, rfl, h6⟩ := pop_some h5
  obtain ⟨x7, d7, rfl, h7⟩ := pop_some h6
  obtain ⟨x8, d8, rfl, h8⟩ := pop_some h7
  obtain ⟨x9, d9, rfl, h9⟩ := pop_some h8
  obtain ⟨x10, d10, rfl, h10⟩ := pop_some h9
  obtain ⟨x11, d11, rfl, h11⟩ := pop_some h10
  obtain ⟨x12, d12, rfl, h12⟩ := pop_some h11
  obtain ⟨rfl, g⟩ := popN_some h12
  cases k with
  | zero => cases (show none = some r from g)
  | succ k => exact ⟨k, Nat.lt_succ_self k, _, higman_ahead.s13, (higman_ahead.e13 k x0 x1 x2 x3 x4 x5 x6 x7 x8 x9 x10 x11 x12).symm.trans g⟩
theorem higman_ahead.e20 (k : Nat) (x0 : Int) (x1 : Int) (x2 : Int) (x3 : (List (List Int))) (x4 : Int) (x5 : Int) (x6 : (List Int)) (x7 : Int) (x8 : Int) (x9 : Int) (x10 : Int) (x11 : (List (List Int))) (x12 : (List Int)) : higman_ahead.j10 (k + 1) x0 x1 x2 x3 x4 x5 x6 x7 x8 x9 x10 x11 x12 = higman_ahead.R k (start (stackOf 20 higman_ahead.body)) (higman_ahead.t20.fill [⟨(.int .i64), x0⟩, ⟨(.int .i64), x1⟩, ⟨(.int .i64), x2⟩, ⟨(.slice (.slice (.int .i64))), x3⟩, ⟨(.int .i64), x4⟩, ⟨(.int .i64), x5⟩, ⟨(.slice (.int .i64)), x6⟩, ⟨(.int .i64), x7⟩, ⟨(.int .i64), x8⟩, ⟨(.int .i64), x9⟩, ⟨(.int .i64), x10⟩, ⟨(.slice (.slice (.int .i64))), x11⟩, ⟨(.slice (.int .i64)), x12⟩]) := by kernel_rfl
theorem higman_ahead.s20 : stackAt 20 higman_ahead.body [] = some (stackOf 20 higman_ahead.body) := by kernel_rfl
theorem higman_ahead.h20 (k : Nat) (ds : List Dat) (r : Int) (h : higman_ahead.c20 k ds = some r) : ∃ k', k' < k ∧ ∃ s, stackAt 20 higman_ahead.body [] = some s ∧ higman_ahead.R k' (start s) (higman_ahead.t20.fill ds) = some r := by
  unfold higman_ahead.c20 at h
  obtain ⟨x0, d0, rfl, h0⟩ := pop_some h
  obtain ⟨x1, d1, rfl, h1⟩ := pop_some h0
  obtain ⟨x2, d2, rfl, h2⟩ := pop_some h1
  obtain ⟨x3, d3, rfl, h3⟩ := pop_some h2
  obtain ⟨x4, d4, rfl, h4⟩ := pop_some h3
  obtain ⟨x5, d5, rfl, h5⟩ := pop_some h4
  obtain ⟨x6, d6, rfl, h6⟩ := pop_some h5
  obtain ⟨x7, d7, rfl, h7⟩ := pop_some h6
  obtain ⟨x8, d8, rfl, h8⟩ := pop_some h7
  obtain ⟨x9, d9, rfl, h9⟩ := pop_some h8
  obtain ⟨x10, d10, rfl, h10⟩ := pop_some h9
  obtain ⟨x11, d11, rfl, h11⟩ := pop_some h10
  obtain ⟨x12, d12, rfl, h12⟩ := pop_some h11
  obtain ⟨rfl, g⟩ := popN_some h12
  cases k with
  | zero => cases (show none = some r from g)
  | succ k => exact ⟨k, Nat.lt_succ_self k, _, higman_ahead.s20, (higman_ahead.e20 k x0 x1 x2 x3 x4 x5 x6 x7 x8 x9 x10 x11 x12).symm.trans g⟩
theorem higman_ahead.e (k : Nat) (x0 : (Int × (Int × ((List (List Int)) × ((List Int) × Unit))))) (x1 : Int) : higman_ahead.f k x0 x1 = higman_ahead.R k ([.code higman_ahead.body]) (higman_ahead.ti.fill [⟨(.pair (.int .i64) (.pair (.int .i64) (.pair (.slice (.slice (.int .i64))) (.pair (.slice (.int .i64)) .unit)))), x0⟩, ⟨(.int .i64), x1⟩]) := by kernel_rfl
theorem higman_ahead.h (k : Nat) (ds : List Dat) (r : Int) (h : higman_ahead.g k ds = some r) : ∃ k', k' < k ∧ higman_ahead.R k' ([.code higman_ahead.body]) (higman_ahead.ti.fill ds) = some r := by
  cases k with
  | zero => cases (show none = some r from h)
  | succ k =>
  replace h : higman_ahead.c k ds = some r := h
  unfold higman_ahead.c at h
  obtain ⟨x0, d0, rfl, h0⟩ := pop_some h
  obtain ⟨x1, d1, rfl, h1⟩ := pop_some h0
  obtain ⟨rfl, g⟩ := popN_some h1
  exact ⟨k, Nat.lt_succ_self k, (higman_ahead.e k x0 x1).symm.trans g⟩
theorem higman_ahead.o (ds : List Dat) (r : Int) (h : higman_ahead.out ds = some r) : ds = higman_ahead.rs r := by
  unfold higman_ahead.out at h
  obtain ⟨x0, d0, rfl, h0⟩ := pop_some h
  obtain ⟨rfl, g⟩ := popN_some h0
  cases g
  rfl
theorem higman_ahead.fn : FnOk Try.prog 128 Try.f128 higman_ahead.body Try.f128.ntmps 2 (fnRes Try.f128) :=
  fnOk_of (by kernel_rfl) (by kernel_rfl) (by kernel_rfl) (by kernel_rfl)
theorem higman_ahead.con' : ∀ k ds r, higman_ahead.g k ds = some r → Con Try.prog 128 2 higman_ahead.ti higman_ahead.to ds (higman_ahead.rs r) :=
  fun_ok (T := T) T_ok mixed higman_ahead.fn (env := higman_ahead.env) (tbl := higman_ahead.tbl) (gOut := higman_ahead.out) (nin := 0) (cuts := [10]) (fuel := 100000) rfl (by kernel_rfl) (by kernel_rfl) (by kernel_rfl) (fun x hx => by
    simp only [higman_ahead.tbl, List.mem_cons, List.not_mem_nil, or_false] at hx
    rcases hx with rfl | rfl | rfl | rfl
    · exact higman_ahead.h3
    · exact higman_ahead.h7
    · exact higman_ahead.h13
    · exact higman_ahead.h20
) higman_ahead.o higman_ahead.h (fun k _ => by unfold higman_ahead.env; exact env0_ok)
theorem higman_ahead.con (k : Nat) {x0 : (Int × (Int × ((List (List Int)) × ((List Int) × Unit))))} {x1 : Int} (r : Int) (h : higman_ahead.f k x0 x1 = some r) : Con Try.prog 128 2 higman_ahead.ti higman_ahead.to [⟨(.pair (.int .i64) (.pair (.int .i64) (.pair (.slice (.slice (.int .i64))) (.pair (.slice (.int .i64)) .unit)))), x0⟩, ⟨(.int .i64), x1⟩] (higman_ahead.rs r) :=
  higman_ahead.con' (k + 1) _ r (by show higman_ahead.c k _ = some r; unfold higman_ahead.c; simp only [pop_self, popN]; exact h)
def higman_Down_1.f (k : Nat) (_0 : Int) (next1 : Int) (x2_0 : Int) (x2_1 : Int) (x2_2 : List (List (Int))) (x2_3 : List (Int)) : Option (Int × Int × Int × List (List Int) × List Int) :=
 (higman_ahead.f k (x2_0, x2_1, x2_2, x2_3, ()) next1).bind fun r1 =>
  some (r1, x2_0, x2_1, x2_2, x2_3)

noncomputable def higman_Down_1.body : Code := fnBody Try.f129
def higman_Down_1.ti : Tm := ⟨[(0, .p (.int .i64)), (1, .p (.int .i64)), (2, .ptr 0 0)], [.box [.p (.int .i64), .p (.int .i64), .p (.slice (.slice (.int .i64))), .p (.slice (.int .i64))] 58]⟩
def higman_Down_1.to : Tm := ⟨[(0, .p (.int .i64))], [.box [.p (.int .i64), .p (.int .i64), .p (.slice (.slice (.int .i64))), .p (.slice (.int .i64))] 58]⟩
def higman_Down_1.rs (r : Int × Int × Int × (List (List Int)) × (List Int)) : List Dat := [⟨(.int .i64), r.1⟩, ⟨(.int .i64), r.2.1⟩, ⟨(.int .i64), r.2.2.1⟩, ⟨(.slice (.slice (.int .i64))), r.2.2.2.1⟩, ⟨(.slice (.int .i64)), r.2.2.2.2⟩]
def higman_Down_1.out (ds : List Dat) : Option (Int × Int × Int × (List (List Int)) × (List Int)) := pop (.int .i64) ds fun x0 ds => pop (.int .i64) ds fun x1 ds => pop (.int .i64) ds fun x2 ds => pop (.slice (.slice (.int .i64))) ds fun x3 ds => pop (.slice (.int .i64)) ds fun x4 ds => popN ds (some (x0, x1, x2, x3, x4))
def higman_Down_1.c (k : Nat) (ds : List Dat) : Option (Int × Int × Int × (List (List Int)) × (List Int)) := pop (.int .i64) ds fun x0 ds => pop (.int .i64) ds fun x1 ds => pop (.int .i64) ds fun x2 ds => pop (.int .i64) ds fun x3 ds => pop (.slice (.slice (.int .i64))) ds fun x4 ds => pop (.slice (.int .i64)) ds fun x5 ds => popN ds (higman_Down_1.f k x0 x1 x2 x3 x4 x5)
def higman_Down_1.g : Nat → List Dat → Option (Int × Int × Int × (List (List Int)) × (List Int))
 | 0, _ => none
 | k + 1, ds => higman_Down_1.c k ds
def higman_Down_1.env (k : Nat) : Nat → List SV → List Chunk → KT (Int × Int × Int × (List (List Int)) × (List Int)) → Option (Int × Int × Int × (List (List Int)) × (List Int)) := (envC 128 2 higman_ahead.ti higman_ahead.to (fun ds K => pop (.pair (.int .i64) (.pair (.int .i64) (.pair (.slice (.slice (.int .i64))) (.pair (.slice (.int .i64)) .unit)))) ds fun x0 ds => pop (.int .i64) ds fun x1 ds => popN ds ((higman_ahead.f k x0 x1).bind fun r => K (higman_ahead.rs r))) env0)
def higman_Down_1.tbl : List (Nat × Tm × (Nat → List Dat → Option (Int × Int × Int × (List (List Int)) × (List Int)))) := []
noncomputable abbrev higman_Down_1.R (k : Nat) := run T (higman_Down_1.env k) Try.f129.ntmps (cutE 1 higman_Down_1.tbl k) (finE 1 higman_Down_1.to higman_Down_1.out) (fnRes Try.f129) [] 100000 true
theorem higman_Down_1.e (k : Nat) (x0 : Int) (x1 : Int) (x2 : Int) (x3 : Int) (x4 : (List (List Int))) (x5 : (List Int)) : higman_Down_1.f k x0 x1 x2 x3 x4 x5 = higman_Down_1.R k ([.code higman_Down_1.body]) (higman_Down_1.ti.fill [⟨(.int .i64), x0⟩, ⟨(.int .i64), x1⟩, ⟨(.int .i64), x2⟩, ⟨(.int .i64), x3⟩, ⟨(.slice (.slice (.int .i64))), x4⟩, ⟨(.slice (.int .i64)), x5⟩]) := by kernel_rfl
theorem higman_Down_1.h (k : Nat) (ds : List Dat) (r : Int × Int × Int × (List (List Int)) × (List Int)) (h : higman_Down_1.g k ds = some r) : ∃ k', k' < k ∧ higman_Down_1.R k' ([.code higman_Down_1.body]) (higman_Down_1.ti.fill ds) = some r := by
  cases k with
  | zero => cases (show none = some r from h)
  | succ k =>
  replace h : higman_Down_1.c k ds = some r := h
  unfold higman_Down_1.c at h
  obtain ⟨x0, d0, rfl, h0⟩ := pop_some h
  obtain ⟨x1, d1, rfl, h1⟩ := pop_some h0
  obtain ⟨x2, d2, rfl, h2⟩ := pop_some h1
  obtain ⟨x3, d3, rfl, h3⟩ := pop_some h2
  obtain ⟨x4, d4, rfl, h4⟩ := pop_some h3
  obtain ⟨x5, d5, rfl, h5⟩ := pop_some h4
  obtain ⟨rfl, g⟩ := popN_some h5
  exact ⟨k, Nat.lt_succ_self k, (higman_Down_1.e k x0 x1 x2 x3 x4 x5).symm.trans g⟩
theorem higman_Down_1.o (ds : List Dat) (r : Int × Int × Int × (List (List Int)) × (List Int)) (h : higman_Down_1.out ds = some r) : ds = higman_Down_1.rs r := by
  unfold higman_Down_1.out at h
  obtain ⟨x0, d0, rfl, h0⟩ := pop_some h
  obtain ⟨x1, d1, rfl, h1⟩ := pop_some h0
  obtain ⟨x2, d2, rfl, h2⟩ := pop_some h1
  obtain ⟨x3, d3, rfl, h3⟩ := pop_some h2
  obtain ⟨x4, d4, rfl, h4⟩ := pop_some h3
  obtain ⟨rfl, g⟩ := popN_some h4
  cases g
  rfl
theorem higman_Down_1.fn : FnOk Try.prog 129 Try.f129 higman_Down_1.body Try.f129.ntmps 3 (fnRes Try.f129) :=
  fnOk_of (by kernel_rfl) (by kernel_rfl) (by kernel_rfl) (by kernel_rfl)
theorem higman_Down_1.con' : ∀ k ds r, higman_Down_1.g k ds = some r → Con Try.prog 129 3 higman_Down_1.ti higman_Down_1.to ds (higman_Down_1.rs r) :=
  fun_ok (T := T) T_ok mixed higman_Down_1.fn (env := higman_Down_1.env) (tbl := higman_Down_1.tbl) (gOut := higman_Down_1.out) (nin := 1) (cuts := []) (fuel := 100000) rfl (by kernel_rfl) (by kernel_rfl) (by kernel_rfl) (fun x hx => by simp [higman_Down_1.tbl] at hx) higman_Down_1.o higman_Down_1.h (fun k _ => by unfold higman_Down_1.env; exact (envC_ok (fun ds K r h => by
    obtain ⟨x0, d0, rfl, h0⟩ := pop_some h
    obtain ⟨x1, d1, rfl, h1⟩ := pop_some h0
    obtain ⟨rfl, g⟩ := popN_some h1
    obtain ⟨r1, h1, h2⟩ := bind_some g
    exact ⟨_, h2, higman_ahead.con k _ h1⟩) env0_ok))
theorem higman_Down_1.con (k : Nat) {x0 : Int} {x1 : Int} {x2 : Int} {x3 : Int} {x4 : (List (List Int))} {x5 : (List Int)} (r : Int × Int × Int × (List (List Int)) × (List Int)) (h : higman_Down_1.f k x0 x1 x2 x3 x4 x5 = some r) : Con Try.prog 129 3 higman_Down_1.ti higman_Down_1.to [⟨(.int .i64), x0⟩, ⟨(.int .i64), x1⟩, ⟨(.int .i64), x2⟩, ⟨(.int .i64), x3⟩, ⟨(.slice (.slice (.int .i64))), x4⟩, ⟨(.slice (.int .i64)), x5⟩] (higman_Down_1.rs r) :=
  higman_Down_1.con' (k + 1) _ r (by show higman_Down_1.c k _ = some r; unfold higman_Down_1.c; simp only [pop_self, popN]; exact h)
mutual
def higman_sets_1_2.l3 : Nat → Int → Int → Int → List (List (Int)) → Int → Int → Int → Int → List (List (Int)) → List (Int) → Int → Int → List (List (Int)) → List (Int) → Option (Int × Int × Int × List (List Int) × List Int × Int × Int × List (List Int) × List Int)
 | 0, _, _, _, _, _, _, _, _, _, _, _, _, _, _ => none
 | k + 1, set0, letter1, next7, x11, x12, x13, c0_0, c0_1, c0_2, c0_3, c2_0, c2_1, c2_2, c2_3 =>
  if x13 < x12 then
   if 0 ≤ x13 then
   if x13 < (↑x11.length : Int) then
    if 0 ≤ x13 then
     if Go.IntKind.i64.wrap (↑(BitVec.ofInt Go.IntKind.i64.bits (set0.fdiv (2 ^ min x13.toNat Go.IntKind.i64.bits)) &&& BitVec.ofInt Go.IntKind.i64.bits 1).toNat : Int) = 1 then
       if 0 ≤ letter1 then
       if letter1 < (↑(Go.Proofs.YtiiioobebeaafaaSx.rd [] x11 x13).length : Int) then
        if 0 ≤ Go.Proofs.YtiiioobebeaafaaSx.rd (Int.ofNat 0) (Go.Proofs.YtiiioobebeaafaaSx.rd [] x11 x13) letter1 then
         higman_sets_1_2.j7 k set0 letter1 (Go.IntKind.i64.wrap (↑(BitVec.ofInt Go.IntKind.i64.bits next7 ||| BitVec.ofInt Go.IntKind.i64.bits (Go.IntKind.i64.wrap (1 * 2 ^ min (Go.Proofs.YtiiioobebeaafaaSx.rd (Int.ofNat 0) (Go.Proofs.YtiiioobebeaafaaSx.rd [] x11 x13) letter1).toNat Go.IntKind.i64.bits))).toNat : Int)) x11 x12 x13 c0_0 c0_1 c0_2 c0_3 c2_0 c2_1 c2_2 c2_3
         else none
        else none
       else none
      else
       higman_sets_1_2.j7 k set0 letter1 next7 x11 x12 x13 c0_0 c0_1 c0_2 c0_3 c2_0 c2_1 c2_2 c2_3
     else none
    else none
   else none
  else
   (higman_Down_1.f k set0 next7 c2_0 c2_1 c2_2 c2_3).bind fun r3 =>
    some (r3.fst, c0_0, c0_1, c0_2, c0_3, r3.snd.fst, r3.snd.snd.fst, r3.snd.snd.snd.fst, r3.snd.snd.snd.snd)
def higman_sets_1_2.j7 : Nat → Int → Int → Int → List (List (Int)) → Int → Int → Int → Int → List (List (Int)) → List (Int) → Int → Int → List (List (Int)) → List (Int) → Option (Int × Int × Int × List (List Int) × List Int × Int × Int × List (List Int) × List Int)
 | 0, _, _, _, _, _, _, _, _, _, _, _, _, _, _ => none
 | k + 1, set0, letter1, next7, x11, x12, x13, c0_0, c0_1, c0_2, c0_3, c2_0, c2_1, c2_2, c2_3 =>
  higman_sets_1_2.l3 k set0 letter1 next7 x11 x12 (Go.IntKind.i64.wrap (x13 + 1)) c0_0 c0_1 c0_2 c0_3 c2_0 c2_1 c2_2 c2_3
end
def higman_sets_1_2.f (k : Nat) (set0 : Int) (letter1 : Int) (x2_0 : Int) (x2_1 : Int) (x2_2 : List (List (Int))) (x2_3 : List (Int)) (c2_0 : Int) (c2_1 : Int) (c2_2 : List (List (Int))) (c2_3 : List (Int)) : Option (Int × Int × Int × List (List Int) × List Int × Int × Int × List (List Int) × List Int) :=
 higman_sets_1_2.l3 k set0 letter1 0 x2_2 ((↑x2_2.length : Int)) 0 x2_0 x2_1 x2_2 x2_3 c2_0 c2_1 c2_2 c2_3

noncomputable def higman_sets_1_2.body : Code := fnBody Try.f173
def higman_sets_1_2.ti : Tm := ⟨[(0, .p (.int .i64)), (1, .p (.int .i64)), (2, .ptr 0 0), (3, .ptr 1 0)], [.box [.p (.int .i64), .p (.int .i64), .p (.slice (.slice (.int .i64))), .p (.slice (.int .i64))] 58, .box [.fn 129 [.ptr 2 0]] 150, .box [.p (.int .i64), .p (.int .i64), .p (.slice (.slice (.int .i64))), .p (.slice (.int .i64))] 58]⟩
def higman_sets_1_2.to : Tm := ⟨[(0, .p (.int .i64))], [.box [.p (.int .i64), .p (.int .i64), .p (.slice (.slice (.int .i64))), .p (.slice (.int .i64))] 58, .box [.fn 129 [.ptr 2 0]] 150, .box [.p (.int .i64), .p (.int .i64), .p (.slice (.slice (.int .i64))), .p (.slice (.int .i64))] 58]⟩
def higman_sets_1_2.rs (r : Int × Int × Int × (List (List Int)) × (List Int) × Int × Int × (List (List Int)) × (List Int)) : List Dat := [⟨(.int .i64), r.1⟩, ⟨(.int .i64), r.2.1⟩, ⟨(.int .i64), r.2.2.1⟩, ⟨(.slice (.slice (.int .i64))), r.2.2.2.1⟩, ⟨(.slice (.int .i64)), r.2.2.2.2.1⟩, ⟨(.int .i64), r.2.2.2.2.2.1⟩, ⟨(.int .i64), r.2.2.2.2.2.2.1⟩, ⟨(.slice (.slice (.int .i64))), r.2.2.2.2.2.2.2.1⟩, ⟨(.slice (.int .i64)), r.2.2.2.2.2.2.2.2⟩]
def higman_sets_1_2.out (ds : List Dat) : Option (Int × Int × Int × (List (List Int)) × (List Int) × Int × Int × (List (List Int)) × (List Int)) := pop (.int .i64) ds fun x0 ds => pop (.int .i64) ds fun x1 ds => pop (.int .i64) ds fun x2 ds => pop (.slice (.slice (.int .i64))) ds fun x3 ds => pop (.slice (.int .i64)) ds fun x4 ds => pop (.int .i64) ds fun x5 ds => pop (.int .i64) ds fun x6 ds => pop (.slice (.slice (.int .i64))) ds fun x7 ds => pop (.slice (.int .i64)) ds fun x8 ds => popN ds (some (x0, x1, x2, x3, x4, x5, x6, x7, x8))
def higman_sets_1_2.c (k : Nat) (ds : List Dat) : Option (Int × Int × Int × (List (List Int)) × (List Int) × Int × Int × (List (List Int)) × (List Int)) := pop (.int .i64) ds fun x0 ds => pop (.int .i64) ds fun x1 ds => pop (.int .i64) ds fun x2 ds => pop (.int .i64) ds fun x3 ds => pop (.slice (.slice (.int .i64))) ds fun x4 ds => pop (.slice (.int .i64)) ds fun x5 ds => pop (.int .i64) ds fun x6 ds => pop (.int .i64) ds fun x7 ds => pop (.slice (.slice (.int .i64))) ds fun x8 ds => pop (.slice (.int .i64)) ds fun x9 ds => popN ds (higman_sets_1_2.f k x0 x1 x2 x3 x4 x5 x6 x7 x8 x9)
def higman_sets_1_2.g : Nat → List Dat → Option (Int × Int × Int × (List (List Int)) × (List Int) × Int × Int × (List (List Int)) × (List Int))
 | 0, _ => none
 | k + 1, ds => higman_sets_1_2.c k ds
def higman_sets_1_2.env (k : Nat) : Nat → List SV → List Chunk → KT (Int × Int × Int × (List (List Int)) × (List Int) × Int × Int × (List (List Int)) × (List Int)) → Option (Int × Int × Int × (List (List Int)) × (List Int) × Int × Int × (List (List Int)) × (List Int)) := (envC 129 3 higman_Down_1.ti higman_Down_1.to (fun ds K => pop (.int .i64) ds fun x0 ds => pop (.int .i64) ds fun x1 ds => pop (.int .i64) ds fun x2 ds => pop (.int .i64) ds fun x3 ds => pop (.slice (.slice (.int .i64))) ds fun x4 ds => pop (.slice (.int .i64)) ds fun x5 ds => popN ds ((higman_Down_1.f k x0 x1 x2 x3 x4 x5).bind fun r => K (higman_Down_1.rs r))) env0)
def higman_sets_1_2.t7 : Tm := ⟨[(0, .p (.int .i64)), (1, .p (.int .i64)), (3, .ptr 1 0), (7, .p (.int .i64)), (11, .p (.slice (.slice (.int .i64)))), (12, .p (.int .i64)), (13, .p (.int .i64))], [.box [.p (.int .i64), .p (.int .i64), .p (.slice (.slice (.int .i64))), .p (.slice (.int .i64))] 58, .box [.fn 129 [.ptr 2 0]] 150, .box [.p (.int .i64), .p (.int .i64), .p (.slice (.slice (.int .i64))), .p (.slice (.int .i64))] 58]⟩
def higman_sets_1_2.c7 (k : Nat) (ds : List Dat) : Option (Int × Int × Int × (List (List Int)) × (List Int) × Int × Int × (List (List Int)) × (List Int)) := pop (.int .i64) ds fun x0 ds => pop (.int .i64) ds fun x1 ds => pop (.int .i64) ds fun x2 ds => pop (.slice (.slice (.int .i64))) ds fun x3 ds => pop (.int .i64) ds fun x4 ds => pop (.int .i64) ds fun x5 ds => pop (.int .i64) ds fun x6 ds => pop (.int .i64) ds fun x7 ds => pop (.slice (.slice (.int .i64))) ds fun x8 ds => pop (.slice (.int .i64)) ds fun x9 ds => pop (.int .i64) ds fun x10 ds => pop (.int .i64) ds fun x11 ds => pop (.slice (.slice (.int .i64))) ds fun x12 ds => pop (.slice (.int .i64)) ds fun x13 ds => popN ds (higman_sets_1_2.l3 k x0 x1 x2 x3 x4 x5 x6 x7 x8 x9 x10 x11 x12 x13)
def higman_sets_1_2.t14 : Tm := ⟨[(0, .p (.int .i64)), (1, .p (.int .i64)), (3, .ptr 1 0), (7, .p (.int .i64)), (11, .p (.slice (.slice (.int .i64)))), (12, .p (.int .i64)), (13, .p (.int .i64))], [.box [.p (.int .i64), .p (.int .i64), .p (.slice (.slice (.int .i64))), .p (.slice (.int .i64))] 58, .box [.fn 129 [.ptr 2 0]] 150, .box [.p (.int .i64), .p (.int .i64), .p (.slice (.slice (.int .i64))), .p (.slice (.int .i64))] 58]⟩
def higman_sets_1_2.c14 (k : Nat) (ds : List Dat) : Option (Int × Int × Int × (List (List Int)) × (List Int) × Int × Int × (List (List Int)) × (List Int)) := pop (.int .i64) ds fun x0 ds => pop (.int .i64) ds fun x1 ds => pop (.int .i64) ds fun x2 ds => pop (.slice (.slice (.int .i64))) ds fun x3 ds => pop (.int .i64) ds fun x4 ds => pop (.int .i64) ds fun x5 ds => pop (.int .i64) ds fun x6 ds => pop (.int .i64) ds fun x7 ds => pop (.slice (.slice (.int .i64))) ds fun x8 ds => pop (.slice (.int .i64)) ds fun x9 ds => pop (.int .i64) ds fun x10 ds => pop (.int .i64) ds fun x11 ds => pop (.slice (.slice (.int .i64))) ds fun x12 ds => pop (.slice (.int .i64)) ds fun x13 ds => popN ds (higman_sets_1_2.j7 k x0 x1 x2 x3 x4 x5 x6 x7 x8 x9 x10 x11 x12 x13)
def higman_sets_1_2.tbl : List (Nat × Tm × (Nat → List Dat → Option (Int × Int × Int × (List (List Int)) × (List Int) × Int × Int × (List (List Int)) × (List Int)))) := [(7, higman_sets_1_2.t7, higman_sets_1_2.c7), (14, higman_sets_1_2.t14, higman_sets_1_2.c14)]
noncomputable abbrev higman_sets_1_2.R (k : Nat) := run T (higman_sets_1_2.env k) Try.f173.ntmps (cutE 3 higman_sets_1_2.tbl k) (finE 3 higman_sets_1_2.to higman_sets_1_2.out) (fnRes Try.f173) [7] 100000 true
theorem higman_sets_1_2.e7 (k : Nat) (x0 : Int) (x1 : Int) (x2 : Int) (x3 : (List (List Int))) (x4 : Int) (x5 : Int) (x6 : Int) (x7 : Int) (x8 : (List (List Int))) (x9 : (List Int)) (x10 : Int) (x11 : Int) (x12 : (List (List Int))) (x13 : (List Int)) : higman_sets_1_2.l3 (k + 1) x0 x1 x2 x3 x4 x5 x6 x7 x8 x9 x10 x11 x12 x13 = higman_sets_1_2.R k (start (stackOf 7 higman_sets_1_2.body)) (higman_sets_1_2.t7.fill [⟨(.int .i64), x0⟩, ⟨(.int .i64), x1⟩, ⟨(.int .i64), x2⟩, ⟨(.slice (.slice (.int .i64))), x3⟩, ⟨(.int .i64), x4⟩, ⟨(.int .i64), x5⟩, ⟨(.int .i64), x6⟩, ⟨(.int .i64), x7⟩, ⟨(.slice (.slice (.int .i64))), x8⟩, ⟨(.slice (.int .i64)), x9⟩, ⟨(.int .i64), x10⟩, ⟨(.int .i64), x11⟩, ⟨(.slice (.slice (.int .i64))), x12⟩, ⟨(.slice (.int .i64)), x13⟩]) := by kernel_rfl
theorem higman_sets_1_2.s7 : stackAt 7 higman_sets_1_2.body [] = some (stackOf 7 higman_sets_1_2.body) := by kernel_rfl
theorem higman_sets_1_2.h7 (k : Nat) (ds : List Dat) (r : Int × Int × Int × (List (List Int)) × (List Int) × Int × Int × (List (List Int)) × (List Int)) (h : higman_sets_1_2.c7 k ds = some r) : ∃ k', k' < k ∧ ∃ s, stackAt 7 higman_sets_1_2.body [] = some s ∧ higman_sets_1_2.R k' (start s) (higman_sets_1_2.t7.fill ds) = some r := by
  unfold higman_sets_1_2.c7 at h
  obtain ⟨x0, d0, rfl, h0⟩ := pop_some h
  obtain ⟨x1, d1, rfl, h1⟩ := pop_some h0
  obtain ⟨x2, d2, rfl, h2⟩ := pop_some h1
  obtain ⟨x3, d3, rfl, h3⟩ := pop_some h2
  obtain ⟨x4, d4, rfl, h4⟩ := pop_some h3
  obtain ⟨x5, d5, rfl, h5⟩ := pop_some h4
  obtain ⟨x6, d6, rfl, h6⟩ := pop_some h5
  obtain ⟨x7, d7, rfl, h7⟩ := pop_some h6
  obtain ⟨x8, d8, rfl, h8⟩ := pop_some h7
  obtain ⟨x9, d9, rfl, h9⟩ := pop_some h8
  obtain ⟨x10, d10, rfl, h10⟩ := pop_some h9
  obtain ⟨x11, d11, rfl, h11⟩ := pop_some h10
  obtain ⟨x12, d12, rfl, h12⟩ := pop_some h11
  obtain ⟨x13, d13, rfl, h13⟩ := pop_some h12
  obtain ⟨rfl, g⟩ := popN_some h13
  cases k with
  | zero => cases (show none = some r from g)
  | succ k => exact ⟨k, Nat.lt_succ_self k, _, higman_sets_1_2.s7, (higman_sets_1_2.e7 k x0 x1 x2 x3 x4 x5 x6 x7 x8 x9 x10 x11 x12 x13).symm.trans g⟩
theorem higman_sets_1_2.e14 (k : Nat) (x0 : Int) (x1 : Int) (x2 : Int) (x3 : (List (List Int))) (x4 : Int) (x5 : Int) (x6 : Int) (x7 : Int) (x8 : (List (List Int))) (x9 : (List Int)) (x10 : Int) (x11 : Int) (x12 : (List (List Int))) (x13 : (List Int)) : higman_sets_1_2.j7 (k + 1) x0 x1 x2 x3 x4 x5 x6 x7 x8 x9 x10 x11 x12 x13 = higman_sets_1_2.R k (start (stackOf 14 higman_sets_1_2.body)) (higman_sets_1_2.t14.fill [⟨(.int .i64), x0⟩, ⟨(.int .i64), x1⟩, ⟨(.int .i64), x2⟩, ⟨(.slice (.slice (.int .i64))), x3⟩, ⟨(.int .i64), x4⟩, ⟨(.int .i64), x5⟩, ⟨(.int .i64), x6⟩, ⟨(.int .i64), x7⟩, ⟨(.slice (.slice (.int .i64))), x8⟩, ⟨(.slice (.int .i64)), x9⟩, ⟨(.int .i64), x10⟩, ⟨(.int .i64), x11⟩, ⟨(.slice (.slice (.int .i64))), x12⟩, ⟨(.slice (.int .i64)), x13⟩]) := by kernel_rfl
theorem higman_sets_1_2.s14 : stackAt 14 higman_sets_1_2.body [] = some (stackOf 14 higman_sets_1_2.body) := by kernel_rfl
theorem higman_sets_1_2.h14 (k : Nat) (ds : List Dat) (r : Int × Int × Int × (List (List Int)) × (List Int) × Int × Int × (List (List Int)) × (List Int)) (h : higman_sets_1_2.c14 k ds = some r) : ∃ k', k' < k ∧ ∃ s, stackAt 14 higman_sets_1_2.body [] = some s ∧ higman_sets_1_2.R k' (start s) (higman_sets_1_2.t14.fill ds) = some r := by
  unfold higman_sets_1_2.c14 at h
  obtain ⟨x0, d0, rfl, h0⟩ := pop_some h
  obtain ⟨x1, d1, rfl, h1⟩ := pop_some h0
  obtain ⟨x2, d2, rfl, h2⟩ := pop_some h1
  obtain ⟨x3, d3, rfl, h3⟩ := pop_some h2
  obtain ⟨x4, d4, rfl, h4⟩ := pop_some h3
  obtain ⟨x5, d5, rfl, h5⟩ := pop_some h4
  obtain ⟨x6, d6, rfl, h6⟩ := pop_some h5
  obtain ⟨x7, d7, rfl, h7⟩ := pop_some h6
  obtain ⟨x8, d8, rfl, h8⟩ := pop_some h7
  obtain ⟨x9, d9, rfl, h9⟩ := pop_some h8
  obtain ⟨x10, d10, rfl, h10⟩ := pop_some h9
  obtain ⟨x11, d11, rfl, h11⟩ := pop_some h10
  obtain ⟨x12, d12, rfl, h12⟩ := pop_some h11
  obtain ⟨x13, d13, rfl, h13⟩ := pop_some h12
  obtain ⟨rfl, g⟩ := popN_some h13
  cases k with
  | zero => cases (show none = some r from g)
  | succ k => exact ⟨k, Nat.lt_succ_self k, _, higman_sets_1_2.s14, (higman_sets_1_2.e14 k x0 x1 x2 x3 x4 x5 x6 x7 x8 x9 x10 x11 x12 x13).symm.trans g⟩
theorem higman_sets_1_2.e (k : Nat) (x0 : Int) (x1 : Int) (x2 : Int) (x3 : Int) (x4 : (List (List Int))) (x5 : (List Int)) (x6 : Int) (x7 : Int) (x8 : (List (List Int))) (x9 : (List Int)) : higman_sets_1_2.f k x0 x1 x2 x3 x4 x5 x6 x7 x8 x9 = higman_sets_1_2.R k ([.code higman_sets_1_2.body]) (higman_sets_1_2.ti.fill [⟨(.int .i64), x0⟩, ⟨(.int .i64), x1⟩, ⟨(.int .i64), x2⟩, ⟨(.int .i64), x3⟩, ⟨(.slice (.slice (.int .i64))), x4⟩, ⟨(.slice (.int .i64)), x5⟩, ⟨(.int .i64), x6⟩, ⟨(.int .i64), x7⟩, ⟨(.slice (.slice (.int .i64))), x8⟩, ⟨(.slice (.int .i64)), x9⟩]) := by kernel_rfl
theorem higman_sets_1_2.h (k : Nat) (ds : List Dat) (r : Int × Int × Int × (List (List Int)) × (List Int) × Int × Int × (List (List Int)) × (List Int)) (h : higman_sets_1_2.g k ds = some r) : ∃ k', k' < k ∧ higman_sets_1_2.R k' ([.code higman_sets_1_2.body]) (higman_sets_1_2.ti.fill ds) = some r := by
  cases k with
  | zero => cases (show none = some r from h)
  | succ k =>
  replace h : higman_sets_1_2.c k ds = some r := h
  unfold higman_sets_1_2.c at h
  obtain ⟨x0, d0, rfl, h0⟩ := pop_some h
  obtain ⟨x1, d1, rfl, h1⟩ := pop_some h0
  obtain ⟨x2, d2, rfl, h2⟩ := pop_some h1
  obtain ⟨x3, d3, rfl, h3⟩ := pop_some h2
  obtain ⟨x4, d4, rfl, h4⟩ := pop_some h3
  obtain ⟨x5, d5, rfl, h5⟩ := pop_some h4
  obtain ⟨x6, d6, rfl, h6⟩ := pop_some h5
  obtain ⟨x7, d7, rfl, h7⟩ := pop_some h6
  obtain ⟨x8, d8, rfl, h8⟩ := pop_some h7
  obtain ⟨x9, d9, rfl, h9⟩ := pop_some h8
  obtain ⟨rfl, g⟩ := popN_some h9
  exact ⟨k, Nat.lt_succ_self k, (higman_sets_1_2.e k x0 x1 x2 x3 x4 x5 x6 x7 x8 x9).symm.trans g⟩
theorem higman_sets_1_2.o (ds : List Dat) (r : Int × Int × Int × (List (List Int)) × (List Int) × Int × Int × (List (List Int)) × (List Int)) (h : higman_sets_1_2.out ds = some r) : ds = higman_sets_1_2.rs r := by
  unfold higman_sets_1_2.out at h
  obtain ⟨x0, d0, rfl, h0⟩ := pop_some h
  obtain ⟨x1, d1, rfl, h1⟩ := pop_some h0
  obtain ⟨x2, d2, rfl, h2⟩ := pop_some h1
  obtain ⟨x3, d3, rfl, h3⟩ := pop_some h2
  obtain ⟨x4, d4, rfl, h4⟩ := pop_some h3
  obtain ⟨x5, d5, rfl, h5⟩ := pop_some h4
  obtain ⟨x6, d6, rfl, h6⟩ := pop_some h5
  obtain ⟨x7, d7, rfl, h7⟩ := pop_some h6
  obtain ⟨x8, d8, rfl, h8⟩ := pop_some h7
  obtain ⟨rfl, g⟩ := popN_some h8
  cases g
  rfl
theorem higman_sets_1_2.fn : FnOk Try.prog 173 Try.f173 higman_sets_1_2.body Try.f173.ntmps 4 (fnRes Try.f173) :=
  fnOk_of (by kernel_rfl) (by kernel_rfl) (by kernel_rfl) (by kernel_rfl)
theorem higman_sets_1_2.con' : ∀ k ds r, higman_sets_1_2.g k ds = some r → Con Try.prog 173 4 higman_sets_1_2.ti higman_sets_1_2.to ds (higman_sets_1_2.rs r) :=
  fun_ok (T := T) T_ok mixed higman_sets_1_2.fn (env := higman_sets_1_2.env) (tbl := higman_sets_1_2.tbl) (gOut := higman_sets_1_2.out) (nin := 3) (cuts := [7]) (fuel := 100000) rfl (by kernel_rfl) (by kernel_rfl) (by kernel_rfl) (fun x hx => by
    simp only [higman_sets_1_2.tbl, List.mem_cons, List.not_mem_nil, or_false] at hx
    rcases hx with rfl | rfl
    · exact higman_sets_1_2.h7
    · exact higman_sets_1_2.h14
) higman_sets_1_2.o higman_sets_1_2.h (fun k _ => by unfold higman_sets_1_2.env; exact (envC_ok (fun ds K r h => by
    obtain ⟨x0, d0, rfl, h0⟩ := pop_some h
    obtain ⟨x1, d1, rfl, h1⟩ := pop_some h0
    obtain ⟨x2, d2, rfl, h2⟩ := pop_some h1
    obtain ⟨x3, d3, rfl, h3⟩ := pop_some h2
    obtain ⟨x4, d4, rfl, h4⟩ := pop_some h3
    obtain ⟨x5, d5, rfl, h5⟩ := pop_some h4
    obtain ⟨rfl, g⟩ := popN_some h5
    obtain ⟨r1, h1, h2⟩ := bind_some g
    exact ⟨_, h2, higman_Down_1.con k _ h1⟩) env0_ok))
theorem higman_sets_1_2.con (k : Nat) {x0 : Int} {x1 : Int} {x2 : Int} {x3 : Int} {x4 : (List (List Int))} {x5 : (List Int)} {x6 : Int} {x7 : Int} {x8 : (List (List Int))} {x9 : (List Int)} (r : Int × Int × Int × (List (List Int)) × (List Int) × Int × Int × (List (List Int)) × (List Int)) (h : higman_sets_1_2.f k x0 x1 x2 x3 x4 x5 x6 x7 x8 x9 = some r) : Con Try.prog 173 4 higman_sets_1_2.ti higman_sets_1_2.to [⟨(.int .i64), x0⟩, ⟨(.int .i64), x1⟩, ⟨(.int .i64), x2⟩, ⟨(.int .i64), x3⟩, ⟨(.slice (.slice (.int .i64))), x4⟩, ⟨(.slice (.int .i64)), x5⟩, ⟨(.int .i64), x6⟩, ⟨(.int .i64), x7⟩, ⟨(.slice (.slice (.int .i64))), x8⟩, ⟨(.slice (.int .i64)), x9⟩] (higman_sets_1_2.rs r) :=
  higman_sets_1_2.con' (k + 1) _ r (by show higman_sets_1_2.c k _ = some r; unfold higman_sets_1_2.c; simp only [pop_self, popN]; exact h)
end Go.Proofs.YtiiioobebeaafaaSx
