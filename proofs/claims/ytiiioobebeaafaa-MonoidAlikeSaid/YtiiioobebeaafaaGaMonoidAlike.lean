import Derived.Test.YtiiioobebeaafaaSxT
import Derived.Test.YtiiioobebeaafaaSxQ
import Derived.Test.YtiiioobebeaafaaSxV2
import Derived.Test.YtiiioobebeaafaaSxW
import Derived.KernelRfl
import Derived.Test.YtiiioobebeaafaaProg
set_option linter.unusedVariables false
set_option maxRecDepth 100000
namespace Go.Proofs.YtiiioobebeaafaaSx
open Go Go.Proofs
theorem T_check : T.check Try.prog = true := by kernel_rfl
theorem T_ok : TOk Try.prog T := TT.check_ok T_check
theorem mixed : Try.prog.follows .mixedOrders = true := by kernel_rfl
def det_Check_1.f (k : Nat) (r0 : List (Int)) (x1_0 : Int) (x1_1 : Int) (x1_2 : List (List (Int))) (x1_3 : List (Int)) : Option (Bool × Int × Int × List (List Int) × List Int) :=
 some (!decide ((↑r0.length : Int) = x1_0), x1_0, x1_1, x1_2, x1_3)

noncomputable def det_Check_1.body : Code := fnBody Try.f157
def det_Check_1.ti : Tm := ⟨[(0, .p (.slice (.int .i64))), (1, .ptr 0 0)], [.box [.p (.int .i64), .p (.int .i64), .p (.slice (.slice (.int .i64))), .p (.slice (.int .i64))] 58]⟩
def det_Check_1.to : Tm := ⟨[(0, .p .bool)], [.box [.p (.int .i64), .p (.int .i64), .p (.slice (.slice (.int .i64))), .p (.slice (.int .i64))] 58]⟩
def det_Check_1.rs (r : Bool × Int × Int × (List (List Int)) × (List Int)) : List Dat := [⟨.bool, r.1⟩, ⟨(.int .i64), r.2.1⟩, ⟨(.int .i64), r.2.2.1⟩, ⟨(.slice (.slice (.int .i64))), r.2.2.2.1⟩, ⟨(.slice (.int .i64)), r.2.2.2.2⟩]
def det_Check_1.out (ds : List Dat) : Option (Bool × Int × Int × (List (List Int)) × (List Int)) := pop .bool ds fun x0 ds => pop (.int .i64) ds fun x1 ds => pop (.int .i64) ds fun x2 ds => pop (.slice (.slice (.int .i64))) ds fun x3 ds => pop (.slice (.int .i64)) ds fun x4 ds => popN ds (some (x0, x1, x2, x3, x4))
def det_Check_1.c (k : Nat) (ds : List Dat) : Option (Bool × Int × Int × (List (List Int)) × (List Int)) := pop (.slice (.int .i64)) ds fun x0 ds => pop (.int .i64) ds fun x1 ds => pop (.int .i64) ds fun x2 ds => pop (.slice (.slice (.int .i64))) ds fun x3 ds => pop (.slice (.int .i64)) ds fun x4 ds => popN ds (det_Check_1.f k x0 x1 x2 x3 x4)
def det_Check_1.g : Nat → List Dat → Option (Bool × Int × Int × (List (List Int)) × (List Int))
 | 0, _ => none
 | k + 1, ds => det_Check_1.c k ds
def det_Check_1.env (k : Nat) : Nat → List SV → List Chunk → KT (Bool × Int × Int × (List (List Int)) × (List Int)) → Option (Bool × Int × Int × (List (List Int)) × (List Int)) := env0
def det_Check_1.tbl : List (Nat × Tm × (Nat → List Dat → Option (Bool × Int × Int × (List (List Int)) × (List Int)))) := []
noncomputable abbrev det_Check_1.R (k : Nat) := run T (det_Check_1.env k) Try.f157.ntmps (cutE 1 det_Check_1.tbl k) (finE 1 det_Check_1.to det_Check_1.out) (fnRes Try.f157) [] 100000 true
theorem det_Check_1.e (k : Nat) (x0 : (List Int)) (x1 : Int) (x2 : Int) (x3 : (List (List Int))) (x4 : (List Int)) : det_Check_1.f k x0 x1 x2 x3 x4 = det_Check_1.R k ([.code det_Check_1.body]) (det_Check_1.ti.fill [⟨(.slice (.int .i64)), x0⟩, ⟨(.int .i64), x1⟩, ⟨(.int .i64), x2⟩, ⟨(.slice (.slice (.int .i64))), x3⟩, ⟨(.slice (.int .i64)), x4⟩]) := by kernel_rfl
theorem det_Check_1.h (k : Nat) (ds : List Dat) (r : Bool × Int × Int × (List (List Int)) × (List Int)) (h : det_Check_1.g k ds = some r) : ∃ k', k' < k ∧ det_Check_1.R k' ([.code det_Check_1.body]) (det_Check_1.ti.fill ds) = some r := by
  cases k with
  | zero => cases (show none = some r from h)
  | succ k =>
  replace h : det_Check_1.c k ds = some r := h
  unfold det_Check_1.c at h
  obtain ⟨x0, d0, rfl, h0⟩ := pop_some h
  obtain ⟨x1, d1, rfl, h1⟩ := pop_some h0
  obtain ⟨x2, d2, rfl, h2⟩ := pop_some h1
  obtain ⟨x3, d3, rfl, h3⟩ := pop_some h2
  obtain ⟨x4, d4, rfl, h4⟩ := pop_some h3
  obtain ⟨rfl, g⟩ := popN_some h4
  exact ⟨k, Nat.lt_succ_self k, (det_Check_1.e k x0 x1 x2 x3 x4).symm.trans g⟩
theorem det_Check_1.o (ds : List Dat) (r : Bool × Int × Int × (List (List Int)) × (List Int)) (h : det_Check_1.out ds = some r) : ds = det_Check_1.rs r := by
  unfold det_Check_1.out at h
  obtain ⟨x0, d0, rfl, h0⟩ := pop_some h
  obtain ⟨x1, d1, rfl, h1⟩ := pop_some h0
  obtain ⟨x2, d2, rfl, h2⟩ := pop_some h1
  obtain ⟨x3, d3, rfl, h3⟩ := pop_some h2
  obtain ⟨x4, d4, rfl, h4⟩ := pop_some h3
  obtain ⟨rfl, g⟩ := popN_some h4
  cases g
  rfl
theorem det_Check_1.fn : FnOk Try.prog 157 Try.f157 det_Check_1.body Try.f157.ntmps 2 (fnRes Try.f157) :=
  fnOk_of (by kernel_rfl) (by kernel_rfl) (by kernel_rfl) (by kernel_rfl)
theorem det_Check_1.con' : ∀ k ds r, det_Check_1.g k ds = some r → Con Try.prog 157 2 det_Check_1.ti det_Check_1.to ds (det_Check_1.rs r) :=
  fun_ok (T := T) T_ok mixed det_Check_1.fn (env := det_Check_1.env) (tbl := det_Check_1.tbl) (gOut := det_Check_1.out) (nin := 1) (cuts := []) (fuel := 100000) rfl (by kernel_rfl) (by kernel_rfl) (by kernel_rfl) (fun x hx => by simp [det_Check_1.tbl] at hx) det_Check_1.o det_Check_1.h (fun k _ => by unfold det_Check_1.env; exact env0_ok)
theorem det_Check_1.con (k : Nat) {x0 : (List Int)} {x1 : Int} {x2 : Int} {x3 : (List (List Int))} {x4 : (List Int)} (r : Bool × Int × Int × (List (List Int)) × (List Int)) (h : det_Check_1.f k x0 x1 x2 x3 x4 = some r) : Con Try.prog 157 2 det_Check_1.ti det_Check_1.to [⟨(.slice (.int .i64)), x0⟩, ⟨(.int .i64), x1⟩, ⟨(.int .i64), x2⟩, ⟨(.slice (.slice (.int .i64))), x3⟩, ⟨(.slice (.int .i64)), x4⟩] (det_Check_1.rs r) :=
  det_Check_1.con' (k + 1) _ r (by show det_Check_1.c k _ = some r; unfold det_Check_1.c; simp only [pop_self, popN]; exact h)
mutual
def slices_IndexFunc_____int___int_.l2 : Nat → List (List (Int)) → Int → Int → Int → Int → List (List (Int)) → List (Int) → Option (Int × Int × Int × List (List Int) × List Int)
 | 0, _, _, _, _, _, _, _ => none
 | k + 1, s0, x7, x8, c0_0, c0_1, c0_2, c0_3 =>
  if x8 < x7 then
   if 0 ≤ x8 then
   if x8 < (↑s0.length : Int) then
    (det_Check_1.f k (Go.Proofs.YtiiioobebeaafaaSx.rd [] s0 x8) c0_0 c0_1 c0_2 c0_3).bind fun r5 =>
      if r5.fst = true then
       some (x8, r5.snd.fst, r5.snd.snd.fst, r5.snd.snd.snd.fst, r5.snd.snd.snd.snd)
      else
       slices_IndexFunc_____int___int_.l2 k s0 x7 (Go.IntKind.i64.wrap (x8 + 1)) r5.snd.fst r5.snd.snd.fst r5.snd.snd.snd.fst r5.snd.snd.snd.snd
    else none
   else none
  else
   some (-1, c0_0, c0_1, c0_2, c0_3)
end
def slices_IndexFunc_____int___int_.f (k : Nat) (s0 : List (List (Int))) (c0_0 : Int) (c0_1 : Int) (c0_2 : List (List (Int))) (c0_3 : List (Int)) : Option (Int × Int × Int × List (List Int) × List Int) :=
 slices_IndexFunc_____int___int_.l2 k s0 ((↑s0.length : Int)) 0 c0_0 c0_1 c0_2 c0_3

noncomputable def slices_IndexFunc_____int___int_.body : Code := fnBody Try.f148
def slices_IndexFunc_____int___int_.ti : Tm := ⟨[(0, .p (.slice (.slice (.int .i64)))), (1, .fn 157 [.ptr 0 0])], [.box [.p (.int .i64), .p (.int .i64), .p (.slice (.slice (.int .i64))), .p (.slice (.int .i64))] 58]⟩
def slices_IndexFunc_____int___int_.to : Tm := ⟨[(0, .p (.int .i64))], [.box [.p (.int .i64), .p (.int .i64), .p (.slice (.slice (.int .i64))), .p (.slice (.int .i64))] 58]⟩
def slices_IndexFunc_____int___int_.rs (r : Int × Int × Int × (List (List Int)) × (List Int)) : List Dat := [⟨(.int .i64), r.1⟩, ⟨(.int .i64), r.2.1⟩, ⟨(.int .i64), r.2.2.1⟩, ⟨(.slice (.slice (.int .i64))), r.2.2.2.1⟩, ⟨(.slice (.int .i64)), r.2.2.2.2⟩]
def slices_IndexFunc_____int___int_.out (ds : List Dat) : Option (Int × Int × Int × (List (List Int)) × (List Int)) := pop (.int .i64) ds fun x0 ds => pop (.int .i64) ds fun x1 ds => pop (.int .i64) ds fun x2 ds => pop (.slice (.slice (.int .i64))) ds fun x3 ds => pop (.slice (.int .i64)) ds fun x4 ds => popN ds (some (x0, x1, x2, x3, x4))
def slices_IndexFunc_____int___int_.c (k : Nat) (ds : List Dat) : Option (Int × Int × Int × (List (List Int)) × (List Int)) := pop (.slice (.slice (.int .i64))) ds fun x0 ds => pop (.int .i64) ds fun x1 ds => pop (.int .i64) ds fun x2 ds => pop (.slice (.slice (.int .i64))) ds fun x3 ds => pop (.slice (.int .i64)) ds fun x4 ds => popN ds (slices_IndexFunc_____int___int_.f k x0 x1 x2 x3 x4)
def slices_IndexFunc_____int___int_.g : Nat → List Dat → Option (Int × Int × Int × (List (List Int)) × (List Int))
 | 0, _ => none
 | k + 1, ds => slices_IndexFunc_____int___int_.c k ds
def slices_IndexFunc_____int___int_.env (k : Nat) : Nat → List SV → List Chunk → KT (Int × Int × Int × (List (List Int)) × (List Int)) → Option (Int × Int × Int × (List (List Int)) × (List Int)) := (envC 157 2 det_Check_1.ti det_Check_1.to (fun ds K => pop (.slice (.int .i64)) ds fun x0 ds => pop (.int .i64) ds fun x1 ds => pop (.int .i64) ds fun x2 ds => pop (.slice (.slice (.int .i64))) ds fun x3 ds => pop (.slice (.int .i64)) ds fun x4 ds => popN ds ((det_Check_1.f k x0 x1 x2 x3 x4).bind fun r => K (det_Check_1.rs r))) env0)
def slices_IndexFunc_____int___int_.t5 : Tm := ⟨[(0, .p (.slice (.slice (.int .i64)))), (1, .fn 157 [.ptr 0 0]), (7, .p (.int .i64)), (8, .p (.int .i64))], [.box [.p (.int .i64), .p (.int .i64), .p (.slice (.slice (.int .i64))), .p (.slice (.int .i64))] 58]⟩
def slices_IndexFunc_____int___int_.c5 (k : Nat) (ds : List Dat) : Option (Int × Int × Int × (List (List Int)) × (List Int)) := pop (.slice (.slice (.int .i64))) ds fun x0 ds => pop (.int .i64) ds fun x1 ds => pop (.int .i64) ds fun x2 ds => pop (.int .i64) ds fun x3 ds => pop (.int .i64) ds fun x4 ds => pop (.slice (.slice (.int .i64))) ds fun x5 ds => pop (.slice (.int .i64)) ds fun x6 ds => popN ds (slices_IndexFunc_____int___int_.l2 k x0 x1 x2 x3 x4 x5 x6)
def slices_IndexFunc_____int___int_.tbl : List (Nat × Tm × (Nat → List Dat → Option (Int × Int × Int × (List (List Int)) × (List Int)))) := [(5, slices_IndexFunc_____int___int_.t5, slices_IndexFunc_____int___int_.c5)]
noncomputable abbrev slices_IndexFunc_____int___int_.R (k : Nat) := run T (slices_IndexFunc_____int___int_.env k) Try.f148.ntmps (cutE 1 slices_IndexFunc_____int___int_.tbl k) (finE 1 slices_IndexFunc_____int___int_.to slices_IndexFunc_____int___int_.out) (fnRes Try.f148) [] 100000 true
theorem slices_IndexFunc_____int___int_.e5 (k : Nat) (x0 : (List (List Int))) (x1 : Int) (x2 : Int) (x3 : Int) (x4 : Int) (x5 : (List (List Int))) (x6 : (List Int)) : slices_IndexFunc_____int___int_.l2 (k + 1) x0 x1 x2 x3 x4 x5 x6 = slices_IndexFunc_____int___int_.R k (start (stackOf 5 slices_IndexFunc_____int___int_.body)) (slices_IndexFunc_____int___int_.t5.fill [⟨(.slice (.slice (.int .i64))), x0⟩, ⟨(.int .i64), x1⟩, ⟨(.int .i64), x2⟩, ⟨(.int .i64), x3⟩, ⟨(.int .i64), x4⟩, ⟨(.slice (.slice (.int .i64))), x5⟩, ⟨(.slice (.int .i64)), x6⟩]) := by kernel_rfl
theorem slices_IndexFunc_____int___int_.s5 : stackAt 5 slices_IndexFunc_____int___int_.body [] = some (stackOf 5 slices_IndexFunc_____int___int_.body) := by kernel_rfl
theorem slices_IndexFunc_____int___int_.h5 (k : Nat) (ds : List Dat) (r : Int × Int × Int × (List (List Int)) × (List Int)) (h : slices_IndexFunc_____int___int_.c5 k ds = some r) : ∃ k', k' < k ∧ ∃ s, stackAt 5 slices_IndexFunc_____int___int_.body [] = some s ∧ slices_IndexFunc_____int___int_.R k' (start s) (slices_IndexFunc_____int___int_.t5.fill ds) = some r := by
  unfold slices_IndexFunc_____int___int_.c5 at h
  obtain ⟨x0, d0, rfl, h0⟩ := pop_some h
  obtain ⟨x1, d1, rfl, h1⟩ := pop_some h0
  obtain ⟨x2, d2, rfl, h2⟩ := pop_some h1
  obtain ⟨x3, d3, rfl, h3⟩ := pop_some h2
  obtain ⟨x4, d4, rfl, h4⟩ := pop_some h3
  obtain ⟨x5, d5, rfl, h5⟩ := pop_some h4
  obtain ⟨x6, d6, rfl, h6⟩ := pop_some h5
  obtain ⟨rfl, g⟩ := popN_some h6
  cases k with
  | zero => cases (show none = some r from g)
  | succ k => exact ⟨k, Nat.lt_succ_self k, _, slices_IndexFunc_____int___int_.s5, (slices_IndexFunc_____int___int_.e5 k x0 x1 x2 x3 x4 x5 x6).symm.trans g⟩
theorem slices_IndexFunc_____int___int_.e (k : Nat) (x0 : (List (List Int))) (x1 : Int) (x2 : Int) (x3 : (List (List Int))) (x4 : (List Int)) : slices_IndexFunc_____int___int_.f k x0 x1 x2 x3 x4 = slices_IndexFunc_____int___int_.R k ([.code slices_IndexFunc_____int___int_.body]) (slices_IndexFunc_____int___int_.ti.fill [⟨(.slice (.slice (.int .i64))), x0⟩, ⟨(.int .i64), x1⟩, ⟨(.int .i64), x2⟩, ⟨(.slice (.slice (.int .i64))), x3⟩, ⟨(.slice (.int .i64)), x4⟩]) := by kernel_rfl
theorem slices_IndexFunc_____int___int_.h (k : Nat) (ds : List Dat) (r : Int × Int × Int × (List (List Int)) × (List Int)) (h : slices_IndexFunc_____int___int_.g k ds = some r) : ∃ k', k' < k ∧ slices_IndexFunc_____int___int_.R k' ([.code slices_IndexFunc_____int___int_.body]) (slices_IndexFunc_____int___int_.ti.fill ds) = some r := by
  cases k with
  | zero => cases (show none = some r from h)
  | succ k =>
  replace h : slices_IndexFunc_____int___int_.c k ds = some r := h
  unfold slices_IndexFunc_____int___int_.c at h
  obtain ⟨x0, d0, rfl, h0⟩ := pop_some h
  obtain ⟨x1, d1, rfl, h1⟩ := pop_some h0
  obtain ⟨x2, d2, rfl, h2⟩ := pop_some h1
  obtain ⟨x3, d3, rfl, h3⟩ := pop_some h2
  obtain ⟨x4, d4, rfl, h4⟩ := pop_some h3
  obtain ⟨rfl, g⟩ := popN_some h4
  exact ⟨k, Nat.lt_succ_self k, (slices_IndexFunc_____int___int_.e k x0 x1 x2 x3 x4).symm.trans g⟩
theorem slices_IndexFunc_____int___int_.o (ds : List Dat) (r : Int × Int × Int × (List (List Int)) × (List Int)) (h : slices_IndexFunc_____int___int_.out ds = some r) : ds = slices_IndexFunc_____int___int_.rs r := by
  unfold slices_IndexFunc_____int___int_.out at h
  obtain ⟨x0, d0, rfl, h0⟩ := pop_some h
  obtain ⟨x1, d1, rfl, h1⟩ := pop_some h0
  obtain ⟨x2, d2, rfl, h2⟩ := pop_some h1
  obtain ⟨x3, d3, rfl, h3⟩ := pop_some h2
  obtain ⟨x4, d4, rfl, h4⟩ := pop_some h3
  obtain ⟨rfl, g⟩ := popN_some h4
  cases g
  rfl
theorem slices_IndexFunc_____int___int_.fn : FnOk Try.prog 148 Try.f148 slices_IndexFunc_____int___int_.body Try.f148.ntmps 2 (fnRes Try.f148) :=
  fnOk_of (by kernel_rfl) (by kernel_rfl) (by kernel_rfl) (by kernel_rfl)
theorem slices_IndexFunc_____int___int_.con' : ∀ k ds r, slices_IndexFunc_____int___int_.g k ds = some r → Con Try.prog 148 2 slices_IndexFunc_____int___int_.ti slices_IndexFunc_____int___int_.to ds (slices_IndexFunc_____int___int_.rs r) :=
  fun_ok (T := T) T_ok mixed slices_IndexFunc_____int___int_.fn (env := slices_IndexFunc_____int___int_.env) (tbl := slices_IndexFunc_____int___int_.tbl) (gOut := slices_IndexFunc_____int___int_.out) (nin := 1) (cuts := []) (fuel := 100000) rfl (by kernel_rfl) (by kernel_rfl) (by kernel_rfl) (fun x hx => by
    simp only [slices_IndexFunc_____int___int_.tbl, List.mem_cons, List.not_mem_nil, or_false] at hx
    subst hx
    · exact slices_IndexFunc_____int___int_.h5
) slices_IndexFunc_____int___int_.o slices_IndexFunc_____int___int_.h (fun k _ => by unfold slices_IndexFunc_____int___int_.env; exact (envC_ok (fun ds K r h => by
    obtain ⟨x0, d0, rfl, h0⟩ := pop_some h
    obtain ⟨x1, d1, rfl, h1⟩ := pop_some h0
    obtain ⟨x2, d2, rfl, h2⟩ := pop_some h1
    obtain ⟨x3, d3, rfl, h3⟩ := pop_some h2
    obtain ⟨x4, d4, rfl, h4⟩ := pop_some h3
    obtain ⟨rfl, g⟩ := popN_some h4
    obtain ⟨r1, h1, h2⟩ := bind_some g
    exact ⟨_, h2, det_Check_1.con k _ h1⟩) env0_ok))
theorem slices_IndexFunc_____int___int_.con (k : Nat) {x0 : (List (List Int))} {x1 : Int} {x2 : Int} {x3 : (List (List Int))} {x4 : (List Int)} (r : Int × Int × Int × (List (List Int)) × (List Int)) (h : slices_IndexFunc_____int___int_.f k x0 x1 x2 x3 x4 = some r) : Con Try.prog 148 2 slices_IndexFunc_____int___int_.ti slices_IndexFunc_____int___int_.to [⟨(.slice (.slice (.int .i64))), x0⟩, ⟨(.int .i64), x1⟩, ⟨(.int .i64), x2⟩, ⟨(.slice (.slice (.int .i64))), x3⟩, ⟨(.slice (.int .i64)), x4⟩] (slices_IndexFunc_____int___int_.rs r) :=
  slices_IndexFunc_____int___int_.con' (k + 1) _ r (by show slices_IndexFunc_____int___int_.c k _ = some r; unfold slices_IndexFunc_____int___int_.c; simp only [pop_self, popN]; exact h)
def slices_ContainsFunc_____int___int_.f (k : Nat) (s0 : List (List (Int))) (c0_0 : Int) (c0_1 : Int) (c0_2 : List (List (Int))) (c0_3 : List (Int)) : Option (Bool × Int × Int × List (List Int) × List Int) :=
 (slices_IndexFunc_____int___int_.f k s0 c0_0 c0_1 c0_2 c0_3).bind fun r1 =>
  some (decide (0 ≤ r1.fst), r1.snd.fst, r1.snd.snd.fst, r1.snd.snd.snd.fst, r1.snd.snd.snd.snd)

noncomputable def slices_ContainsFunc_____int___int_.body : Code := fnBody Try.f75
def slices_ContainsFunc_____int___int_.ti : Tm := ⟨[(0, .p (.slice (.slice (.int .i64)))), (1, .fn 157 [.ptr 0 0])], [.box [.p (.int .i64), .p (.int .i64), .p (.slice (.slice (.int .i64))), .p (.slice (.int .i64))] 58]⟩
def slices_ContainsFunc_____int___int_.to : Tm := ⟨[(0, .p .bool)], [.box [.p (.int .i64), .p (.int .i64), .p (.slice (.slice (.int .i64))), .p (.slice (.int .i64))] 58]⟩
def slices_ContainsFunc_____int___int_.rs (r : Bool × Int × Int × (List (List Int)) × (List Int)) : List Dat := [⟨.bool, r.1⟩, ⟨(.int .i64), r.2.1⟩, ⟨(.int .i64), r.2.2.1⟩, ⟨(.slice (.slice (.int .i64))), r.2.2.2.1⟩, ⟨(.slice (.int .i64)), r.2.2.2.2⟩]
def slices_ContainsFunc_____int___int_.out (ds : List Dat) : Option (Bool × Int × Int × (List (List Int)) × (List Int)) := pop .bool ds fun x0 ds => pop (.int .i64) ds fun x1 ds => pop (.int .i64) ds fun x2 ds => pop (.slice (.slice (.int .i64))) ds fun x3 ds => pop (.slice (.int .i64)) ds fun x4 ds => popN ds (some (x0, x1, x2, x3, x4))
def slices_ContainsFunc_____int___int_.c (k : Nat) (ds : List Dat) : Option (Bool × Int × Int × (List (List Int)) × (List Int)) := pop (.slice (.slice (.int .i64))) ds fun x0 ds => pop (.int .i64) ds fun x1 ds => pop (.int .i64) ds fun x2 ds => pop (.slice (.slice (.int .i64))) ds fun x3 ds => pop (.slice (.int .i64)) ds fun x4 ds => popN ds (slices_ContainsFunc_____int___int_.f k x0 x1 x2 x3 x4)
def slices_ContainsFunc_____int___int_.g : Nat → List Dat → Option (Bool × Int × Int × (List (List Int)) × (List Int))
 | 0, _ => none
 | k + 1, ds => slices_ContainsFunc_____int___int_.c k ds
def slices_ContainsFunc_____int___int_.env (k : Nat) : Nat → List SV → List Chunk → KT (Bool × Int × Int × (List (List Int)) × (List Int)) → Option (Bool × Int × Int × (List (List Int)) × (List Int)) := (envC 148 2 slices_IndexFunc_____int___int_.ti slices_IndexFunc_____int___int_.to (fun ds K => pop (.slice (.slice (.int .i64))) ds fun x0 ds => pop (.int .i64) ds fun x1 ds => pop (.int .i64) ds fun x2 ds => pop (.slice (.slice (.int .i64))) ds fun x3 ds => pop (.slice (.int .i64)) ds fun x4 ds => popN ds ((slices_IndexFunc_____int___int_.f k x0 x1 x2 x3 x4).bind fun r => K (slices_IndexFunc_____int___int_.rs r))) env0)
def slices_ContainsFunc_____int___int_.tbl : List (Nat × Tm × (Nat → List Dat → Option (Bool × Int × Int × (List (List Int)) × (List Int)))) := []
noncomputable abbrev slices_ContainsFunc_____int___int_.R (k : Nat) := run T (slices_ContainsFunc_____int___int_.env k) Try.f75.ntmps (cutE 1 slices_ContainsFunc_____int___int_.tbl k) (finE 1 slices_ContainsFunc_____int___int_.to slices_ContainsFunc_____int___int_.out) (fnRes Try.f75) [] 100000 true
theorem slices_ContainsFunc_____int___int_.e (k : Nat) (x0 : (List (List Int))) (x1 : Int) (x2 : Int) (x3 : (List (List Int))) (x4 : (List Int)) : slices_ContainsFunc_____int___int_.f k x0 x1 x2 x3 x4 = slices_ContainsFunc_____int___int_.R k ([.code slices_ContainsFunc_____int___int_.body]) (slices_ContainsFunc_____int___int_.ti.fill [⟨(.slice (.slice (.int .i64))), x0⟩, ⟨(.int .i64), x1⟩, ⟨(.int .i64), x2⟩, ⟨(.slice (.slice (.int .i64))), x3⟩, ⟨(.slice (.int .i64)), x4⟩]) := by kernel_rfl
theorem slices_ContainsFunc_____int___int_.h (k : Nat) (ds : List Dat) (r : Bool × Int × Int × (List (List Int)) × (List Int)) (h : slices_ContainsFunc_____int___int_.g k ds = some r) : ∃ k', k' < k ∧ slices_ContainsFunc_____int___int_.R k' ([.code slices_ContainsFunc_____int___int_.body]) (slices_ContainsFunc_____int___int_.ti.fill ds) = some r := by
  cases k with
  | zero => cases (show none = some r from h)
  | succ k =>
  replace h : slices_ContainsFunc_____int___int_.c k ds = some r := h
  unfold slices_ContainsFunc_____int___int_.c at h
  obtain ⟨x0, d0, rfl, h0⟩ := pop_some h
  obtain ⟨x1, d1, rfl, h1⟩ := pop_some h0
  obtain ⟨x2, d2, rfl, h2⟩ := pop_some h1
  obtain ⟨x3, d3, rfl, h3⟩ := pop_some h2
  obtain ⟨x4, d4, rfl, h4⟩ := pop_some h3
  obtain ⟨rfl, g⟩ := popN_some h4
  exact ⟨k, Nat.lt_succ_self k, (slices_ContainsFunc_____int___int_.e k x0 x1 x2 x3 x4).symm.trans g⟩
theorem slices_ContainsFunc_____int___int_.o (ds : List Dat) (r : Bool × Int × Int × (List (List Int)) × (List Int)) (h : slices_ContainsFunc_____int___int_.out ds = some r) : ds = slices_ContainsFunc_____int___int_.rs r := by
  unfold slices_ContainsFunc_____int___int_.out at h
  obtain ⟨x0, d0, rfl, h0⟩ := pop_some h
  obtain ⟨x1, d1, rfl, h1⟩ := pop_some h0
  obtain ⟨x2, d2, rfl, h2⟩ := pop_some h1
  obtain ⟨x3, d3, rfl, h3⟩ := pop_some h2
  obtain ⟨x4, d4, rfl, h4⟩ := pop_some h3
  obtain ⟨rfl, g⟩ := popN_some h4
  cases g
  rfl
theorem slices_ContainsFunc_____int___int_.fn : FnOk Try.prog 75 Try.f75 slices_ContainsFunc_____int___int_.body Try.f75.ntmps 2 (fnRes Try.f75) :=
  fnOk_of (by kernel_rfl) (by kernel_rfl) (by kernel_rfl) (by kernel_rfl)
theorem slices_ContainsFunc_____int___int_.con' : ∀ k ds r, slices_ContainsFunc_____int___int_.g k ds = some r → Con Try.prog 75 2 slices_ContainsFunc_____int___int_.ti slices_ContainsFunc_____int___int_.to ds (slices_ContainsFunc_____int___int_.rs r) :=
  fun_ok (T := T) T_ok mixed slices_ContainsFunc_____int___int_.fn (env := slices_ContainsFunc_____int___int_.env) (tbl := slices_ContainsFunc_____int___int_.tbl) (gOut := slices_ContainsFunc_____int___int_.out) (nin := 1) (cuts := []) (fuel := 100000) rfl (by kernel_rfl) (by kernel_rfl) (by kernel_rfl) (fun x hx => by simp [slices_ContainsFunc_____int___int_.tbl] at hx) slices_ContainsFunc_____int___int_.o slices_ContainsFunc_____int___int_.h (fun k _ => by unfold slices_ContainsFunc_____int___int_.env; exact (envC_ok (fun ds K r h => by
    obtain ⟨x0, d0, rfl, h0⟩ := pop_some h
    obtain ⟨x1, d1, rfl, h1⟩ := pop_some h0
    obtain ⟨x2, d2, rfl, h2⟩ := pop_some h1
    obtain ⟨x3, d3, rfl, h3⟩ := pop_some h2
    obtain ⟨x4, d4, rfl, h4⟩ := pop_some h3
    obtain ⟨rfl, g⟩ := popN_some h4
    obtain ⟨r1, h1, h2⟩ := bind_some g
    exact ⟨_, h2, slices_IndexFunc_____int___int_.con k _ h1⟩) env0_ok))
theorem slices_ContainsFunc_____int___int_.con (k : Nat) {x0 : (List (List Int))} {x1 : Int} {x2 : Int} {x3 : (List (List Int))} {x4 : (List Int)} (r : Bool × Int × Int × (List (List Int)) × (List Int)) (h : slices_ContainsFunc_____int___int_.f k x0 x1 x2 x3 x4 = some r) : Con Try.prog 75 2 slices_ContainsFunc_____int___int_.ti slices_ContainsFunc_____int___int_.to [⟨(.slice (.slice (.int .i64))), x0⟩, ⟨(.int .i64), x1⟩, ⟨(.int .i64), x2⟩, ⟨(.slice (.slice (.int .i64))), x3⟩, ⟨(.slice (.int .i64)), x4⟩] (slices_ContainsFunc_____int___int_.rs r) :=
  slices_ContainsFunc_____int___int_.con' (k + 1) _ r (by show slices_ContainsFunc_____int___int_.c k _ = some r; unfold slices_ContainsFunc_____int___int_.c; simp only [pop_self, popN]; exact h)
def det_Check_2.f (k : Nat) (q0 : Int) (x1_0 : Int) : Option (Bool × Int) :=
 if q0 < 0 then
  some (true, x1_0)
 else
  some (decide (x1_0 ≤ q0), x1_0)

noncomputable def det_Check_2.body : Code := fnBody Try.f158
def det_Check_2.ti : Tm := ⟨[(0, .p (.int .i64)), (1, .ptr 0 0)], [.box [.p (.int .i64)] 3]⟩
def det_Check_2.to : Tm := ⟨[(0, .p .bool)], [.box [.p (.int .i64)] 3]⟩
def det_Check_2.rs (r : Bool × Int) : List Dat := [⟨.bool, r.1⟩, ⟨(.int .i64), r.2⟩]
def det_Check_2.out (ds : List Dat) : Option (Bool × Int) := pop .bool ds fun x0 ds => pop (.int .i64) ds fun x1 ds => popN ds (some (x0, x1))
def det_Check_2.c (k : Nat) (ds : List Dat) : Option (Bool × Int) := pop (.int .i64) ds fun x0 ds => pop (.int .i64) ds fun x1 ds => popN ds (det_Check_2.f k x0 x1)
def det_Check_2.g : Nat → List Dat → Option (Bool × Int)
 | 0, _ => none
 | k + 1, ds => det_Check_2.c k ds
def det_Check_2.env (k : Nat) : Nat → List SV → List Chunk → KT (Bool × Int) → Option (Bool × Int) := env0
def det_Check_2.tbl : List (Nat × Tm × (Nat → List Dat → Option (Bool × Int))) := []
noncomputable abbrev det_Check_2.R (k : Nat) := run T (det_Check_2.env k) Try.f158.ntmps (cutE 1 det_Check_2.tbl k) (finE 1 det_Check_2.to det_Check_2.out) (fnRes Try.f158) [] 100000 true
theorem det_Check_2.e (k : Nat) (x0 : Int) (x1 : Int) : det_Check_2.f k x0 x1 = det_Check_2.R k ([.code det_Check_2.body]) (det_Check_2.ti.fill [⟨(.int .i64), x0⟩, ⟨(.int .i64), x1⟩]) := by kernel_rfl
theorem det_Check_2.h (k : Nat) (ds : List Dat) (r : Bool × Int) (h : det_Check_2.g k ds = some r) : ∃ k', k' < k ∧ det_Check_2.R k' ([.code det_Check_2.body]) (det_Check_2.ti.fill ds) = some r := by
  cases k with
  | zero => cases (show none = some r from h)
  | succ k =>
  replace h : det_Check_2.c k ds = some r := h
  unfold det_Check_2.c at h
  obtain ⟨x0, d0, rfl, h0⟩ := pop_some h
  obtain ⟨x1, d1, rfl, h1⟩ := pop_some h0
  obtain ⟨rfl, g⟩ := popN_some h1
  exact ⟨k, Nat.lt_succ_self k, (det_Check_2.e k x0 x1).symm.trans g⟩
theorem det_Check_2.o (ds : List Dat) (r : Bool × Int) (h : det_Check_2.out ds = some r) : ds = det_Check_2.rs r := by
  unfold det_Check_2.out at h
  obtain ⟨x0, d0, rfl, h0⟩ := pop_some h
  obtain ⟨x1, d1, rfl, h1⟩ := pop_some h0
  obtain ⟨rfl, g⟩ := popN_some h1
  cases g
  rfl
theorem det_Check_2.fn : FnOk Try.prog 158 Try.f158 det_Check_2.body Try.f158.ntmps 2 (fnRes Try.f158) :=
  fnOk_of (by kernel_rfl) (by kernel_rfl) (by kernel_rfl) (by kernel_rfl)
theorem det_Check_2.con' : ∀ k ds r, det_Check_2.g k ds = some r → Con Try.prog 158 2 det_Check_2.ti det_Check_2.to ds (det_Check_2.rs r) :=
  fun_ok (T := T) T_ok mixed det_Check_2.fn (env := det_Check_2.env) (tbl := det_Check_2.tbl) (gOut := det_Check_2.out) (nin := 1) (cuts := []) (fuel := 100000) rfl (by kernel_rfl) (by kernel_rfl) (by kernel_rfl) (fun x hx => by simp [det_Check_2.tbl] at hx) det_Check_2.o det_Check_2.h (fun k _ => by unfold det_Check_2.env; exact env0_ok)
theorem det_Check_2.con (k : Nat) {x0 : Int} {x1 : Int} (r : Bool × Int) (h : det_Check_2.f k x0 x1 = some r) : Con Try.prog 158 2 det_Check_2.ti det_Check_2.to [⟨(.int .i64), x0⟩, ⟨(.int .i64), x1⟩] (det_Check_2.rs r) :=
  det_Check_2.con' (k + 1) _ r (by show det_Check_2.c k _ = some r; unfold det_Check_2.c; simp only [pop_self, popN]; exact h)
mutual
def slices_IndexFunc___int_int_.l2 : Nat → List (Int) → Int → Int → Int → Option (Int × Int)
 | 0, _, _, _, _ => none
 | k + 1, s0, x7, x8, c0_0 =>
  if x8 < x7 then
   if 0 ≤ x8 then
   if x8 < (↑s0.length : Int) then
    (det_Check_2.f k (Go.Proofs.YtiiioobebeaafaaSx.rd (Int.ofNat 0) s0 x8) c0_0).bind fun r5 =>
      if r5.fst = true then
       some (x8, r5.snd)
      else
       slices_IndexFunc___int_int_.l2 k s0 x7 (Go.IntKind.i64.wrap (x8 + 1)) r5.snd
    else none
   else none
  else
   some (-1, c0_0)
end
def slices_IndexFunc___int_int_.f (k : Nat) (s0 : List (Int)) (c0_0 : Int) : Option (Int × Int) :=
 slices_IndexFunc___int_int_.l2 k s0 ((↑s0.length : Int)) 0 c0_0

noncomputable def slices_IndexFunc___int_int_.body : Code := fnBody Try.f149
def slices_IndexFunc___int_int_.ti : Tm := ⟨[(0, .p (.slice (.int .i64))), (1, .fn 158 [.ptr 0 0])], [.box [.p (.int .i64)] 3]⟩
def slices_IndexFunc___int_int_.to : Tm := ⟨[(0, .p (.int .i64))], [.box [.p (.int .i64)] 3]⟩
def slices_IndexFunc___int_int_.rs (r : Int × Int) : List Dat := [⟨(.int .i64), r.1⟩, ⟨(.int .i64), r.2⟩]
def slices_IndexFunc___int_int_.out (ds : List Dat) : Option (Int × Int) := pop (.int .i64) ds fun x0 ds => pop (.int .i64) ds fun x1 ds => popN ds (some (x0, x1))
def slices_IndexFunc___int_int_.c (k : Nat) (ds : List Dat) : Option (Int × Int) := pop (.slice (.int .i64)) ds fun x0 ds => pop (.int .i64) ds fun x1 ds => popN ds (slices_IndexFunc___int_int_.f k x0 x1)
def slices_IndexFunc___int_int_.g : Nat → List Dat → Option (Int × Int)
 | 0, _ => none
 | k + 1, ds => slices_IndexFunc___int_int_.c k ds
def slices_IndexFunc___int_int_.env (k : Nat) : Nat → List SV → List Chunk → KT (Int × Int) → Option (Int × Int) := (envC 158 2 det_Check_2.ti det_Check_2.to (fun ds K => pop (.int .i64) ds fun x0 ds => pop (.int .i64) ds fun x1 ds => popN ds ((det_Check_2.f k x0 x1).bind fun r => K (det_Check_2.rs r))) env0)
def slices_IndexFunc___int_int_.t5 : Tm := ⟨[(0, .p (.slice (.int .i64))), (1, .fn 158 [.ptr 0 0]), (7, .p (.int .i64)), (8, .p (.int .i64))], [.box [.p (.int .i64)] 3]⟩
def slices_IndexFunc___int_int_.c5 (k : Nat) (ds : List Dat) : Option (Int × Int) := pop (.slice (.int .i64)) ds fun x0 ds => pop (.int .i64) ds fun x1 ds => pop (.int .i64) ds fun x2 ds => pop (.int .i64) ds fun x3 ds => popN ds (slices_IndexFunc___int_int_.l2 k x0 x1 x2 x3)
def slices_IndexFunc___int_int_.tbl : List (Nat × Tm × (Nat → List Dat → Option (Int × Int))) := [(5, slices_IndexFunc___int_int_.t5, slices_IndexFunc___int_int_.c5)]
noncomputable abbrev slices_IndexFunc___int_int_.R (k : Nat) := run T (slices_IndexFunc___int_int_.env k) Try.f149.ntmps (cutE 1 slices_IndexFunc___int_int_.tbl k) (finE 1 slices_IndexFunc___int_int_.to slices_IndexFunc___int_int_.out) (fnRes Try.f149) [] 100000 true
theorem slices_IndexFunc___int_int_.e5 (k : Nat) (x0 : (List Int)) (x1 : Int) (x2 : Int) (x3 : Int) : slices_IndexFunc___int_int_.l2 (k + 1) x0 x1 x2 x3 = slices_IndexFunc___int_int_.R k (start (stackOf 5 slices_IndexFunc___int_int_.body)) (slices_IndexFunc___int_int_.t5.fill [⟨(.slice (.int .i64)), x0⟩, ⟨(.int .i64), x1⟩, ⟨(.int .i64), x2⟩, ⟨(.int .i64), x3⟩]) := by kernel_rfl
theorem slices_IndexFunc___int_int_.s5 : stackAt 5 slices_IndexFunc___int_int_.body [] = some (stackOf 5 slices_IndexFunc___int_int_.body) := by kernel_rfl
theorem slices_IndexFunc___int_int_.h5 (k : Nat) (ds : List Dat) (r : Int × Int) (h : slices_IndexFunc___int_int_.c5 k ds = some r) : ∃ k', k' < k ∧ ∃ s, stackAt 5 slices_IndexFunc___int_int_.body [] = some s ∧ slices_IndexFunc___int_int_.R k' (start s) (slices_IndexFunc___int_int_.t5.fill ds) = some r := by
  unfold slices_IndexFunc___int_int_.c5 at h
  obtain ⟨x0, d0, rfl, h0⟩ := pop_some h
  obtain ⟨x1, d1, rfl, h1⟩ := pop_some h0
  obtain ⟨x2, d2, rfl, h2⟩ := pop_some h1
  obtain ⟨x3, d3, rfl, h3⟩ := pop_some h2
  obtain ⟨rfl, g⟩ := popN_some h3
  cases k with
  | zero => cases (show none = some r from g)
  | succ k => exact ⟨k, Nat.lt_succ_self k, _, slices_IndexFunc___int_int_.s5, (slices_IndexFunc___int_int_.e5 k x0 x1 x2 x3).symm.trans g⟩
theorem slices_IndexFunc___int_int_.e (k : Nat) (x0 : (List Int)) (x1 : Int) : slices_IndexFunc___int_int_.f k x0 x1 = slices_IndexFunc___int_int_.R k ([.code slices_IndexFunc___int_int_.body]) (slices_IndexFunc___int_int_.ti.fill [⟨(.slice (.int .i64)), x0⟩, ⟨(.int .i64), x1⟩]) := by kernel_rfl
theorem slices_IndexFunc___int_int_.h (k : Nat) (ds : List Dat) (r : Int × Int) (h : slices_IndexFunc___int_int_.g k ds = some r) : ∃ k', k' < k ∧ slices_IndexFunc___int_int_.R k' ([.code slices_IndexFunc___int_int_.body]) (slices_IndexFunc___int_int_.ti.fill ds) = some r := by
  cases k with
  | zero => cases (show none = some r from h)
  | succ k =>
  replace h : slices_IndexFunc___int_int_.c k ds = some r := h
  unfold slices_IndexFunc___int_int_.c at h
  obtain ⟨x0, d0, rfl, h0⟩ := pop_some h
  obtain ⟨x1, d1, rfl, h1⟩ := pop_some h0
  obtain ⟨rfl, g⟩ := popN_some h1
  exact ⟨k, Nat.lt_succ_self k, (slices_IndexFunc___int_int_.e k x0 x1).symm.trans g⟩
theorem slices_IndexFunc___int_int_.o (ds : List Dat) (r : Int × Int) (h : slices_IndexFunc___int_int_.out ds = some r) : ds = slices_IndexFunc___int_int_.rs r := by
  unfold slices_IndexFunc___int_int_.out at h
  obtain ⟨x0, d0, rfl, h0⟩ := pop_some h
  obtain ⟨x1, d1, rfl, h1⟩ := pop_some h0
  obtain ⟨rfl, g⟩ := popN_some h1
  cases g
  rfl
theorem slices_IndexFunc___int_int_.fn : FnOk Try.prog 149 Try.f149 slices_IndexFunc___int_int_.body Try.f149.ntmps 2 (fnRes Try.f149) :=
  fnOk_of (by kernel_rfl) (by kernel_rfl) (by kernel_rfl) (by kernel_rfl)
theorem slices_IndexFunc___int_int_.con' : ∀ k ds r, slices_IndexFunc___int_int_.g k ds = some r → Con Try.prog 149 2 slices_IndexFunc___int_int_.ti slices_IndexFunc___int_int_.to ds (slices_IndexFunc___int_int_.rs r) :=
  fun_ok (T := T) T_ok mixed slices_IndexFunc___int_int_.fn (env := slices_IndexFunc___int_int_.env) (tbl := slices_IndexFunc___int_int_.tbl) (gOut := slices_IndexFunc___int_int_.out) (nin := 1) (cuts := []) (fuel := 100000) rfl (by kernel_rfl) (by kernel_rfl) (by kernel_rfl) (fun x hx => by
    simp only [slices_IndexFunc___int_int_.tbl, List.mem_cons, List.not_mem_nil, or_false] at hx
    subst hx
    · exact slices_IndexFunc___int_int_.h5
) slices_IndexFunc___int_int_.o slices_IndexFunc___int_int_.h (fun k _ => by unfold slices_IndexFunc___int_int_.env; exact (envC_ok (fun ds K r h => by
    obtain ⟨x0, d0, rfl, h0⟩ := pop_some h
    obtain ⟨x1, d1, rfl, h1⟩ := pop_some h0
    obtain ⟨rfl, g⟩ := popN_some h1
    obtain ⟨r1, h1, h2⟩ := bind_some g
    exact ⟨_, h2, det_Check_2.con k _ h1⟩) env0_ok))
theorem slices_IndexFunc___int_int_.con (k : Nat) {x0 : (List Int)} {x1 : Int} (r : Int × Int) (h : slices_IndexFunc___int_int_.f k x0 x1 = some r) : Con Try.prog 149 2 slices_IndexFunc___int_int_.ti slices_IndexFunc___int_int_.to [⟨(.slice (.int .i64)), x0⟩, ⟨(.int .i64), x1⟩] (slices_IndexFunc___int_int_.rs r) :=
  slices_IndexFunc___int_int_.con' (k + 1) _ r (by show slices_IndexFunc___int_int_.c k _ = some r; unfold slices_IndexFunc___int_int_.c; simp only [pop_self, popN]; exact h)
def slices_ContainsFunc___int_int_.f (k : Nat) (s0 : List (Int)) (c0_0 : Int) : Option (Bool × Int) :=
 (slices_IndexFunc___int_int_.f k s0 c0_0).bind fun r1 =>
  some (decide (0 ≤ r1.fst), r1.snd)

noncomputable def slices_ContainsFunc___int_int_.body : Code := fnBody Try.f77
def slices_ContainsFunc___int_int_.ti : Tm := ⟨[(0, .p (.slice (.int .i64))), (1, .fn 158 [.ptr 0 0])], [.box [.p (.int .i64)] 3]⟩
def slices_ContainsFunc___int_int_.to : Tm := ⟨[(0, .p .bool)], [.box [.p (.int .i64)] 3]⟩
def slices_ContainsFunc___int_int_.rs (r : Bool × Int) : List Dat := [⟨.bool, r.1⟩, ⟨(.int .i64), r.2⟩]
def slices_ContainsFunc___int_int_.out (ds : List Dat) : Option (Bool × Int) := pop .bool ds fun x0 ds => pop (.int .i64) ds fun x1 ds => popN ds (some (x0, x1))
def slices_ContainsFunc___int_int_.c (k : Nat) (ds : List Dat) : Option (Bool × Int) := pop (.slice (.int .i64)) ds fun x0 ds => pop (.int .i64) ds fun x1 ds => popN ds (slices_ContainsFunc___int_int_.f k x0 x1)
def slices_ContainsFunc___int_int_.g : Nat → List Dat → Option (Bool × Int)
 | 0, _ => none
 | k + 1, ds => slices_ContainsFunc___int_int_.c k ds
def slices_ContainsFunc___int_int_.env (k : Nat) : Nat → List SV → List Chunk → KT (Bool × Int) → Option (Bool × Int) := (envC 149 2 slices_IndexFunc___int_int_.ti slices_IndexFunc___int_int_.to (fun ds K => pop (.slice (.int .i64)) ds fun x0 ds => pop (.int .i64) ds fun x1 ds => popN ds ((slices_IndexFunc___int_int_.f k x0 x1).bind fun r => K (slices_IndexFunc___int_int_.rs r))) env0)
def slices_ContainsFunc___int_int_.tbl : List (Nat × Tm × (Nat → List Dat → Option (Bool × Int))) := []
noncomputable abbrev slices_ContainsFunc___int_int_.R (k : Nat) := run T (slices_ContainsFunc___int_int_.env k) Try.f77.ntmps (cutE 1 slices_ContainsFunc___int_int_.tbl k) (finE 1 slices_ContainsFunc___int_int_.to slices_ContainsFunc___int_int_.out) (fnRes Try.f77) [] 100000 true
theorem slices_ContainsFunc___int_int_.e (k : Nat) (x0 : (List Int)) (x1 : Int) : slices_ContainsFunc___int_int_.f k x0 x1 = slices_ContainsFunc___int_int_.R k ([.code slices_ContainsFunc___int_int_.body]) (slices_ContainsFunc___int_int_.ti.fill [⟨(.slice (.int .i64)), x0⟩, ⟨(.int .i64), x1⟩]) := by kernel_rfl
theorem slices_ContainsFunc___int_int_.h (k : Nat) (ds : List Dat) (r : Bool × Int) (h : slices_ContainsFunc___int_int_.g k ds = some r) : ∃ k', k' < k ∧ slices_ContainsFunc___int_int_.R k' ([.code slices_ContainsFunc___int_int_.body]) (slices_ContainsFunc___int_int_.ti.fill ds) = some r := by
  cases k with
  | zero => cases (show none = some r from h)
  | succ k =>
  replace h : slices_ContainsFunc___int_int_.c k ds = some r := h
  unfold slices_ContainsFunc___int_int_.c at h
  obtain ⟨x0, d0, rfl, h0⟩ := pop_some h
  obtain ⟨x1, d1, rfl, h1⟩ := pop_some h0
  obtain ⟨rfl, g⟩ := popN_some h1
  exact ⟨k, Nat.lt_succ_self k, (slices_ContainsFunc___int_int_.e k x0 x1).symm.trans g⟩
theorem slices_ContainsFunc___int_int_.o (ds : List Dat) (r : Bool × Int) (h : slices_ContainsFunc___int_int_.out ds = some r) : ds = slices_ContainsFunc___int_int_.rs r := by
  unfold slices_ContainsFunc___int_int_.out at h
  obtain ⟨x0, d0, rfl, h0⟩ := pop_some h
  obtain ⟨x1, d1, rfl, h1⟩ := pop_some h0
  obtain ⟨rfl, g⟩ := popN_some h1
  cases g
  rfl
theorem slices_ContainsFunc___int_int_.fn : FnOk Try.prog 77 Try.f77 slices_ContainsFunc___int_int_.body Try.f77.ntmps 2 (fnRes Try.f77) :=
  fnOk_of (by kernel_rfl) (by kernel_rfl) (by kernel_rfl) (by kernel_rfl)
theorem slices_ContainsFunc___int_int_.con' : ∀ k ds r, slices_ContainsFunc___int_int_.g k ds = some r → Con Try.prog 77 2 slices_ContainsFunc___int_int_.ti slices_ContainsFunc___int_int_.to ds (slices_ContainsFunc___int_int_.rs r) :=
  fun_ok (T := T) T_ok mixed slices_ContainsFunc___int_int_.fn (env := slices_ContainsFunc___int_int_.env) (tbl := slices_ContainsFunc___int_int_.tbl) (gOut := slices_ContainsFunc___int_int_.out) (nin := 1) (cuts := []) (fuel := 100000) rfl (by kernel_rfl) (by kernel_rfl) (by kernel_rfl) (fun x hx => by simp [slices_ContainsFunc___int_int_.tbl] at hx) slices_ContainsFunc___int_int_.o slices_ContainsFunc___int_int_.h (fun k _ => by unfold slices_ContainsFunc___int_int_.env; exact (envC_ok (fun ds K r h => by
    obtain ⟨x0, d0, rfl, h0⟩ := pop_some h
    obtain ⟨x1, d1, rfl, h1⟩ := pop_some h0
    obtain ⟨rfl, g⟩ := popN_some h1
    obtain ⟨r1, h1, h2⟩ := bind_some g
    exact ⟨_, h2, slices_IndexFunc___int_int_.con k _ h1⟩) env0_ok))
theorem slices_ContainsFunc___int_int_.con (k : Nat) {x0 : (List Int)} {x1 : Int} (r : Bool × Int) (h : slices_ContainsFunc___int_int_.f k x0 x1 = some r) : Con Try.prog 77 2 slices_ContainsFunc___int_int_.ti slices_ContainsFunc___int_int_.to [⟨(.slice (.int .i64)), x0⟩, ⟨(.int .i64), x1⟩] (slices_ContainsFunc___int_int_.rs r) :=
  slices_ContainsFunc___int_int_.con' (k + 1) _ r (by show slices_ContainsFunc___int_int_.c k _ = some r; unfold slices_ContainsFunc___int_int_.c; simp only [pop_self, popN]; exact h)
def det_Check_3.f (k : Nat) (r0 : List (Int)) (c1_0 : Int) : Option (Bool × Int) :=
 (slices_ContainsFunc___int_int_.f k r0 c1_0).bind fun r1 =>
  some (r1.fst, r1.snd)

noncomputable def det_Check_3.body : Code := fnBody Try.f159
def det_Check_3.ti : Tm := ⟨[(0, .p (.slice (.int .i64))), (1, .ptr 0 0)], [.box [.fn 158 [.ptr 1 0]] 113, .box [.p (.int .i64)] 3]⟩
def det_Check_3.to : Tm := ⟨[(0, .p .bool)], [.box [.fn 158 [.ptr 1 0]] 113, .box [.p (.int .i64)] 3]⟩
def det_Check_3.rs (r : Bool × Int) : List Dat := [⟨.bool, r.1⟩, ⟨(.int .i64), r.2⟩]
def det_Check_3.out (ds : List Dat) : Option (Bool × Int) := pop .bool ds fun x0 ds => pop (.int .i64) ds fun x1 ds => popN ds (some (x0, x1))
def det_Check_3.c (k : Nat) (ds : List Dat) : Option (Bool × Int) := pop (.slice (.int .i64)) ds fun x0 ds => pop (.int .i64) ds fun x1 ds => popN ds (det_Check_3.f k x0 x1)
def det_Check_3.g : Nat → List Dat → Option (Bool × Int)
 | 0, _ => none
 | k + 1, ds => det_Check_3.c k ds
def det_Check_3.env (k : Nat) : Nat → List SV → List Chunk → KT (Bool × Int) → Option (Bool × Int) := (envC 77 2 slices_ContainsFunc___int_int_.ti slices_ContainsFunc___int_int_.to (fun ds K => pop (.slice (.int .i64)) ds fun x0 ds => pop (.int .i64) ds fun x1 ds => popN ds ((slices_ContainsFunc___int_int_.f k x0 x1).bind fun r => K (slices_ContainsFunc___int_int_.rs r))) env0)
def det_Check_3.tbl : List (Nat × Tm × (Nat → List Dat → Option (Bool × Int))) := []
noncomputable abbrev det_Check_3.R (k : Nat) := run T (det_Check_3.env k) Try.f159.ntmps (cutE 2 det_Check_3.tbl k) (finE 2 det_Check_3.to det_Check_3.out) (fnRes Try.f159) [] 100000 true
theorem det_Check_3.e (k : Nat) (x0 : (List Int)) (x1 : Int) : det_Check_3.f k x0 x1 = det_Check_3.R k ([.code det_Check_3.body]) (det_Check_3.ti.fill [⟨(.slice (.int .i64)), x0⟩, ⟨(.int .i64), x1⟩]) := by kernel_rfl
theorem det_Check_3.h (k : Nat) (ds : List Dat) (r : Bool × Int) (h : det_Check_3.g k ds = some r) : ∃ k', k' < k ∧ det_Check_3.R k' ([.code det_Check_3.body]) (det_Check_3.ti.fill ds) = some r := by
  cases k with
  | zero => cases (show none = some r from h)
  | succ k =>
  replace h : det_Check_3.c k ds = some r := h
  unfold det_Check_3.c at h
  obtain ⟨x0, d0, rfl, h0⟩ := pop_some h
  obtain ⟨x1, d1, rfl, h1⟩ := pop_some h0
  obtain ⟨rfl, g⟩ := popN_some h1
  exact ⟨k, Nat.lt_succ_self k, (det_Check_3.e k x0 x1).symm.trans g⟩
theorem det_Check_3.o (ds : List Dat) (r : Bool × Int) (h : det_Check_3.out ds = some r) : ds = det_Check_3.rs r := by
  unfold det_Check_3.out at h
  obtain ⟨x0, d0, rfl, h0⟩ := pop_some h
  obtain ⟨x1, d1, rfl, h1⟩ := pop_some h0
  obtain ⟨rfl, g⟩ := popN_some h1
  cases g
  rfl
theorem det_Check_3.fn : FnOk Try.prog 159 Try.f159 det_Check_3.body Try.f159.ntmps 2 (fnRes Try.f159) :=
  fnOk_of (by kernel_rfl) (by kernel_rfl) (by kernel_rfl) (by kernel_rfl)
theorem det_Check_3.con' : ∀ k ds r, det_Check_3.g k ds = some r → Con Try.prog 159 2 det_Check_3.ti det_Check_3.to ds (det_Check_3.rs r) :=
  fun_ok (T := T) T_ok mixed det_Check_3.fn (env := det_Check_3.env) (tbl := det_Check_3.tbl) (gOut := det_Check_3.out) (nin := 2) (cuts := []) (fuel := 100000) rfl (by kernel_rfl) (by kernel_rfl) (by kernel_rfl) (fun x hx => by simp [det_Check_3.tbl] at hx) det_Check_3.o det_Check_3.h (fun k _ => by unfold det_Check_3.env; exact (envC_ok (fun ds K r h => by
    obtain ⟨x0, d0, rfl, h0⟩ := pop_some h
    obtain ⟨x1, d1, rfl, h1⟩ := pop_some h0
    obtain ⟨rfl, g⟩ := popN_some h1
    obtain ⟨r1, h1, h2⟩ := bind_some g
    exact ⟨_, h2, slices_ContainsFunc___int_int_.con k _ h1⟩) env0_ok))
theorem det_Check_3.con (k : Nat) {x0 : (List Int)} {x1 : Int} (r : Bool × Int) (h : det_Check_3.f k x0 x1 = some r) : Con Try.prog 159 2 det_Check_3.ti det_Check_3.to [⟨(.slice (.int .i64)), x0⟩, ⟨(.int .i64), x1⟩] (det_Check_3.rs r) :=
  det_Check_3.con' (k + 1) _ r (by show det_Check_3.c k _ = some r; unfold det_Check_3.c; simp only [pop_self, popN]; exact h)
mutual
def slices_IndexFunc_____int___int__2.l2 : Nat → List (List (Int)) → Int → Int → Int → Option (Int × Int)
 | 0, _, _, _, _ => none
 | k + 1, s0, x7, x8, c1_0 =>
  if x8 < x7 then
   if 0 ≤ x8 then
   if x8 < (↑s0.length : Int) then
    (det_Check_3.f k (Go.Proofs.YtiiioobebeaafaaSx.rd [] s0 x8) c1_0).bind fun r5 =>
      if r5.fst = true then
       some (x8, r5.snd)
      else
       slices_IndexFunc_____int___int__2.l2 k s0 x7 (Go.IntKind.i64.wrap (x8 + 1)) r5.snd
    else none
   else none
  else
   some (-1, c1_0)
end
def slices_IndexFunc_____int___int__2.f (k : Nat) (s0 : List (List (Int))) (c1_0 : Int) : Option (Int × Int) :=
 slices_IndexFunc_____int___int__2.l2 k s0 ((↑s0.length : Int)) 0 c1_0

noncomputable def slices_IndexFunc_____int___int__2.body : Code := fnBody Try.f148
def slices_IndexFunc_____int___int__2.ti : Tm := ⟨[(0, .p (.slice (.slice (.int .i64)))), (1, .fn 159 [.ptr 0 0])], [.box [.fn 158 [.ptr 1 0]] 113, .box [.p (.int .i64)] 3]⟩
def slices_IndexFunc_____int___int__2.to : Tm := ⟨[(0, .p (.int .i64))], [.box [.fn 158 [.ptr 1 0]] 113, .box [.p (.int .i64)] 3]⟩
def slices_IndexFunc_____int___int__2.rs (r : Int × Int) : List Dat := [⟨(.int .i64), r.1⟩, ⟨(.int .i64), r.2⟩]
def slices_IndexFunc_____int___int__2.out (ds : List Dat) : Option (Int × Int) := pop (.int .i64) ds fun x0 ds => pop (.int .i64) ds fun x1 ds => popN ds (some (x0, x1))
def slices_IndexFunc_____int___int__2.c (k : Nat) (ds : List Dat) : Option (Int × Int) := pop (.slice (.slice (.int .i64))) ds fun x0 ds => pop (.int .i64) ds fun x1 ds => popN ds (slices_IndexFunc_____int___int__2.f k x0 x1)
def slices_IndexFunc_____int___int__2.g : Nat → List Dat → Option (Int × Int)
 | 0, _ => none
 | k + 1, ds => slices_IndexFunc_____int___int__2.c k ds
def slices_IndexFunc_____int___int__2.env (k : Nat) : Nat → List SV → List Chunk → KT (Int × Int) → Option (Int × Int) := (envC 159 2 det_Check_3.ti det_Check_3.to (fun ds K => pop (.slice (.int .i64)) ds fun x0 ds => pop (.int .i64) ds fun x1 ds => popN ds ((det_Check_3.f k x0 x1).bind fun r => K (det_Check_3.rs r))) env0)
def slices_IndexFunc_____int___int__2.t5 : Tm := ⟨[(0, .p (.slice (.slice (.int .i64)))), (1, .fn 159 [.ptr 0 0]), (7, .p (.int .i64)), (8, .p (.int .i64))], [.box [.fn 158 [.ptr 1 0]] 113, .box [.p (.int .i64)] 3]⟩
def slices_IndexFunc_____int___int__2.c5 (k : Nat) (ds : List Dat) : Option (Int × Int) := pop (.slice (.slice (.int .i64))) ds fun x0 ds => pop (.int .i64) ds fun x1 ds => pop (.int .i64) ds fun x2 ds => pop (.int .i64) ds fun x3 ds => popN ds (slices_IndexFunc_____int___int__2.l2 k x0 x1 x2 x3)
def slices_IndexFunc_____int___int__2.tbl : List (Nat × Tm × (Nat → List Dat → Option (Int × Int))) := [(5, slices_IndexFunc_____int___int__2.t5, slices_IndexFunc_____int___int__2.c5)]
noncomputable abbrev slices_IndexFunc_____int___int__2.R (k : Nat) := run T (slices_IndexFunc_____int___int__2.env k) Try.f148.ntmps (cutE 2 slices_IndexFunc_____int___int__2.tbl k) (finE 2 slices_IndexFunc_____int___int__2.to slices_IndexFunc_____int___int__2.out) (fnRes Try.f148) [] 100000 true
theorem slices_IndexFunc_____int___int__2.e5 (k : Nat) (x0 : (List (List Int))) (x1 : Int) (x2 : Int) (x3 : Int) : slices_IndexFunc_____int___int__2.l2 (k + 1) x0 x1 x2 x3 = slices_IndexFunc_____int___int__2.R k (start (stackOf 5 slices_IndexFunc_____int___int__2.body)) (slices_IndexFunc_____int___int__2.t5.fill [⟨(.slice (.slice (.int .i64))), x0⟩, ⟨(.int .i64), x1⟩, ⟨(.int .i64), x2⟩, ⟨(.int .i64), x3⟩]) := by kernel_rfl
theorem slices_IndexFunc_____int___int__2.s5 : stackAt 5 slices_IndexFunc_____int___int__2.body [] = some (stackOf 5 slices_IndexFunc_____int___int__2.body) := by kernel_rfl
theorem slices_IndexFunc_____int___int__2.h5 (k : Nat) (ds : List Dat) (r : Int × Int) (h : slices_IndexFunc_____int___int__2.c5 k ds = some r) : ∃ k', k' < k ∧ ∃ s, stackAt 5 slices_IndexFunc_____int___int__2.body [] = some s ∧ slices_IndexFunc_____int___int__2.R k' (start s) (slices_IndexFunc_____int___int__2.t5.fill ds) = some r := by
  unfold slices_IndexFunc_____int___int__2.c5 at h
  obtain ⟨x0, d0, rfl, h0⟩ := pop_some h
  obtain ⟨x1, d1, rfl, h1⟩ := pop_some h0
  obtain ⟨x2, d2, rfl, h2⟩ := pop_some h1
  obtain ⟨x3, d3, rfl, h3⟩ := pop_some h2
  obtain ⟨rfl, g⟩ := popN_some h3
  cases k with
  | zero => cases (show none = some r from g)
  | succ k => exact ⟨k, Nat.lt_succ_self k, _, slices_IndexFunc_____int___int__2.s5, (slices_IndexFunc_____int___int__2.e5 k x0 x1 x2 x3).symm.trans g⟩
theorem slices_IndexFunc_____int___int__2.e (k : Nat) (x0 : (List (List Int))) (x1 : Int) : slices_IndexFunc_____int___int__2.f k x0 x1 = slices_IndexFunc_____int___int__2.R k ([.code slices_IndexFunc_____int___int__2.body]) (slices_IndexFunc_____int___int__2.ti.fill [⟨(.slice (.slice (.int .i64))), x0⟩, ⟨(.int .i64), x1⟩]) := by kernel_rfl
theorem slices_IndexFunc_____int___int__2.h (k : Nat) (ds : List Dat) (r : Int × Int) (h : slices_IndexFunc_____int___int__2.g k ds = some r) : ∃ k', k' < k ∧ slices_IndexFunc_____int___int__2.R k' ([.code slices_IndexFunc_____int___int__2.body]) (slices_IndexFunc_____int___int__2.ti.fill ds) = some r := by
  cases k with
  | zero => cases (show none = some r from h)
  | succ k =>
  replace h : slices_IndexFunc_____int___int__2.c k ds = some r := h
  unfold slices_IndexFunc_____int___int__2.c at h
  obtain ⟨x0, d0, rfl, h0⟩ := pop_some h
  obtain ⟨x1, d1, rfl, h1⟩ := pop_some h0
  obtain ⟨rfl, g⟩ := popN_some h1
  exact ⟨k, Nat.lt_succ_self k, (slices_IndexFunc_____int___int__2.e k x0 x1).symm.trans g⟩
theorem slices_IndexFunc_____int___int__2.o (ds : List Dat) (r : Int × Int) (h : slices_IndexFunc_____int___int__2.out ds = some r) : ds = slices_IndexFunc_____int___int__2.rs r := by
  unfold slices_IndexFunc_____int___int__2.out at h
  obtain ⟨x0, d0, rfl, h0⟩ := pop_some h
  obtain ⟨x1, d1, rfl, h1⟩ := pop_some h0
  obtain ⟨rfl, g⟩ := popN_some h1
  cases g
  rfl
theorem slices_IndexFunc_____int___int__2.fn : FnOk Try.prog 148 Try.f148 slices_IndexFunc_____int___int__2.body Try.f148.ntmps 2 (fnRes Try.f148) :=
  fnOk_of (by kernel_rfl) (by kernel_rfl) (by kernel_rfl) (by kernel_rfl)
theorem slices_IndexFunc_____int___int__2.con' : ∀ k ds r, slices_IndexFunc_____int___int__2.g k ds = some r → Con Try.prog 148 2 slices_IndexFunc_____int___int__2.ti slices_IndexFunc_____int___int__2.to ds (slices_IndexFunc_____int___int__2.rs r) :=
  fun_ok (T := T) T_ok mixed slices_IndexFunc_____int___int__2.fn (env := slices_IndexFunc_____int___int__2.env) (tbl := slices_IndexFunc_____int___int__2.tbl) (gOut := slices_IndexFunc_____int___int__2.out) (nin := 2) (cuts := []) (fuel := 100000) rfl (by kernel_rfl) (by kernel_rfl) (by kernel_rfl) (fun x hx => by
    simp only [slices_IndexFunc_____int___int__2.tbl, List.mem_cons, List.not_mem_nil, or_false] at hx
    subst hx
    · exact slices_IndexFunc_____int___int__2.h5
) slices_IndexFunc_____int___int__2.o slices_IndexFunc_____int___int__2.h (fun k _ => by unfold slices_IndexFunc_____int___int__2.env; exact (envC_ok (fun ds K r h => by
    obtain ⟨x0, d0, rfl, h0⟩ := pop_some h
    obtain ⟨x1, d1, rfl, h1⟩ := pop_some h0
    obtain ⟨rfl, g⟩ := popN_some h1
    obtain ⟨r1, h1, h2⟩ := bind_some g
    exact ⟨_, h2, det_Check_3.con k _ h1⟩) env0_ok))
theorem slices_IndexFunc_____int___int__2.con (k : Nat) {x0 : (List (List Int))} {x1 : Int} (r : Int × Int) (h : slices_IndexFunc_____int___int__2.f k x0 x1 = some r) : Con Try.prog 148 2 slices_IndexFunc_____int___int__2.ti slices_IndexFunc_____int___int__2.to [⟨(.slice (.slice (.int .i64))), x0⟩, ⟨(.int .i64), x1⟩] (slices_IndexFunc_____int___int__2.rs r) :=
  slices_IndexFunc_____int___int__2.con' (k + 1) _ r (by show slices_IndexFunc_____int___int__2.c k _ = some r; unfold slices_IndexFunc_____int___int__2.c; simp only [pop_self, popN]; exact h)
def slices_ContainsFunc_____int___int__2.f (k : Nat) (s0 : List (List (Int))) (c1_0 : Int) : Option (Bool × Int) :=
 (slices_IndexFunc_____int___int__2.f k s0 c1_0).bind fun r1 =>
  some (decide (0 ≤ r1.fst), r1.snd)

noncomputable def slices_ContainsFunc_____int___int__2.body : Code := fnBody Try.f75
def slices_ContainsFunc_____int___int__2.ti : Tm := ⟨[(0, .p (.slice (.slice (.int .i64)))), (1, .fn 159 [.ptr 0 0])], [.box [.fn 158 [.ptr 1 0]] 113, .box [.p (.int .i64)] 3]⟩
def slices_ContainsFunc_____int___int__2.to : Tm := ⟨[(0, .p .bool)], [.box [.fn 158 [.ptr 1 0]] 113, .box [.p (.int .i64)] 3]⟩
def slices_ContainsFunc_____int___int__2.rs (r : Bool × Int) : List Dat := [⟨.bool, r.1⟩, ⟨(.int .i64), r.2⟩]
def slices_ContainsFunc_____int___int__2.out (ds : List Dat) : Option (Bool × Int) := pop .bool ds fun x0 ds => pop (.int .i64) ds fun x1 ds => popN ds (some (x0, x1))
def slices_ContainsFunc_____int___int__2.c (k : Nat) (ds : List Dat) : Option (Bool × Int) := pop (.slice (.slice (.int .i64))) ds fun x0 ds => pop (.int .i64) ds fun x1 ds => popN ds (slices_ContainsFunc_____int___int__2.f k x0 x1)
def slices_ContainsFunc_____int___int__2.g : Nat → List Dat → Option (Bool × Int)
 | 0, _ => none
 | k + 1, ds => slices_ContainsFunc_____int___int__2.c k ds
def slices_ContainsFunc_____int___int__2.env (k : Nat) : Nat → List SV → List Chunk → KT (Bool × Int) → Option (Bool × Int) := (envC 148 2 slices_IndexFunc_____int___int__2.ti slices_IndexFunc_____int___int__2.to (fun ds K => pop (.slice (.slice (.int .i64))) ds fun x0 ds => pop (.int .i64) ds fun x1 ds => popN ds ((slices_IndexFunc_____int___int__2.f k x0 x1).bind fun r => K (slices_IndexFunc_____int___int__2.rs r))) env0)
def slices_ContainsFunc_____int___int__2.tbl : List (Nat × Tm × (Nat → List Dat → Option (Bool × Int))) := []
noncomputable abbrev slices_ContainsFunc_____int___int__2.R (k : Nat) := run T (slices_ContainsFunc_____int___int__2.env k) Try.f75.ntmps (cutE 2 slices_ContainsFunc_____int___int__2.tbl k) (finE 2 slices_ContainsFunc_____int___int__2.to slices_ContainsFunc_____int___int__2.out) (fnRes Try.f75) [] 100000 true
theorem slices_ContainsFunc_____int___int__2.e (k : Nat) (x0 : (List (List Int))) (x1 : Int) : slices_ContainsFunc_____int___int__2.f k x0 x1 = slices_ContainsFunc_____int___int__2.R k ([.code slices_ContainsFunc_____int___int__2.body]) (slices_ContainsFunc_____int___int__2.ti.fill [⟨(.slice (.slice (.int .i64))), x0⟩, ⟨(.int .i64), x1⟩]) := by kernel_rfl
theorem slices_ContainsFunc_____int___int__2.h (k : Nat) (ds : List Dat) (r : Bool × Int) (h : slices_ContainsFunc_____int___int__2.g k ds = some r) : ∃ k', k' < k ∧ slices_ContainsFunc_____int___int__2.R k' ([.code slices_ContainsFunc_____int___int__2.body]) (slices_ContainsFunc_____int___int__2.ti.fill ds) = some r := by
  cases k with
  | zero => cases (show none = some r from h)
  | succ k =>
  replace h : slices_ContainsFunc_____int___int__2.c k ds = some r := h
  unfold slices_ContainsFunc_____int___int__2.c at h
  obtain ⟨x0, d0, rfl, h0⟩ := pop_some h
  obtain ⟨x1, d1, rfl, h1⟩ := pop_some h0
  obtain ⟨rfl, g⟩ := popN_some h1
  exact ⟨k, Nat.lt_succ_self k, (slices_ContainsFunc_____int___int__2.e k x0 x1).symm.trans g⟩
theorem slices_ContainsFunc_____int___int__2.o (ds : List Dat) (r : Bool × Int) (h : slices_ContainsFunc_____int___int__2.out ds = some r) : ds = slices_ContainsFunc_____int___int__2.rs r := by
  unfold slices_ContainsFunc_____int___int__2.out at h
  obtain ⟨x0, d0, rfl, h0⟩ := pop_some h
  obtain ⟨x1, d1, rfl, h1⟩ := pop_some h0
  obtain ⟨rfl, g⟩ := popN_some h1
  cases g
  rfl
theorem slices_ContainsFunc_____int___int__2.fn : FnOk Try.prog 75 Try.f75 slices_ContainsFunc_____int___int__2.body Try.f75.ntmps 2 (fnRes Try.f75) :=
  fnOk_of (by kernel_rfl) (by kernel_rfl) (by kernel_rfl) (by kernel_rfl)
theorem slices_ContainsFunc_____int___int__2.con' : ∀ k ds r, slices_ContainsFunc_____int___int__2.g k ds = some r → Con Try.prog 75 2 slices_ContainsFunc_____int___int__2.ti slices_ContainsFunc_____int___int__2.to ds (slices_ContainsFunc_____int___int__2.rs r) :=
  fun_ok (T := T) T_ok mixed slices_ContainsFunc_____int___int__2.fn (env := slices_ContainsFunc_____int___int__2.env) (tbl := slices_ContainsFunc_____int___int__2.tbl) (gOut := slices_ContainsFunc_____int___int__2.out) (nin := 2) (cuts := []) (fuel := 100000) rfl (by kernel_rfl) (by kernel_rfl) (by kernel_rfl) (fun x hx => by simp [slices_ContainsFunc_____int___int__2.tbl] at hx) slices_ContainsFunc_____int___int__2.o slices_ContainsFunc_____int___int__2.h (fun k _ => by unfold slices_ContainsFunc_____int___int__2.env; exact (envC_ok (fun ds K r h => by
    obtain ⟨x0, d0, rfl, h0⟩ := pop_some h
    obtain ⟨x1, d1, rfl, h1⟩ := pop_some h0
    obtain ⟨rfl, g⟩ := popN_some h1
    obtain ⟨r1, h1, h2⟩ := bind_some g
    exact ⟨_, h2, slices_IndexFunc_____int___int__2.con k _ h1⟩) env0_ok))
theorem slices_ContainsFunc_____int___int__2.con (k : Nat) {x0 : (List (List Int))} {x1 : Int} (r : Bool × Int) (h : slices_ContainsFunc_____int___int__2.f k x0 x1 = some r) : Con Try.prog 75 2 slices_ContainsFunc_____int___int__2.ti slices_ContainsFunc_____int___int__2.to [⟨(.slice (.slice (.int .i64))), x0⟩, ⟨(.int .i64), x1⟩] (slices_ContainsFunc_____int___int__2.rs r) :=
  slices_ContainsFunc_____int___int__2.con' (k + 1) _ r (by show slices_ContainsFunc_____int___int__2.c k _ = some r; unfold slices_ContainsFunc_____int___int__2.c; simp only [pop_self, popN]; exact h)
def det_Check_4.f (k : Nat) (m0 : Int) : Option (Bool) :=
 if m0 = 0 then
  some (false)
 else
  some (!decide (m0 = 1))

noncomputable def det_Check_4.body : Code := fnBody Try.f160
def det_Check_4.ti : Tm := ⟨[(0, .p (.int .i64))], []⟩
def det_Check_4.to : Tm := ⟨[(0, .p .bool)], []⟩
def det_Check_4.rs (r : Bool) : List Dat := [⟨.bool, r⟩]
def det_Check_4.out (ds : List Dat) : Option (Bool) := pop .bool ds fun x0 ds => popN ds (some (x0))
def det_Check_4.c (k : Nat) (ds : List Dat) : Option (Bool) := pop (.int .i64) ds fun x0 ds => popN ds (det_Check_4.f k x0)
def det_Check_4.g : Nat → List Dat → Option (Bool)
 | 0, _ => none
 | k + 1, ds => det_Check_4.c k ds
def det_Check_4.env (k : Nat) : Nat → List SV → List Chunk → KT (Bool) → Option (Bool) := env0
def det_Check_4.tbl : List (Nat × Tm × (Nat → List Dat → Option (Bool))) := []
noncomputable abbrev det_Check_4.R (k : Nat) := run T (det_Check_4.env k) Try.f160.ntmps (cutE 0 det_Check_4.tbl k) (finE 0 det_Check_4.to det_Check_4.out) (fnRes Try.f160) [] 100000 true
theorem det_Check_4.e (k : Nat) (x0 : Int) : det_Check_4.f k x0 = det_Check_4.R k ([.code det_Check_4.body]) (det_Check_4.ti.fill [⟨(.int .i64), x0⟩]) := by kernel_rfl
theorem det_Check_4.h (k : Nat) (ds : List Dat) (r : Bool) (h : det_Check_4.g k ds = some r) : ∃ k', k' < k ∧ det_Check_4.R k' ([.code det_Check_4.body]) (det_Check_4.ti.fill ds) = some r := by
  cases k with
  | zero => cases (show none = some r from h)
  | succ k =>
  replace h : det_Check_4.c k ds = some r := h
  unfold det_Check_4.c at h
  obtain ⟨x0, d0, rfl, h0⟩ := pop_some h
  obtain ⟨rfl, g⟩ := popN_some h0
  exact ⟨k, Nat.lt_succ_self k, (det_Check_4.e k x0).symm.trans g⟩
theorem det_Check_4.o (ds : List Dat) (r : Bool) (h : det_Check_4.out ds = some r) : ds = det_Check_4.rs r := by
  unfold det_Check_4.out at h
  obtain ⟨x0, d0, rfl, h0⟩ := pop_some h
  obtain ⟨rfl, g⟩ := popN_some h0
  cases g
  rfl
theorem det_Check_4.fn : FnOk Try.prog 160 Try.f160 det_Check_4.body Try.f160.ntmps 1 (fnRes Try.f160) :=
  fnOk_of (by kernel_rfl) (by kernel_rfl) (by kernel_rfl) (by kernel_rfl)
theorem det_Check_4.con' : ∀ k ds r, det_Check_4.g k ds = some r → Con Try.prog 160 1 det_Check_4.ti det_Check_4.to ds (det_Check_4.rs r) :=
  fun_ok (T := T) T_ok mixed det_Check_4.fn (env := det_Check_4.env) (tbl := det_Check_4.tbl) (gOut := det_Check_4.out) (nin := 0) (cuts := []) (fuel := 100000) rfl (by kernel_rfl) (by kernel_rfl) (by kernel_rfl) (fun x hx => by simp [det_Check_4.tbl] at hx) det_Check_4.o det_Check_4.h (fun k _ => by unfold det_Check_4.env; exact env0_ok)
theorem det_Check_4.con (k : Nat) {x0 : Int} (r : Bool) (h : det_Check_4.f k x0 = some r) : Con Try.prog 160 1 det_Check_4.ti det_Check_4.to [⟨(.int .i64), x0⟩] (det_Check_4.rs r) :=
  det_Check_4.con' (k + 1) _ r (by show det_Check_4.c k _ = some r; unfold det_Check_4.c; simp only [pop_self, popN]; exact h)
mutual
def slices_IndexFunc___int_int__2.l2 : Nat → List (Int) → Int → Int → Option (Int)
 | 0, _, _, _ => none
 | k + 1, s0, x7, x8 =>
  if x8 < x7 then
   if 0 ≤ x8 then
   if x8 < (↑s0.length : Int) then
    (det_Check_4.f k (Go.Proofs.YtiiioobebeaafaaSx.rd (Int.ofNat 0) s0 x8)).bind fun r5 =>
      if r5 = true then
       some (x8)
      else
       slices_IndexFunc___int_int__2.l2 k s0 x7 (Go.IntKind.i64.wrap (x8 + 1))
    else none
   else none
  else
   some (-1)
end
def slices_IndexFunc___int_int__2.f (k : Nat) (s0 : List (Int)) : Option (Int) :=
 slices_IndexFunc___int_int__2.l2 k s0 ((↑s0.length : Int)) 0

noncomputable def slices_IndexFunc___int_int__2.body : Code := fnBody Try.f149
def slices_IndexFunc___int_int__2.ti : Tm := ⟨[(0, .p (.slice (.int .i64))), (1, .fn 160 [])], []⟩
def slices_IndexFunc___int_int__2.to : Tm := ⟨[(0, .p (.int .i64))], []⟩
def slices_IndexFunc___int_int__2.rs (r : Int) : List Dat := [⟨(.int .i64), r⟩]
def slices_IndexFunc___int_int__2.out (ds : List Dat) : Option (Int) := pop (.int .i64) ds fun x0 ds => popN ds (some (x0))
def slices_IndexFunc___int_int__2.c (k : Nat) (ds : List Dat) : Option (Int) := pop (.slice (.int .i64)) ds fun x0 ds => popN ds (slices_IndexFunc___int_int__2.f k x0)
def slices_IndexFunc___int_int__2.g : Nat → List Dat → Option (Int)
 | 0, _ => none
 | k + 1, ds => slices_IndexFunc___int_int__2.c k ds
def slices_IndexFunc___int_int__2.env (k : Nat) : Nat → List SV → List Chunk → KT (Int) → Option (Int) := (envC 160 1 det_Check_4.ti det_Check_4.to (fun ds K => pop (.int .i64) ds fun x0 ds => popN ds ((det_Check_4.f k x0).bind fun r => K (det_Check_4.rs r))) env0)
def slices_IndexFunc___int_int__2.t5 : Tm := ⟨[(0, .p (.slice (.int .i64))), (1, .fn 160 []), (7, .p (.int .i64)), (8, .p (.int .i64))], []⟩
def slices_IndexFunc___int_int__2.c5 (k : Nat) (ds : List Dat) : Option (Int) := pop (.slice (.int .i64)) ds fun x0 ds => pop (.int .i64) ds fun x1 ds => pop (.int .i64) ds fun x2 ds => popN ds (slices_IndexFunc___int_int__2.l2 k x0 x1 x2)
def slices_IndexFunc___int_int__2.tbl : List (Nat × Tm × (Nat → List Dat → Option (Int))) := [(5, slices_IndexFunc___int_int__2.t5, slices_IndexFunc___int_int__2.c5)]
noncomputable abbrev slices_IndexFunc___int_int__2.R (k : Nat) := run T (slices_IndexFunc___int_int__2.env k) Try.f149.ntmps (cutE 0 slices_IndexFunc___int_int__2.tbl k) (finE 0 slices_IndexFunc___int_int__2.to slices_IndexFunc___int_int__2.out) (fnRes Try.f149) [] 100000 true
theorem slices_IndexFunc___int_int__2.e5 (k : Nat) (x0 : (List Int)) (x1 : Int) (x2 : Int) : slices_IndexFunc___int_int__2.l2 (k + 1) x0 x1 x2 = slices_IndexFunc___int_int__2.R k (start (stackOf 5 slices_IndexFunc___int_int__2.body)) (slices_IndexFunc___int_int__2.t5.fill [⟨(.slice (.int .i64)), x0⟩, ⟨(.int .i64), x1⟩, ⟨(.int .i64), x2⟩]) := by kernel_rfl
theorem slices_IndexFunc___int_int__2.s5 : stackAt 5 slices_IndexFunc___int_int__2.body [] = some (stackOf 5 slices_IndexFunc___int_int__2.body) := by kernel_rfl
theorem slices_IndexFunc___int_int__2.h5 (k : Nat) (ds : List Dat) (r : Int) (h : slices_IndexFunc___int_int__2.c5 k ds = some r) : ∃ k', k' < k ∧ ∃ s, stackAt 5 slices_IndexFunc___int_int__2.body [] = some s ∧ slices_IndexFunc___int_int__2.R k' (start s) (slices_IndexFunc___int_int__2.t5.fill ds) = some r := by
  unfold slices_IndexFunc___int_int__2.c5 at h
  obtain ⟨x0, d0, rfl, h0⟩ := pop_some h
  obtain ⟨x1, d1, rfl, h1⟩ := pop_some h0
  obtain ⟨x2, d2, rfl, h2⟩ := pop_some h1
  obtain ⟨rfl, g⟩ := popN_some h2
  cases k with
  | zero => cases (show none = some r from g)
  | succ k => exact ⟨k, Nat.lt_succ_self k, _, slices_IndexFunc___int_int__2.s5, (slices_IndexFunc___int_int__2.e5 k x0 x1 x2).symm.trans g⟩
theorem slices_IndexFunc___int_int__2.e (k : Nat) (x0 : (List Int)) : slices_IndexFunc___int_int__2.f k x0 = slices_IndexFunc___int_int__2.R k ([.code slices_IndexFunc___int_int__2.body]) (slices_IndexFunc___int_int__2.ti.fill [⟨(.slice (.int .i64)), x0⟩]) := by kernel_rfl
theorem slices_IndexFunc___int_int__2.h (k : Nat) (ds : List Dat) (r : Int) (h : slices_IndexFunc___int_int__2.g k ds = some r) : ∃ k', k' < k ∧ slices_IndexFunc___int_int__2.R k' ([.code slices_IndexFunc___int_int__2.body]) (slices_IndexFunc___int_int__2.ti.fill ds) = some r := by
  cases k with
  | zero => cases (show none = some r from h)
  | succ k =>
  replace h : slices_IndexFunc___int_int__2.c k ds = some r := h
  unfold slices_IndexFunc___int_int__2.c at h
  obtain ⟨x0, d0, rfl, h0⟩ := pop_some h
  obtain ⟨rfl, g⟩ := popN_some h0
  exact ⟨k, Nat.lt_succ_self k, (slices_IndexFunc___int_int__2.e k x0).symm.trans g⟩
theorem slices_IndexFunc___int_int__2.o (ds : List Dat) (r : Int) (h : slices_IndexFunc___int_int__2.out ds = some r) : ds = slices_IndexFunc___int_int__2.rs r := by
  unfold slices_IndexFunc___int_int__2.out at h
  obtain ⟨x0, d0, rfl, h0⟩ := pop_some h
  obtain ⟨rfl, g⟩ := popN_some h0
  cases g
  rfl
theorem slices_IndexFunc___int_int__2.fn : FnOk Try.prog 149 Try.f149 slices_IndexFunc___int_int__2.body Try.f149.ntmps 2 (fnRes Try.f149) :=
  fnOk_of (by kernel_rfl) (by kernel_rfl) (by kernel_rfl) (by kernel_rfl)
theorem slices_IndexFunc___int_int__2.con' : ∀ k ds r, slices_IndexFunc___int_int__2.g k ds = some r → Con Try.prog 149 2 slices_IndexFunc___int_int__2.ti slices_IndexFunc___int_int__2.to ds (slices_IndexFunc___int_int__2.rs r) :=
  fun_ok (T := T) T_ok mixed slices_IndexFunc___int_int__2.fn (env := slices_IndexFunc___int_int__2.env) (tbl := slices_IndexFunc___int_int__2.tbl) (gOut := slices_IndexFunc___int_int__2.out) (nin := 0) (cuts := []) (fuel := 100000) rfl (by kernel_rfl) (by kernel_rfl) (by kernel_rfl) (fun x hx => by
    simp only [slices_IndexFunc___int_int__2.tbl, List.mem_cons, List.not_mem_nil, or_false] at hx
    subst hx
    · exact slices_IndexFunc___int_int__2.h5
) slices_IndexFunc___int_int__2.o slices_IndexFunc___int_int__2.h (fun k _ => by unfold slices_IndexFunc___int_int__2.env; exact (envC_ok (fun ds K r h => by
    obtain ⟨x0, d0, rfl, h0⟩ := pop_some h
    obtain ⟨rfl, g⟩ := popN_some h0
    obtain ⟨r1, h1, h2⟩ := bind_some g
    exact ⟨_, h2, det_Check_4.con k _ h1⟩) env0_ok))
theorem slices_IndexFunc___int_int__2.con (k : Nat) {x0 : (List Int)} (r : Int) (h : slices_IndexFunc___int_int__2.f k x0 = some r) : Con Try.prog 149 2 slices_IndexFunc___int_int__2.ti slices_IndexFunc___int_int__2.to [⟨(.slice (.int .i64)), x0⟩] (slices_IndexFunc___int_int__2.rs r) :=
  slices_IndexFunc___int_int__2.con' (k + 1) _ r (by show slices_IndexFunc___int_int__2.c k _ = some r; unfold slices_IndexFunc___int_int__2.c; simp only [pop_self, popN]; exact h)
def slices_ContainsFunc___int_int__2.f (k : Nat) (s0 : List (Int)) : Option (Bool) :=
 (slices_IndexFunc___int_int__2.f k s0).bind fun r1 =>
  some (decide (0 ≤ r1))

noncomputable def slices_ContainsFunc___int_int__2.body : Code := fnBody Try.f77
def slices_ContainsFunc___int_int__2.ti : Tm := ⟨[(0, .p (.slice (.int .i64))), (1, .fn 160 [])], []⟩
def slices_ContainsFunc___int_int__2.to : Tm := ⟨[(0, .p .bool)], []⟩
def slices_ContainsFunc___int_int__2.rs (r : Bool) : List Dat := [⟨.bool, r⟩]
def slices_ContainsFunc___int_int__2.out (ds : List Dat) : Option (Bool) := pop .bool ds fun x0 ds => popN ds (some (x0))
def slices_ContainsFunc___int_int__2.c (k : Nat) (ds : List Dat) : Option (Bool) := pop (.slice (.int .i64)) ds fun x0 ds => popN ds (slices_ContainsFunc___int_int__2.f k x0)
def slices_ContainsFunc___int_int__2.g : Nat → List Dat → Option (Bool)
 | 0, _ => none
 | k + 1, ds => slices_ContainsFunc___int_int__2.c k ds
def slices_ContainsFunc___int_int__2.env (k : Nat) : Nat → List SV → List Chunk → KT (Bool) → Option (Bool) := (envC 149 2 slices_IndexFunc___int_int__2.ti slices_IndexFunc___int_int__2.to (fun ds K => pop (.slice (.int .i64)) ds fun x0 ds => popN ds ((slices_IndexFunc___int_int__2.f k x0).bind fun r => K (slices_IndexFunc___int_int__2.rs r))) env0)
def slices_ContainsFunc___int_int__2.tbl : List (Nat × Tm × (Nat → List Dat → Option (Bool))) := []
noncomputable abbrev slices_ContainsFunc___int_int__2.R (k : Nat) := run T (slices_ContainsFunc___int_int__2.env k) Try.f77.ntmps (cutE 0 slices_ContainsFunc___int_int__2.tbl k) (finE 0 slices_ContainsFunc___int_int__2.to slices_ContainsFunc___int_int__2.out) (fnRes Try.f77) [] 100000 true
theorem slices_ContainsFunc___int_int__2.e (k : Nat) (x0 : (List Int)) : slices_ContainsFunc___int_int__2.f k x0 = slices_ContainsFunc___int_int__2.R k ([.code slices_ContainsFunc___int_int__2.body]) (slices_ContainsFunc___int_int__2.ti.fill [⟨(.slice (.int .i64)), x0⟩]) := by kernel_rfl
theorem slices_ContainsFunc___int_int__2.h (k : Nat) (ds : List Dat) (r : Bool) (h : slices_ContainsFunc___int_int__2.g k ds = some r) : ∃ k', k' < k ∧ slices_ContainsFunc___int_int__2.R k' ([.code slices_ContainsFunc___int_int__2.body]) (slices_ContainsFunc___int_int__2.ti.fill ds) = some r := by
  cases k with
  | zero => cases (show none = some r from h)
  | succ k =>
  replace h : slices_ContainsFunc___int_int__2.c k ds = some r := h
  unfold slices_ContainsFunc___int_int__2.c at h
  obtain ⟨x0, d0, rfl, h0⟩ := pop_some h
  obtain ⟨rfl, g⟩ := popN_some h0
  exact ⟨k, Nat.lt_succ_self k, (slices_ContainsFunc___int_int__2.e k x0).symm.trans g⟩
theorem slices_ContainsFunc___int_int__2.o (ds : List Dat) (r : Bool) (h : slices_ContainsFunc___int_int__2.out ds = some r) : ds = slices_ContainsFunc___int_int__2.rs r := by
  unfold slices_ContainsFunc___int_int__2.out at h
  obtain ⟨x0, d0, rfl, h0⟩ := pop_some h
  obtain ⟨rfl, g⟩ := popN_some h0
  cases g
  rfl
theorem slices_ContainsFunc___int_int__2.fn : FnOk Try.prog 77 Try.f77 slices_ContainsFunc___int_int__2.body Try.f77.ntmps 2 (fnRes Try.f77) :=
  fnOk_of (by kernel_rfl) (by kernel_rfl) (by kernel_rfl) (by kernel_rfl)
theorem slices_ContainsFunc___int_int__2.con' : ∀ k ds r, slices_ContainsFunc___int_int__2.g k ds = some r → Con Try.prog 77 2 slices_ContainsFunc___int_int__2.ti slices_ContainsFunc___int_int__2.to ds (slices_ContainsFunc___int_int__2.rs r) :=
  fun_ok (T := T) T_ok mixed slices_ContainsFunc___int_int__2.fn (env := slices_ContainsFunc___int_int__2.env) (tbl := slices_ContainsFunc___int_int__2.tbl) (gOut := slices_ContainsFunc___int_int__2.out) (nin := 0) (cuts := []) (fuel := 100000) rfl (by kernel_rfl) (by kernel_rfl) (by kernel_rfl) (fun x hx => by simp [slices_ContainsFunc___int_int__2.tbl] at hx) slices_ContainsFunc___int_int__2.o slices_ContainsFunc___int_int__2.h (fun k _ => by unfold slices_ContainsFunc___int_int__2.env; exact (envC_ok (fun ds K r h => by
    obtain ⟨x0, d0, rfl, h0⟩ := pop_some h
    obtain ⟨rfl, g⟩ := popN_some h0
    obtain ⟨r1, h1, h2⟩ := bind_some g
    exact ⟨_, h2, slices_IndexFunc___int_int__2.con k _ h1⟩) env0_ok))
theorem slices_ContainsFunc___int_int__2.con (k : Nat) {x0 : (List Int)} (r : Bool) (h : slices_ContainsFunc___int_int__2.f k x0 = some r) : Con Try.prog 77 2 slices_ContainsFunc___int_int__2.ti slices_ContainsFunc___int_int__2.to [⟨(.slice (.int .i64)), x0⟩] (slices_ContainsFunc___int_int__2.rs r) :=
  slices_ContainsFunc___int_int__2.con' (k + 1) _ r (by show slices_ContainsFunc___int_int__2.c k _ = some r; unfold slices_ContainsFunc___int_int__2.c; simp only [pop_self, popN]; exact h)
def det_Check.f (k : Nat) (d0 : (Int × (Int × (List (List (Int)) × (List (Int) × Unit))))) : Option (Int) :=
 if d0.fst < 1 then
  some (2)
 else
  if 4 < d0.fst then
   some (2)
  else
   if (↑d0.snd.snd.fst.length : Int) < 1 then
    some (1)
   else
    if 3000 < (↑d0.snd.snd.fst.length : Int) then
     some (1)
    else
     if (↑d0.snd.snd.snd.fst.length : Int) = (↑d0.snd.snd.fst.length : Int) then
      (slices_ContainsFunc_____int___int_.f k d0.snd.snd.fst d0.fst d0.snd.fst d0.snd.snd.fst d0.snd.snd.snd.fst).bind fun r6 =>
       if r6.fst = true then
        some (3)
       else
        (det_Check_2.f k r6.snd.snd.fst (↑d0.snd.snd.fst.length : Int)).bind fun r8 =>
         if r8.fst = true then
          some (2)
         else
          (slices_ContainsFunc_____int___int__2.f k r6.snd.snd.snd.fst r8.snd).bind fun r10 =>
           if r10.fst = true then
            some (2)
           else
            (slices_ContainsFunc___int_int__2.f k r6.snd.snd.snd.snd).bind fun r12 =>
             if r12 = true then
              some (2)
             else
              some (0)
     else
      some (3)

noncomputable def det_Check.body : Code := fnBody Try.f99
def det_Check.ti : Tm := ⟨[(0, .p (.pair (.int .i64) (.pair (.int .i64) (.pair (.slice (.slice (.int .i64))) (.pair (.slice (.int .i64)) .unit)))))], []⟩
def det_Check.to : Tm := ⟨[(0, .p (.int .i64))], []⟩
def det_Check.rs (r : Int) : List Dat := [⟨(.int .i64), r⟩]
def det_Check.out (ds : List Dat) : Option (Int) := pop (.int .i64) ds fun x0 ds => popN ds (some (x0))
def det_Check.c (k : Nat) (ds : List Dat) : Option (Int) := pop (.pair (.int .i64) (.pair (.int .i64) (.pair (.slice (.slice (.int .i64))) (.pair (.slice (.int .i64)) .unit)))) ds fun x0 ds => popN ds (det_Check.f k x0)
def det_Check.g : Nat → List Dat → Option (Int)
 | 0, _ => none
 | k + 1, ds => det_Check.c k ds
def det_Check.env (k : Nat) : Nat → List SV → List Chunk → KT (Int) → Option (Int) := (envC 75 2 slices_ContainsFunc_____int___int_.ti slices_ContainsFunc_____int___int_.to (fun ds K => pop (.slice (.slice (.int .i64))) ds fun x0 ds => pop (.int .i64) ds fun x1 ds => pop (.int .i64) ds fun x2 ds => pop (.slice (.slice (.int .i64))) ds fun x3 ds => pop (.slice (.int .i64)) ds fun x4 ds => popN ds ((slices_ContainsFunc_____int___int_.f k x0 x1 x2 x3 x4).bind fun r => K (slices_ContainsFunc_____int___int_.rs r))) (envC 158 2 det_Check_2.ti det_Check_2.to (fun ds K => pop (.int .i64) ds fun x0 ds => pop (.int .i64) ds fun x1 ds => popN ds ((det_Check_2.f k x0 x1).bind fun r => K (det_Check_2.rs r))) (envC 75 2 slices_ContainsFunc_____int___int__2.ti slices_ContainsFunc_____int___int__2.to (fun ds K => pop (.slice (.slice (.int .i64))) ds fun x0 ds => pop (.int .i64) ds fun x1 ds => popN ds ((slices_ContainsFunc_____int___int__2.f k x0 x1).bind fun r => K (slices_ContainsFunc_____int___int__2.rs r))) (envC 77 2 slices_ContainsFunc___int_int__2.ti slices_ContainsFunc___int_int__2.to (fun ds K => pop (.slice (.int .i64)) ds fun x0 ds => popN ds ((slices_ContainsFunc___int_int__2.f k x0).bind fun r => K (slices_ContainsFunc___int_int__2.rs r))) env0))))
def det_Check.tbl : List (Nat × Tm × (Nat → List Dat → Option (Int))) := []
noncomputable abbrev det_Check.R (k : Nat) := run T (det_Check.env k) Try.f99.ntmps (cutE 0 det_Check.tbl k) (finE 0 det_Check.to det_Check.out) (fnRes Try.f99) [] 100000 true
theorem det_Check.e (k : Nat) (x0 : (Int × (Int × ((List (List Int)) × ((List Int) × Unit))))) : det_Check.f k x0 = det_Check.R k ([.code det_Check.body]) (det_Check.ti.fill [⟨(.pair (.int .i64) (.pair (.int .i64) (.pair (.slice (.slice (.int .i64))) (.pair (.slice (.int .i64)) .unit)))), x0⟩]) := by kernel_rfl
theorem det_Check.h (k : Nat) (ds : List Dat) (r : Int) (h : det_Check.g k ds = some r) : ∃ k', k' < k ∧ det_Check.R k' ([.code det_Check.body]) (det_Check.ti.fill ds) = some r := by
  cases k with
  | zero => cases (show none = some r from h)
  | succ k =>
  replace h : det_Check.c k ds = some r := h
  unfold det_Check.c at h
  obtain ⟨x0, d0, rfl, h0⟩ := pop_some h
  obtain ⟨rfl, g⟩ := popN_some h0
  exact ⟨k, Nat.lt_succ_self k, (det_Check.e k x0).symm.trans g⟩
theorem det_Check.o (ds : List Dat) (r : Int) (h : det_Check.out ds = some r) : ds = det_Check.rs r := by
  unfold det_Check.out at h
  obtain ⟨x0, d0, rfl, h0⟩ := pop_some h
  obtain ⟨rfl, g⟩ := popN_some h0
  cases g
  rfl
theorem det_Check.fn : FnOk Try.prog 99 Try.f99 det_Check.body Try.f99.ntmps 1 (fnRes Try.f99) :=
  fnOk_of (by kernel_rfl) (by kernel_rfl) (by kernel_rfl) (by kernel_rfl)
theorem det_Check.con' : ∀ k ds r, det_Check.g k ds = some r → Con Try.prog 99 1 det_Check.ti det_Check.to ds (det_Check.rs r) :=
  fun_ok (T := T) T_ok mixed det_Check.fn (env := det_Check.env) (tbl := det_Check.tbl) (gOut := det_Check.out) (nin := 0) (cuts := []) (fuel := 100000) rfl (by kernel_rfl) (by kernel_rfl) (by kernel_rfl) (fun x hx => by simp [det_Check.tbl] at hx) det_Check.o det_Check.h (fun k _ => by unfold det_Check.env; exact (envC_ok (fun ds K r h => by
    obtain ⟨x0, d0, rfl, h0⟩ := pop_some h
    obtain ⟨x1, d1, rfl, h1⟩ := pop_some h0
    obtain ⟨x2, d2, rfl, h2⟩ := pop_some h1
    obtain ⟨x3, d3, rfl, h3⟩ := pop_some h2
    obtain ⟨x4, d4, rfl, h4⟩ := pop_some h3
    obtain ⟨rfl, g⟩ := popN_some h4
    obtain ⟨r1, h1, h2⟩ := bind_some g
    exact ⟨_, h2, slices_ContainsFunc_____int___int_.con k _ h1⟩) (envC_ok (fun ds K r h => by
    obtain ⟨x0, d0, rfl, h0⟩ := pop_some h
    obtain ⟨x1, d1, rfl, h1⟩ := pop_some h0
    obtain ⟨rfl, g⟩ := popN_some h1
    obtain ⟨r1, h1, h2⟩ := bind_some g
    exact ⟨_, h2, det_Check_2.con k _ h1⟩) (envC_ok (fun ds K r h => by
    obtain ⟨x0, d0, rfl, h0⟩ := pop_some h
    obtain ⟨x1, d1, rfl, h1⟩ := pop_some h0
    obtain ⟨rfl, g⟩ := popN_some h1
    obtain ⟨r1, h1, h2⟩ := bind_some g
    exact ⟨_, h2, slices_ContainsFunc_____int___int__2.con k _ h1⟩) (envC_ok (fun ds K r h => by
    obtain ⟨x0, d0, rfl, h0⟩ := pop_some h
    obtain ⟨rfl, g⟩ := popN_some h0
    obtain ⟨r1, h1, h2⟩ := bind_some g
    exact ⟨_, h2, slices_ContainsFunc___int_int__2.con k _ h1⟩) env0_ok)))))
theorem det_Check.con (k : Nat) {x0 : (Int × (Int × ((List (List Int)) × ((List Int) × Unit))))} (r : Int) (h : det_Check.f k x0 = some r) : Con Try.prog 99 1 det_Check.ti det_Check.to [⟨(.pair (.int .i64) (.pair (.int .i64) (.pair (.slice (.slice (.int .i64))) (.pair (.slice (.int .i64)) .unit)))), x0⟩] (det_Check.rs r) :=
  det_Check.con' (k + 1) _ r (by show det_Check.c k _ = some r; unfold det_Check.c; simp only [pop_self, popN]; exact h)
def slices_Clone___int_int_.f (k : Nat) (x0 : List (Int)) : Option (List (Int)) := if Short x0.length then some x0 else none
def slices_Clone___int_int_.ti : Tm := cloneIn (.int .i64)
def slices_Clone___int_int_.to : Tm := cloneOut (.int .i64)
def slices_Clone___int_int_.rs (r : List Int) : List Dat := [⟨.slice (.int .i64), r⟩]
theorem slices_Clone___int_int_.fn : FnOk Try.prog 84 Try.f84 (fnBody Try.f84) Try.f84.ntmps 1 (fnRes Try.f84) :=
  fnOk_of (by kernel_rfl) (by kernel_rfl) (by kernel_rfl) (by kernel_rfl)
theorem slices_Clone___int_int_.con (k : Nat) {x0 : List Int} (r : List Int) (h : slices_Clone___int_int_.f k x0 = some r) : Con Try.prog 84 1 slices_Clone___int_int_.ti slices_Clone___int_int_.to [⟨.slice (.int .i64), x0⟩] (slices_Clone___int_int_.rs r) := by
  unfold slices_Clone___int_int_.f at h
  split at h
  · rename_i hs
    cases h
    exact clone_con (u := (.int .i64)) (t := 23) (t' := 23) (k := restOf (stackOf 2 (fnBody Try.f84))) (ops := opsAt 1 (fnBody Try.f84)) (o1 := opAt 0 (opsAt 1 (fnBody Try.f84))) (o2 := opAt 1 (opsAt 1 (fnBody Try.f84))) T_ok mixed slices_Clone___int_int_.fn (by kernel_rfl) ⟨by kernel_rfl, by kernel_rfl, by kernel_rfl, by kernel_rfl, by kernel_rfl, by kernel_rfl, by kernel_rfl, ⟨3, by kernel_rfl⟩⟩ (Nat.le_of_ble_eq_true (by kernel_rfl)) (by kernel_rfl) (by kernel_rfl) (fun L => by kernel_rfl) (by kernel_rfl) (fun L => by kernel_rfl) x0 hs
  · cases h
mutual
def det_Classes.l3 : Nat → Int → Int → Int → List (List (Int)) → List (Int) → List (Int) → Option (List Int)
 | 0, _, _, _, _, _, _ => none
 | k + 1, count4, d1_0, d1_1, d1_2, d1_3, class3 =>
  if 0 ≤ (↑class3.length : Int) then
  if (↑class3.length : Int) ≤ (↑class3.length : Int) then
   if (↑class3.length : Int) * ((↑8 : Int) + 1) ≤ 1099511627776 then
    det_Classes.l6 k count4 d1_2 ((↑d1_2.length : Int)) 0 d1_0 d1_1 d1_2 d1_3 class3 [] (List.replicate (↑class3.length : Int).toNat (Int.ofNat 0))
    else none
   else none
  else none
def det_Classes.l6 : Nat → Int → List (List (Int)) → Int → Int → Int → Int → List (List (Int)) → List (Int) → List (Int) → List (((Int × (ByteArray × Unit)) × Int)) → List (Int) → Option (List Int)
 | 0, _, _, _, _, _, _, _, _, _, _, _ => none
 | k + 1, count4, x23, x24, x25, d1_0, d1_1, d1_2, d1_3, class3, number5, next6 =>
  if x25 < x24 then
   if 0 ≤ x25 then
   if x25 < (↑x23.length : Int) then
    det_Classes.l10 k count4 x25 x23 x24 x25 (Go.Proofs.YtiiioobebeaafaaSx.rd [] x23 x25) ((↑(Go.Proofs.YtiiioobebeaafaaSx.rd [] x23 x25).length : Int)) 0 d1_0 d1_1 d1_2 d1_3 class3 number5 next6 []
    else none
   else none
  else
   if (↑number5.length : Int) = count4 then
    some (next6)
   else
    det_Classes.l3 k ((↑number5.length : Int)) d1_0 d1_1 d1_2 d1_3 next6
def det_Classes.l10 : Nat → Int → Int → List (List (Int)) → Int → Int → List (Int) → Int → Int → Int → Int → List (List (Int)) → List (Int) → List (Int) → List (((Int × (ByteArray × Unit)) × Int)) → List (Int) → List (Int) → Option (List Int)
 | 0, _, _, _, _, _, _, _, _, _, _, _, _, _, _, _, _ => none
 | k + 1, count4, q7, x23, x24, x25, x30, x31, x32, d1_0, d1_1, d1_2, d1_3, class3, number5, next6, b9 =>
  if x32 < x31 then
   if 0 ≤ x32 then
   if x32 < (↑x30.length : Int) then
    if 0 ≤ Go.Proofs.YtiiioobebeaafaaSx.rd (Int.ofNat 0) x30 x32 then
     if Go.Proofs.YtiiioobebeaafaaSx.rd (Int.ofNat 0) x30 x32 < (↑class3.length : Int) then
      if 0 ≤ Go.Proofs.YtiiioobebeaafaaSx.rd (Int.ofNat 0) x30 x32 then
       if Go.Proofs.YtiiioobebeaafaaSx.rd (Int.ofNat 0) x30 x32 < (↑class3.length : Int) then
        if 0 ≤ 8 then
         if (b9 ++ [Go.IntKind.u8.wrap (class3.getD (Go.Proofs.YtiiioobebeaafaaSx.rd (Int.ofNat 0) x30 x32).toNat (Int.ofNat 0)), Go.IntKind.u8.wrap ((class3.getD (Go.Proofs.YtiiioobebeaafaaSx.rd (Int.ofNat 0) x30 x32).toNat (Int.ofNat 0)).fdiv (2 ^ min (Int.toNat 8) Go.IntKind.i64.bits))]).length.blt 1000000000 = true then
          det_Classes.l10 k count4 q7 x23 x24 x25 x30 x31 (Go.IntKind.i64.wrap (x32 + 1)) d1_0 d1_1 d1_2 d1_3 class3 number5 next6 (b9 ++ [Go.IntKind.u8.wrap (class3.getD (Go.Proofs.YtiiioobebeaafaaSx.rd (Int.ofNat 0) x30 x32).toNat (Int.ofNat 0)), Go.IntKind.u8.wrap ((class3.getD (Go.Proofs.YtiiioobebeaafaaSx.rd (Int.ofNat 0) x30 x32).toNat (Int.ofNat 0)).fdiv (2 ^ min (Int.toNat 8) Go.IntKind.i64.bits))])
          else none
         else none
        else none
       else none
      else none
     else none
    else none
   else none
  else
   if 0 ≤ q7 then
   if q7 < (↑class3.length : Int) then
    if Go.Proofs.YtiiioobebeaafaaSx.mhas ((Go.Proofs.YtiiioobebeaafaaSx.Ty.int Go.IntKind.i64).pair (Go.Proofs.YtiiioobebeaafaaSx.Ty.str.pair Go.Proofs.YtiiioobebeaafaaSx.Ty.unit)) (Go.Proofs.YtiiioobebeaafaaSx.Ty.int Go.IntKind.i64) number5 (class3.getD q7.toNat (Int.ofNat 0), Go.Proofs.YtiiioobebeaafaaSx.strOf b9, ()) = true then
      det_Classes.j18 k count4 q7 x23 x24 x25 d1_0 d1_1 d1_2 d1_3 class3 number5 next6 (class3.getD q7.toNat (Int.ofNat 0)) (Go.Proofs.YtiiioobebeaafaaSx.strOf b9)
     else
      det_Classes.j18 k count4 q7 x23 x24 x25 d1_0 d1_1 d1_2 d1_3 class3 (Go.Proofs.YtiiioobebeaafaaSx.mput ((Go.Proofs.YtiiioobebeaafaaSx.Ty.int Go.IntKind.i64).pair (Go.Proofs.YtiiioobebeaafaaSx.Ty.str.pair Go.Proofs.YtiiioobebeaafaaSx.Ty.unit)) (Go.Proofs.YtiiioobebeaafaaSx.Ty.int Go.IntKind.i64) number5 (class3.getD q7.toNat (Int.ofNat 0), Go.Proofs.YtiiioobebeaafaaSx.strOf b9, ()) (↑number5.length : Int)) next6 (class3.getD q7.toNat (Int.ofNat 0)) (Go.Proofs.YtiiioobebeaafaaSx.strOf b9)
    else none
   else none
def det_Classes.j18 : Nat → Int → Int → List (List (Int)) → Int → Int → Int → Int → List (List (Int)) → List (Int) → List (Int) → List (((Int × (ByteArray × Unit)) × Int)) → List (Int) → Int → ByteArray → Option (List Int)
 | 0, _, _, _, _, _, _, _, _, _, _, _, _, _, _ => none
 | k + 1, count4, q7, x23, x24, x25, d1_0, d1_1, d1_2, d1_3, class3, number5, next6, k12_0, k12_1 =>
  if 0 ≤ q7 then
  if q7 < (↑next6.length : Int) then
   det_Classes.l6 k count4 x23 x24 (Go.IntKind.i64.wrap (x25 + 1)) d1_0 d1_1 d1_2 d1_3 class3 number5 (next6.set q7.toNat (Go.Proofs.YtiiioobebeaafaaSx.mget ((Go.Proofs.YtiiioobebeaafaaSx.Ty.int Go.IntKind.i64).pair (Go.Proofs.YtiiioobebeaafaaSx.Ty.str.pair Go.Proofs.YtiiioobebeaafaaSx.Ty.unit)) (Go.Proofs.YtiiioobebeaafaaSx.Ty.int Go.IntKind.i64) number5 (k12_0, k12_1, ())))
   else none
  else none
end
def det_Classes.f (k : Nat) (d0 : (Int × (Int × (List (List (Int)) × (List (Int) × Unit))))) : Option (List Int) :=
 (slices_Clone___int_int_.f k d0.snd.snd.snd.fst).bind fun r1 =>
  det_Classes.l3 k 0 d0.fst d0.snd.fst d0.snd.snd.fst d0.snd.snd.snd.fst r1

noncomputable def det_Classes.body : Code := fnBody Try.f161
def det_Classes.ti : Tm := ⟨[(0, .p (.pair (.int .i64) (.pair (.int .i64) (.pair (.slice (.slice (.int .i64))) (.pair (.slice (.int .i64)) .unit)))))], []⟩
def det_Classes.to : Tm := ⟨[(0, .own 0)], [.own (.int .i64)]⟩
def det_Classes.rs (r : (List Int)) : List Dat := [⟨(.slice (.int .i64)), r⟩]
def det_Classes.out (ds : List Dat) : Option ((List Int)) := pop (.slice (.int .i64)) ds fun x0 ds => popN ds (some (x0))
def det_Classes.c (k : Nat) (ds : List Dat) : Option ((List Int)) := pop (.pair (.int .i64) (.pair (.int .i64) (.pair (.slice (.slice (.int .i64))) (.pair (.slice (.int .i64)) .unit)))) ds fun x0 ds => popN ds (det_Classes.f k x0)
def det_Classes.g : Nat → List Dat → Option ((List Int))
 | 0, _ => none
 | k + 1, ds => det_Classes.c k ds
def det_Classes.env (k : Nat) : Nat → List SV → List Chunk → KT ((List Int)) → Option ((List Int)) := (envC 84 1 slices_Clone___int_int_.ti slices_Clone___int_int_.to (fun ds K => pop (.slice (.int .i64)) ds fun x0 ds => popN ds ((slices_Clone___int_int_.f k x0).bind fun r => K (slices_Clone___int_int_.rs r))) env0)
def det_Classes.t7 : Tm := ⟨[(1, .ptr 0 0), (3, .own 1), (4, .p (.int .i64))], [.box [.p (.int .i64), .p (.int .i64), .p (.slice (.slice (.int .i64))), .p (.slice (.int .i64))] 58, .own (.int .i64)]⟩
def det_Classes.c7 (k : Nat) (ds : List Dat) : Option ((List Int)) := pop (.int .i64) ds fun x0 ds => pop (.int .i64) ds fun x1 ds => pop (.int .i64) ds fun x2 ds => pop (.slice (.slice (.int .i64))) ds fun x3 ds => pop (.slice (.int .i64)) ds fun x4 ds => pop (.slice (.int .i64)) ds fun x5 ds => popN ds (det_Classes.l3 k x0 x1 x2 x3 x4 x5)
def det_Classes.t13 : Tm := ⟨[(1, .ptr 0 0), (3, .own 1), (4, .p (.int .i64)), (5, .map 2), (6, .own 3), (23, .p (.slice (.slice (.int .i64)))), (24, .p (.int .i64)), (25, .p (.int .i64))], [.box [.p (.int .i64), .p (.int .i64), .p (.slice (.slice (.int .i64))), .p (.slice (.int .i64))] 58, .own (.int .i64), .map (.pair (.int .i64) (.pair .str .unit)) (.int .i64), .own (.int .i64)]⟩
def det_Classes.c13 (k : Nat) (ds : List Dat) : Option ((List Int)) := pop (.int .i64) ds fun x0 ds => pop (.slice (.slice (.int .i64))) ds fun x1 ds => pop (.int .i64) ds fun x2 ds => pop (.int .i64) ds fun x3 ds => pop (.int .i64) ds fun x4 ds => pop (.int .i64) ds fun x5 ds => pop (.slice (.slice (.int .i64))) ds fun x6 ds => pop (.slice (.int .i64)) ds fun x7 ds => pop (.slice (.int .i64)) ds fun x8 ds => pop (.slice (.pair (.pair (.int .i64) (.pair .str .unit)) (.int .i64))) ds fun x9 ds => pop (.slice (.int .i64)) ds fun x10 ds => popN ds (det_Classes.l6 k x0 x1 x2 x3 x4 x5 x6 x7 x8 x9 x10)
def det_Classes.t21 : Tm := ⟨[(1, .ptr 0 0), (3, .own 1), (4, .p (.int .i64)), (5, .map 2), (6, .own 3), (7, .p (.int .i64)), (9, .own 4), (23, .p (.slice (.slice (.int .i64)))), (24, .p (.int .i64)), (25, .p (.int .i64)), (30, .p (.slice (.int .i64))), (31, .p (.int .i64)), (32, .p (.int .i64))], [.box [.p (.int .i64), .p (.int .i64), .p (.slice (.slice (.int .i64))), .p (.slice (.int .i64))] 58, .own (.int .i64), .map (.pair (.int .i64) (.pair .str .unit)) (.int .i64), .own (.int .i64), .own (.int .u8)]⟩
def det_Classes.c21 (k : Nat) (ds : List Dat) : Option ((List Int)) := pop (.int .i64) ds fun x0 ds => pop (.int .i64) ds fun x1 ds => pop (.slice (.slice (.int .i64))) ds fun x2 ds => pop (.int .i64) ds fun x3 ds => pop (.int .i64) ds fun x4 ds => pop (.slice (.int .i64)) ds fun x5 ds => pop (.int .i64) ds fun x6 ds => pop (.int .i64) ds fun x7 ds => pop (.int .i64) ds fun x8 ds => pop (.int .i64) ds fun x9 ds => pop (.slice (.slice (.int .i64))) ds fun x10 ds => pop (.slice (.int .i64)) ds fun x11 ds => pop (.slice (.int .i64)) ds fun x12 ds => pop (.slice (.pair (.pair (.int .i64) (.pair .str .unit)) (.int .i64))) ds fun x13 ds => pop (.slice (.int .i64)) ds fun x14 ds => pop (.slice (.int .u8)) ds fun x15 ds => popN ds (det_Classes.l10 k x0 x1 x2 x3 x4 x5 x6 x7 x8 x9 x10 x11 x12 x13 x14 x15)
def det_Classes.t36 : Tm := ⟨[(1, .ptr 0 0), (3, .own 1), (4, .p (.int .i64)), (5, .map 2), (6, .own 3), (7, .p (.int .i64)), (12, .ptr 4 0), (23, .p (.slice (.slice (.int .i64)))), (24, .p (.int .i64)), (25, .p (.int .i64))], [.box [.p (.int .i64), .p (.int .i64), .p (.slice (.slice (.int .i64))), .p (.slice (.int .i64))] 58, .own (.int .i64), .map (.pair (.int .i64) (.pair .str .unit)) (.int .i64), .own (.int .i64), .box [.p (.int .i64), .p .str] 202]⟩
def det_Classes.c36 (k : Nat) (ds : List Dat) : Option ((List Int)) := pop (.int .i64) ds fun x0 ds => pop (.int .i64) ds fun x1 ds => pop (.slice (.slice (.int .i64))) ds fun x2 ds => pop (.int .i64) ds fun x3 ds => pop (.int .i64) ds fun x4 ds => pop (.int .i64) ds fun x5 ds => pop (.int .i64) ds fun x6 ds => pop (.slice (.slice (.int .i64))) ds fun x7 ds => pop (.slice (.int .i64)) ds fun x8 ds => pop (.slice (.int .i64)) ds fun x9 ds => pop (.slice (.pair (.pair (.int .i64) (.pair .str .unit)) (.int .i64))) ds fun x10 ds => pop (.slice (.int .i64)) ds fun x11 ds => pop (.int .i64) ds fun x12 ds => pop .str ds fun x13 ds => popN ds (det_Classes.j18 k x0 x1 x2 x3 x4 x5 x6 x7 x8 x9 x10 x11 x12 x13)
def det_Classes.tbl : List (Nat × Tm × (Nat → List Dat → Option ((List Int)))) := [(7, det_Classes.t7, det_Classes.c7), (13, det_Classes.t13, det_Classes.c13), (21, det_Classes.t21, det_Classes.c21), (36, det_Classes.t36, det_Classes.c36)]
noncomputable abbrev det_Classes.R (k : Nat) := run T (det_Classes.env k) Try.f161.ntmps (cutE 0 det_Classes.tbl k) (finE 0 det_Classes.to det_Classes.out) (fnRes Try.f161) [18] 100000 true
theorem det_Classes.e7 (k : Nat) (x0 : Int) (x1 : Int) (x2 : Int) (x3 : (List (List Int))) (x4 : (List Int)) (x5 : (List Int)) : det_Classes.l3 (k + 1) x0 x1 x2 x3 x4 x5 = det_Classes.R k (start (stackOf 7 det_Classes.body)) (det_Classes.t7.fill [⟨(.int .i64), x0⟩, ⟨(.int .i64), x1⟩, ⟨(.int .i64), x2⟩, ⟨(.slice (.slice (.int .i64))), x3⟩, ⟨(.slice (.int .i64)), x4⟩, ⟨(.slice (.int .i64)), x5⟩]) := by kernel_rfl
theorem det_Classes.s7 : stackAt 7 det_Classes.body [] = some (stackOf 7 det_Classes.body) := by kernel_rfl
theorem det_Classes.h7 (k : Nat) (ds : List Dat) (r : (List Int)) (h : det_Classes.c7 k ds = some r) : ∃ k', k' < k ∧ ∃ s, stackAt 7 det_Classes.body [] = some s ∧ det_Classes.R k' (start s) (det_Classes.t7.fill ds) = some r := by
  unfold det_Classes.c7 at h
  obtain ⟨x0, d0, rfl, h0⟩ := pop_some h
  obtain ⟨x1, d1, rfl, h1⟩ := pop_some h0
  obtain ⟨x2, d2, rfl, h2⟩ := pop_some h1
  obtain ⟨x3, d3, rfl, h3⟩ := pop_some h2
  obtain ⟨x4, d4, rfl, h4⟩ := pop_some h3
  obtain ⟨x5, d5, rfl, h5⟩ := pop_some h4
  obtain ⟨rfl, g⟩ := popN_some h5
  cases k with
  | zero => cases (show none = some r from g)
  | succ k => exact ⟨k, Nat.lt_succ_self k, _, det_Classes.s7, (det_Classes.e7 k x0 x1 x2 x3 x4 x5).symm.trans g⟩
theorem det_Classes.e13 (k : Nat) (x0 : Int) (x1 : (List (List Int))) (x2 : Int) (x3 : Int) (x4 : Int) (x5 : Int) (x6 : (List (List Int))) (x7 : (List Int)) (x8 : (List Int)) (x9 : (List ((Int × (ByteArray × Unit)) × Int))) (x10 : (List Int)) : det_Classes.l6 (k + 1) x0 x1 x2 x3 x4 x5 x6 x7 x8 x9 x10 = det_Classes.R k (start (stackOf 13 det_Classes.body)) (det_Classes.t13.fill [⟨(.int .i64), x0⟩, ⟨(.slice (.slice (.int .i64))), x1⟩, ⟨(.int .i64), x2⟩, ⟨(.int .i64), x3⟩, ⟨(.int .i64), x4⟩, ⟨(.int .i64), x5⟩, ⟨(.slice (.slice (.int .i64))), x6⟩, ⟨(.slice (.int .i64)), x7⟩, ⟨(.slice (.int .i64)), x8⟩, ⟨(.slice (.pair (.pair (.int .i64) (.pair .str .unit)) (.int .i64))), x9⟩, ⟨(.slice (.int .i64)), x10⟩]) := by kernel_rfl
theorem det_Classes.s13 : stackAt 13 det_Classes.body [] = some (stackOf 13 det_Classes.body) := by kernel_rfl
theorem det_Classes.h13 (k : Nat) (ds : List Dat) (r : (List Int)) (h : det_Classes.c13 k ds = some r) : ∃ k', k' < k ∧ ∃ s, stackAt 13 det_Classes.body [] = some s ∧ det_Classes.R k' (start s) (det_Classes.t13.fill ds) = some r := by
  unfold det_Classes.c13 at h
  obtain ⟨x0, d0, rfl, h0⟩ := pop_some h
  obtain ⟨x1, d1, rfl, h1⟩ := pop_some h0
  obtain ⟨x2, d2, rfl, h2⟩ := pop_some h1
  obtain ⟨x3, d3, rfl, h3⟩ := pop_some h2
  obtain ⟨x4, d4, rfl, h4⟩ := pop_some h3
  obtain ⟨x5, d5, rfl, h5⟩ := pop_some h4
  obtain ⟨x6, d6, rfl, h6⟩ := pop_some h5
  obtain ⟨x7, d7, rfl, h7⟩ := pop_some h6
  obtain ⟨x8, d8, rfl, h8⟩ := pop_some h7
  obtain ⟨x9, d9, rfl, h9⟩ := pop_some h8
  obtain ⟨x10, d10, rfl, h10⟩ := pop_some h9
  obtain ⟨rfl, g⟩ := popN_some h10
  cases k with
  | zero => cases (show none = some r from g)
  | succ k => exact ⟨k, Nat.lt_succ_self k, _, det_Classes.s13, (det_Classes.e13 k x0 x1 x2 x3 x4 x5 x6 x7 x8 x9 x10).symm.trans g⟩
theorem det_Classes.e21 (k : Nat) (x0 : Int) (x1 : Int) (x2 : (List (List Int))) (x3 : Int) (x4 : Int) (x5 : (List Int)) (x6 : Int) (x7 : Int) (x8 : Int) (x9 : Int) (x10 : (List (List Int))) (x11 : (List Int)) (x12 : (List Int)) (x13 : (List ((Int × (ByteArray × Unit)) × Int))) (x14 : (List Int)) (x15 : (List Int)) : det_Classes.l10 (k + 1) x0 x1 x2 x3 x4 x5 x6 x7 x8 x9 x10 x11 x12 x13 x14 x15 = det_Classes.R k (start (stackOf 21 det_Classes.body)) (det_Classes.t21.fill [⟨(.int .i64), x0⟩, ⟨(.int .i64), x1⟩, ⟨(.slice (.slice (.int .i64))), x2⟩, ⟨(.int .i64), x3⟩, ⟨(.int .i64), x4⟩, ⟨(.slice (.int .i64)), x5⟩, ⟨(.int .i64), x6⟩, ⟨(.int .i64), x7⟩, ⟨(.int .i64), x8⟩, ⟨(.int .i64), x9⟩, ⟨(.slice (.slice (.int .i64))), x10⟩, ⟨(.slice (.int .i64)), x11⟩, ⟨(.slice (.int .i64)), x12⟩, ⟨(.slice (.pair (.pair (.int .i64) (.pair .str .unit)) (.int .i64))), x13⟩, ⟨(.slice (.int .i64)), x14⟩, ⟨(.slice (.int .u8)), x15⟩]) := by kernel_rfl
theorem det_Classes.s21 : stackAt 21 det_Classes.body [] = some (stackOf 21 det_Classes.body) := by kernel_rfl
theorem det_Classes.h21 (k : Nat) (ds : List Dat) (r : (List Int)) (h : det_Classes.c21 k ds = some r) : ∃ k', k' < k ∧ ∃ s, stackAt 21 det_Classes.body [] = some s ∧ det_Classes.R k' (start s) (det_Classes.t21.fill ds) = some r := by
  unfold det_Classes.c21 at h
  obtain ⟨x0, d0, rfl, h0⟩ := pop_some h
  obtain ⟨x1, d1, rfl, h1⟩ := pop_some h0
  obtain ⟨x2, d2, rfl, h2⟩ := pop_some h1
  obtain ⟨x3, d3, rfl, h3⟩ := pop_some h2
  obtain ⟨x4, d4, rfl, h4⟩ := pop_some h3
  obtain ⟨x5, d5, rfl, h5⟩ := pop_some h4
  obtain ⟨x6, d6, rfl, h6⟩ := pop_some h5
  obtain ⟨x7, d7, rfl, h7⟩ := pop_some h6
  obtain ⟨x8, d8, rfl, h8⟩ := pop_some h7
  obtain ⟨x9, d9, rfl, h9⟩ := pop_some h8
  obtain ⟨x10, d10, rfl, h10⟩ := pop_some h9
  obtain ⟨x11, d11, rfl, h11⟩ := pop_some h10
  obtain ⟨x12, d12, rfl, h12⟩ := pop_some h11
  obtain ⟨x13, d13, rfl, h13⟩ := pop_some h12
  obtain ⟨x14, d14, rfl, h14⟩ := pop_some h13
  obtain ⟨x15, d15, rfl, h15⟩ := pop_some h14
  obtain ⟨rfl, g⟩ := popN_some h15
  cases k with
  | zero => cases (show none = some r from g)
  | succ k => exact ⟨k, Nat.lt_succ_self k, _, det_Classes.s21, (det_Classes.e21 k x0 x1 x2 x3 x4 x5 x6 x7 x8 x9 x10 x11 x12 x13 x14 x15).symm.trans g⟩
theorem det_Classes.e36 (k : Nat) (x0 : Int) (x1 : Int) (x2 : (List (List Int))) (x3 : Int) (x4 : Int) (x5 : Int) (x6 : Int) (x7 : (List (List Int))) (x8 : (List Int)) (x9 : (List Int)) (x10 : (List ((Int × (ByteArray × Unit)) × Int))) (x11 : (List Int)) (x12 : Int) (x13 : ByteArray) : det_Classes.j18 (k + 1) x0 x1 x2 x3 x4 x5 x6 x7 x8 x9 x10 x11 x12 x13 = det_Classes.R k (start (stackOf 36 det_Classes.body)) (det_Classes.t36.fill [⟨(.int .i64), x0⟩, ⟨(.int .i64), x1⟩, ⟨(.slice (.slice (.int .i64))), x2⟩, ⟨(.int .i64), x3⟩, ⟨(.int .i64), x4⟩, ⟨(.int .i64), x5⟩, ⟨(.int .i64), x6⟩, ⟨(.slice (.slice (.int .i64))), x7⟩, ⟨(.slice (.int .i64)), x8⟩, ⟨(.slice (.int .i64)), x9⟩, ⟨(.slice (.pair (.pair (.int .i64) (.pair .str .unit)) (.int .i64))), x10⟩, ⟨(.slice (.int .i64)), x11⟩, ⟨(.int .i64), x12⟩, ⟨.str, x13⟩]) := by kernel_rfl
theorem det_Classes.s36 : stackAt 36 det_Classes.body [] = some (stackOf 36 det_Classes.body) := by kernel_rfl
theorem det_Classes.h36 (k : Nat) (ds : List Dat) (r : (List Int)) (h : det_Classes.c36 k ds = some r) : ∃ k', k' < k ∧ ∃ s, stackAt 36 det_Classes.body [] = some s ∧ det_Classes.R k' (start s) (det_Classes.t36.fill ds) = some r := by
  unfold det_Classes.c36 at h
  obtain ⟨x0, d0, rfl, h0⟩ := pop_some h
  obtain ⟨x1, d1, rfl, h1⟩ := pop_some h0
  obtain ⟨x2, d2, rfl, h2⟩ := pop_some h1
  obtain ⟨x3, d3, rfl, h3⟩ := pop_some h2
  obtain ⟨x4, d4, rfl, h4⟩ := pop_some h3
  obtain ⟨x5, d5, rfl, h5⟩ := pop_some h4
  obtain ⟨x6, d6, rfl, h6⟩ := pop_some h5
  obtain ⟨x7, d7, rfl, h7⟩ := pop_some h6
  obtain ⟨x8, d8, rfl, h8⟩ := pop_some h7
  obtain ⟨x9, d9, rfl, h9⟩ := pop_some h8
  obtain ⟨x10, d10, rfl, h10⟩ := pop_some h9
  obtain ⟨x11, d11, rfl, h11⟩ := pop_some h10
  obtain ⟨x12, d12, rfl, h12⟩ := pop_some h11
  obtain ⟨x13, d13, rfl, h13⟩ := pop_some h12
  obtain ⟨rfl, g⟩ := popN_some h13
  cases k with
  | zero => cases (show none = some r from g)
  | succ k => exact ⟨k, Nat.lt_succ_self k, _, det_Classes.s36, (det_Classes.e36 k x0 x1 x2 x3 x4 x5 x6 x7 x8 x9 x10 x11 x12 x13).symm.trans g⟩
theorem det_Classes.e (k : Nat) (x0 : (Int × (Int × ((List (List Int)) × ((List Int) × Unit))))) : det_Classes.f k x0 = det_Classes.R k ([.code det_Classes.body]) (det_Classes.ti.fill [⟨(.pair (.int .i64) (.pair (.int .i64) (.pair (.slice (.slice (.int .i64))) (.pair (.slice (.int .i64)) .unit)))), x0⟩]) := by kernel_rfl
theorem det_Classes.h (k : Nat) (ds : List Dat) (r : (List Int)) (h : det_Classes.g k ds = some r) : ∃ k', k' < k ∧ det_Classes.R k' ([.code det_Classes.body]) (det_Classes.ti.fill ds) = some r := by
  cases k with
  | zero => cases (show none = some r from h)
  | succ k =>
  replace h : det_Classes.c k ds = some r := h
  unfold det_Classes.c at h
  obtain ⟨x0, d0, rfl, h0⟩ := pop_some h
  obtain ⟨rfl, g⟩ := popN_some h0
  exact ⟨k, Nat.lt_succ_self k, (det_Classes.e k x0).symm.trans g⟩
theorem det_Classes.o (ds : List Dat) (r : (List Int)) (h : det_Classes.out ds = some r) : ds = det_Classes.rs r := by
  unfold det_Classes.out at h
  obtain ⟨x0, d0, rfl, h0⟩ := pop_some h
  obtain ⟨rfl, g⟩ := popN_some h0
  cases g
  rfl
theorem det_Classes.fn : FnOk Try.prog 161 Try.f161 det_Classes.body Try.f161.ntmps 1 (fnRes Try.f161) :=
  fnOk_of (by kernel_rfl) (by kernel_rfl) (by kernel_rfl) (by kernel_rfl)
theorem det_Classes.con' : ∀ k ds r, det_Classes.g k ds = some r → Con Try.prog 161 1 det_Classes.ti det_Classes.to ds (det_Classes.rs r) :=
  fun_ok (T := T) T_ok mixed det_Classes.fn (env := det_Classes.env) (tbl := det_Classes.tbl) (gOut := det_Classes.out) (nin := 0) (cuts := [18]) (fuel := 100000) rfl (by kernel_rfl) (by kernel_rfl) (by kernel_rfl) (fun x hx => by
    simp only [det_Classes.tbl, List.mem_cons, List.not_mem_nil, or_false] at hx
    rcases hx with rfl | rfl | rfl | rfl
    · exact det_Classes.h7
    · exact det_Classes.h13
    · exact det_Classes.h21
    · exact det_Classes.h36
) det_Classes.o det_Classes.h (fun k _ => by unfold det_Classes.env; exact (envC_ok (fun ds K r h => by
    obtain ⟨x0, d0, rfl, h0⟩ := pop_some h
    obtain ⟨rfl, g⟩ := popN_some h0
    obtain ⟨r1, h1, h2⟩ := bind_some g
    exact ⟨_, h2, slices_Clone___int_int_.con k _ h1⟩) env0_ok))
theorem det_Classes.con (k : Nat) {x0 : (Int × (Int × ((List (List Int)) × ((List Int) × Unit))))} (r : (List Int)) (h : det_Classes.f k x0 = some r) : Con Try.prog 161 1 det_Classes.ti det_Classes.to [⟨(.pair (.int .i64) (.pair (.int .i64) (.pair (.slice (.slice (.int .i64))) (.pair (.slice (.int .i64)) .unit)))), x0⟩] (det_Classes.rs r) :=
  det_Classes.con' (k + 1) _ r (by show det_Classes.c k _ = some r; unfold det_Classes.c; simp only [pop_self, popN]; exact h)
def det_Smallest_1.f (k : Nat) (c0 : Int) (a1 : Int) (x3_0 : Int) (x3_1 : Int) (x3_2 : List (List (Int))) (x3_3 : List (Int)) (c3 : List (Int)) (c4 : List (Int)) : Option (Int × Int × Int × List (List Int) × List Int × List Int × List Int) :=
 if 0 ≤ c0 then
 if c0 < (↑c4.length : Int) then
  if 0 ≤ c4.getD c0.toNat (Int.ofNat 0) then
   if c4.getD c0.toNat (Int.ofNat 0) < (↑x3_2.length : Int) then
    if 0 ≤ a1 then
     if a1 < (↑(Go.Proofs.YtiiioobebeaafaaSx.rd [] x3_2 (c4.getD c0.toNat (Int.ofNat 0))).length : Int) then
      if 0 ≤ Go.Proofs.YtiiioobebeaafaaSx.rd (Int.ofNat 0) (Go.Proofs.YtiiioobebeaafaaSx.rd [] x3_2 (c4.getD c0.toNat (Int.ofNat 0))) a1 then
       if Go.Proofs.YtiiioobebeaafaaSx.rd (Int.ofNat 0) (Go.Proofs.YtiiioobebeaafaaSx.rd [] x3_2 (c4.getD c0.toNat (Int.ofNat 0))) a1 < (↑c3.length : Int) then
        some (c3.getD (Go.Proofs.YtiiioobebeaafaaSx.rd (Int.ofNat 0) (Go.Proofs.YtiiioobebeaafaaSx.rd [] x3_2 (c4.getD c0.toNat (Int.ofNat 0))) a1).toNat (Int.ofNat 0), x3_0, x3_1, x3_2, x3_3, c3, c4)
        else none
       else none
      else none
     else none
    else none
   else none
  else none
 else none

noncomputable def det_Smallest_1.body : Code := fnBody Try.f162
def det_Smallest_1.ti : Tm := ⟨[(0, .p (.int .i64)), (1, .p (.int .i64)), (2, .ptr 0 0), (3, .ptr 1 0), (4, .ptr 2 0)], [.box [.own 3] 23, .box [.p (.int .i64), .p (.int .i64), .p (.slice (.slice (.int .i64))), .p (.slice (.int .i64))] 58, .box [.own 4] 23, .own (.int .i64), .own (.int .i64)]⟩
def det_Smallest_1.to : Tm := ⟨[(0, .p (.int .i64))], [.box [.own 3] 23, .box [.p (.int .i64), .p (.int .i64), .p (.slice (.slice (.int .i64))), .p (.slice (.int .i64))] 58, .box [.own 4] 23, .own (.int .i64), .own (.int .i64)]⟩
def det_Smallest_1.rs (r : Int × Int × Int × (List (List Int)) × (List Int) × (List Int) × (List Int)) : List Dat := [⟨(.int .i64), r.1⟩, ⟨(.int .i64), r.2.1⟩, ⟨(.int .i64), r.2.2.1⟩, ⟨(.slice (.slice (.int .i64))), r.2.2.2.1⟩, ⟨(.slice (.int .i64)), r.2.2.2.2.1⟩, ⟨(.slice (.int .i64)), r.2.2.2.2.2.1⟩, ⟨(.slice (.int .i64)), r.2.2.2.2.2.2⟩]
def det_Smallest_1.out (ds : List Dat) : Option (Int × Int × Int × (List (List Int)) × (List Int) × (List Int) × (List Int)) := pop (.int .i64) ds fun x0 ds => pop (.int .i64) ds fun x1 ds => pop (.int .i64) ds fun x2 ds => pop (.slice (.slice (.int .i64))) ds fun x3 ds => pop (.slice (.int .i64)) ds fun x4 ds => pop (.slice (.int .i64)) ds fun x5 ds => pop (.slice (.int .i64)) ds fun x6 ds => popN ds (some (x0, x1, x2, x3, x4, x5, x6))
def det_Smallest_1.c (k : Nat) (ds : List Dat) : Option (Int × Int × Int × (List (List Int)) × (List Int) × (List Int) × (List Int)) := pop (.int .i64) ds fun x0 ds => pop (.int .i64) ds fun x1 ds => pop (.int .i64) ds fun x2 ds => pop (.int .i64) ds fun x3 ds => pop (.slice (.slice (.int .i64))) ds fun x4 ds => pop (.slice (.int .i64)) ds fun x5 ds => pop (.slice (.int .i64)) ds fun x6 ds => pop (.slice (.int .i64)) ds fun x7 ds => popN ds (det_Smallest_1.f k x0 x1 x2 x3 x4 x5 x6 x7)
def det_Smallest_1.g : Nat → List Dat → Option (Int × Int × Int × (List (List Int)) × (List Int) × (List Int) × (List Int))
 | 0, _ => none
 | k + 1, ds => det_Smallest_1.c k ds
def det_Smallest_1.env (k : Nat) : Nat → List SV → List Chunk → KT (Int × Int × Int × (List (List Int)) × (List Int) × (List Int) × (List Int)) → Option (Int × Int × Int × (List (List Int)) × (List Int) × (List Int) × (List Int)) := env0
def det_Smallest_1.tbl : List (Nat × Tm × (Nat → List Dat → Option (Int × Int × Int × (List (List Int)) × (List Int) × (List Int) × (List Int)))) := []
noncomputable abbrev det_Smallest_1.R (k : Nat) := run T (det_Smallest_1.env k) Try.f162.ntmps (cutE 5 det_Smallest_1.tbl k) (finE 5 det_Smallest_1.to det_Smallest_1.out) (fnRes Try.f162) [] 100000 true
theorem det_Smallest_1.e (k : Nat) (x0 : Int) (x1 : Int) (x2 : Int) (x3 : Int) (x4 : (List (List Int))) (x5 : (List Int)) (x6 : (List Int)) (x7 : (List Int)) : det_Smallest_1.f k x0 x1 x2 x3 x4 x5 x6 x7 = det_Smallest_1.R k ([.code det_Smallest_1.body]) (det_Smallest_1.ti.fill [⟨(.int .i64), x0⟩, ⟨(.int .i64), x1⟩, ⟨(.int .i64), x2⟩, ⟨(.int .i64), x3⟩, ⟨(.slice (.slice (.int .i64))), x4⟩, ⟨(.slice (.int .i64)), x5⟩, ⟨(.slice (.int .i64)), x6⟩, ⟨(.slice (.int .i64)), x7⟩]) := by kernel_rfl
theorem det_Smallest_1.h (k : Nat) (ds : List Dat) (r : Int × Int × Int × (List (List Int)) × (List Int) × (List Int) × (List Int)) (h : det_Smallest_1.g k ds = some r) : ∃ k', k' < k ∧ det_Smallest_1.R k' ([.code det_Smallest_1.body]) (det_Smallest_1.ti.fill ds) = some r := by
  cases k with
  | zero => cases (show none = some r from h)
  | succ k =>
  replace h : det_Smallest_1.c k ds = some r := h
  unfold det_Smallest_1.c at h
  obtain ⟨x0, d0, rfl, h0⟩ := pop_some h
  obtain ⟨x1, d1, rfl, h1⟩ := pop_some h0
  obtain ⟨x2, d2, rfl, h2⟩ := pop_some h1
  obtain ⟨x3, d3, rfl, h3⟩ := pop_some h2
  obtain ⟨x4, d4, rfl, h4⟩ := pop_some h3
  obtain ⟨x5, d5, rfl, h5⟩ := pop_some h4
  obtain ⟨x6, d6, rfl, h6⟩ := pop_some h5
  obtain ⟨x7, d7, rfl, h7⟩ := pop_some h6
  obtain ⟨rfl, g⟩ := popN_some h7
  exact ⟨k, Nat.lt_succ_self k, (det_Smallest_1.e k x0 x1 x2 x3 x4 x5 x6 x7).symm.trans g⟩
theorem det_Smallest_1.o (ds : List Dat) (r : Int × Int × Int × (List (List Int)) × (List Int) × (List Int) × (List Int)) (h : det_Smallest_1.out ds = some r) : ds = det_Smallest_1.rs r := by
  unfold det_Smallest_1.out at h
  obtain ⟨x0, d0, rfl, h0⟩ := pop_some h
  obtain ⟨x1, d1, rfl, h1⟩ := pop_some h0
  obtain ⟨x2, d2, rfl, h2⟩ := pop_some h1
  obtain ⟨x3, d3, rfl, h3⟩ := pop_some h2
  obtain ⟨x4, d4, rfl, h4⟩ := pop_some h3
  obtain ⟨x5, d5, rfl, h5⟩ := pop_some h4
  obtain ⟨x6, d6, rfl, h6⟩ := pop_some h5
  obtain ⟨rfl, g⟩ := popN_some h6
  cases g
  rfl
theorem det_Smallest_1.fn : FnOk Try.prog 162 Try.f162 det_Smallest_1.body Try.f162.ntmps 5 (fnRes Try.f162) :=
  fnOk_of (by kernel_rfl) (by kernel_rfl) (by kernel_rfl) (by kernel_rfl)
theorem det_Smallest_1.con' : ∀ k ds r, det_Smallest_1.g k ds = some r → Con Try.prog 162 5 det_Smallest_1.ti det_Smallest_1.to ds (det_Smallest_1.rs r) :=
  fun_ok (T := T) T_ok mixed det_Smallest_1.fn (env := det_Smallest_1.env) (tbl := det_Smallest_1.tbl) (gOut := det_Smallest_1.out) (nin := 5) (cuts := []) (fuel := 100000) rfl (by kernel_rfl) (by kernel_rfl) (by kernel_rfl) (fun x hx => by simp [det_Smallest_1.tbl] at hx) det_Smallest_1.o det_Smallest_1.h (fun k _ => by unfold det_Smallest_1.env; exact env0_ok)
theorem det_Smallest_1.con (k : Nat) {x0 : Int} {x1 : Int} {x2 : Int} {x3 : Int} {x4 : (List (List Int))} {x5 : (List Int)} {x6 : (List Int)} {x7 : (List Int)} (r : Int × Int × Int × (List (List Int)) × (List Int) × (List Int) × (List Int)) (h : det_Smallest_1.f k x0 x1 x2 x3 x4 x5 x6 x7 = some r) : Con Try.prog 162 5 det_Smallest_1.ti det_Smallest_1.to [⟨(.int .i64), x0⟩, ⟨(.int .i64), x1⟩, ⟨(.int .i64), x2⟩, ⟨(.int .i64), x3⟩, ⟨(.slice (.slice (.int .i64))), x4⟩, ⟨(.slice (.int .i64)), x5⟩, ⟨(.slice (.int .i64)), x6⟩, ⟨(.slice (.int .i64)), x7⟩] (det_Smallest_1.rs r) :=
  det_Smallest_1.con' (k + 1) _ r (by show det_Smallest_1.c k _ = some r; unfold det_Smallest_1.c; simp only [pop_self, popN]; exact h)
def det_Smallest_2.f (k : Nat) (c0 : Int) (x1_0 : Int) (x1_1 : Int) (x1_2 : List (List (Int))) (x1_3 : List (Int)) (c2 : List (Int)) : Option (Int × Int × Int × List (List Int) × List Int × List Int) :=
 if 0 ≤ c0 then
 if c0 < (↑c2.length : Int) then
  if 0 ≤ c2.getD c0.toNat (Int.ofNat 0) then
   if c2.getD c0.toNat (Int.ofNat 0) < (↑x1_3.length : Int) then
    some (Go.Proofs.YtiiioobebeaafaaSx.rd (Int.ofNat 0) x1_3 (c2.getD c0.toNat (Int.ofNat 0)), x1_0, x1_1, x1_2, x1_3, c2)
    else none
   else none
  else none
 else none

noncomputable def det_Smallest_2.body : Code := fnBody Try.f163
def det_Smallest_2.ti : Tm := ⟨[(0, .p (.int .i64)), (1, .ptr 0 0), (2, .ptr 1 0)], [.box [.p (.int .i64), .p (.int .i64), .p (.slice (.slice (.int .i64))), .p (.slice (.int .i64))] 58, .box [.own 2] 23, .own (.int .i64)]⟩
def det_Smallest_2.to : Tm := ⟨[(0, .p (.int .i64))], [.box [.p (.int .i64), .p (.int .i64), .p (.slice (.slice (.int .i64))), .p (.slice (.int .i64))] 58, .box [.own 2] 23, .own (.int .i64)]⟩
def det_Smallest_2.rs (r : Int × Int × Int × (List (List Int)) × (List Int) × (List Int)) : List Dat := [⟨(.int .i64), r.1⟩, ⟨(.int .i64), r.2.1⟩, ⟨(.int .i64), r.2.2.1⟩, ⟨(.slice (.slice (.int .i64))), r.2.2.2.1⟩, ⟨(.slice (.int .i64)), r.2.2.2.2.1⟩, ⟨(.slice (.int .i64)), r.2.2.2.2.2⟩]
def det_Smallest_2.out (ds : List Dat) : Option (Int × Int × Int × (List (List Int)) × (List Int) × (List Int)) := pop (.int .i64) ds fun x0 ds => pop (.int .i64) ds fun x1 ds => pop (.int .i64) ds fun x2 ds => pop (.slice (.slice (.int .i64))) ds fun x3 ds => pop (.slice (.int .i64)) ds fun x4 ds => pop (.slice (.int .i64)) ds fun x5 ds => popN ds (some (x0, x1, x2, x3, x4, x5))
def det_Smallest_2.c (k : Nat) (ds : List Dat) : Option (Int × Int × Int × (List (List Int)) × (List Int) × (List Int)) := pop (.int .i64) ds fun x0 ds => pop (.int .i64) ds fun x1 ds => pop (.int .i64) ds fun x2 ds => pop (.slice (.slice (.int .i64))) ds fun x3 ds => pop (.slice (.int .i64)) ds fun x4 ds => pop (.slice (.int .i64)) ds fun x5 ds => popN ds (det_Smallest_2.f k x0 x1 x2 x3 x4 x5)
def det_Smallest_2.g : Nat → List Dat → Option (Int × Int × Int × (List (List Int)) × (List Int) × (List Int))
 | 0, _ => none
 | k + 1, ds => det_Smallest_2.c k ds
def det_Smallest_2.env (k : Nat) : Nat → List SV → List Chunk → KT (Int × Int × Int × (List (List Int)) × (List Int) × (List Int)) → Option (Int × Int × Int × (List (List Int)) × (List Int) × (List Int)) := env0
def det_Smallest_2.tbl : List (Nat × Tm × (Nat → List Dat → Option (Int × Int × Int × (List (List Int)) × (List Int) × (List Int)))) := []
noncomputable abbrev det_Smallest_2.R (k : Nat) := run T (det_Smallest_2.env k) Try.f163.ntmps (cutE 3 det_Smallest_2.tbl k) (finE 3 det_Smallest_2.to det_Smallest_2.out) (fnRes Try.f163) [] 100000 true
theorem det_Smallest_2.e (k : Nat) (x0 : Int) (x1 : Int) (x2 : Int) (x3 : (List (List Int))) (x4 : (List Int)) (x5 : (List Int)) : det_Smallest_2.f k x0 x1 x2 x3 x4 x5 = det_Smallest_2.R k ([.code det_Smallest_2.body]) (det_Smallest_2.ti.fill [⟨(.int .i64), x0⟩, ⟨(.int .i64), x1⟩, ⟨(.int .i64), x2⟩, ⟨(.slice (.slice (.int .i64))), x3⟩, ⟨(.slice (.int .i64)), x4⟩, ⟨(.slice (.int .i64)), x5⟩]) := by kernel_rfl
theorem det_Smallest_2.h (k : Nat) (ds : List Dat) (r : Int × Int × Int × (List (List Int)) × (List Int) × (List Int)) (h : det_Smallest_2.g k ds = some r) : ∃ k', k' < k ∧ det_Smallest_2.R k' ([.code det_Smallest_2.body]) (det_Smallest_2.ti.fill ds) = some r := by
  cases k with
  | zero => cases (show none = some r from h)
  | succ k =>
  replace h : det_Smallest_2.c k ds = some r := h
  unfold det_Smallest_2.c at h
  obtain ⟨x0, d0, rfl, h0⟩ := pop_some h
  obtain ⟨x1, d1, rfl, h1⟩ := pop_some h0
  obtain ⟨x2, d2, rfl, h2⟩ := pop_some h1
  obtain ⟨x3, d3, rfl, h3⟩ := pop_some h2
  obtain ⟨x4, d4, rfl, h4⟩ := pop_some h3
  obtain ⟨x5, d5, rfl, h5⟩ := pop_some h4
  obtain ⟨rfl, g⟩ := popN_some h5
  exact ⟨k, Nat.lt_succ_self k, (det_Smallest_2.e k x0 x1 x2 x3 x4 x5).symm.trans g⟩
theorem det_Smallest_2.o (ds : List Dat) (r : Int × Int × Int × (List (List Int)) × (List Int) × (List Int)) (h : det_Smallest_2.out ds = some r) : ds = det_Smallest_2.rs r := by
  unfold det_Smallest_2.out at h
  obtain ⟨x0, d0, rfl, h0⟩ := pop_some h
  obtain ⟨x1, d1, rfl, h1⟩ := pop_some h0
  obtain ⟨x2, d2, rfl, h2⟩ := pop_some h1
  obtain ⟨x3, d3, rfl, h3⟩ := pop_some h2
  obtain ⟨x4, d4, rfl, h4⟩ := pop_some h3
  obtain ⟨x5, d5, rfl, h5⟩ := pop_some h4
  obtain ⟨rfl, g⟩ := popN_some h5
  cases g
  rfl
theorem det_Smallest_2.fn : FnOk Try.prog 163 Try.f163 det_Smallest_2.body Try.f163.ntmps 3 (fnRes Try.f163) :=
  fnOk_of (by kernel_rfl) (by kernel_rfl) (by kernel_rfl) (by kernel_rfl)
theorem det_Smallest_2.con' : ∀ k ds r, det_Smallest_2.g k ds = some r → Con Try.prog 163 3 det_Smallest_2.ti det_Smallest_2.to ds (det_Smallest_2.rs r) :=
  fun_ok (T := T) T_ok mixed det_Smallest_2.fn (env := det_Smallest_2.env) (tbl := det_Smallest_2.tbl) (gOut := det_Smallest_2.out) (nin := 3) (cuts := []) (fuel := 100000) rfl (by kernel_rfl) (by kernel_rfl) (by kernel_rfl) (fun x hx => by simp [det_Smallest_2.tbl] at hx) det_Smallest_2.o det_Smallest_2.h (fun k _ => by unfold det_Smallest_2.env; exact env0_ok)
theorem det_Smallest_2.con (k : Nat) {x0 : Int} {x1 : Int} {x2 : Int} {x3 : (List (List Int))} {x4 : (List Int)} {x5 : (List Int)} (r : Int × Int × Int × (List (List Int)) × (List Int) × (List Int)) (h : det_Smallest_2.f k x0 x1 x2 x3 x4 x5 = some r) : Con Try.prog 163 3 det_Smallest_2.ti det_Smallest_2.to [⟨(.int .i64), x0⟩, ⟨(.int .i64), x1⟩, ⟨(.int .i64), x2⟩, ⟨(.slice (.slice (.int .i64))), x3⟩, ⟨(.slice (.int .i64)), x4⟩, ⟨(.slice (.int .i64)), x5⟩] (det_Smallest_2.rs r) :=
  det_Smallest_2.con' (k + 1) _ r (by show det_Smallest_2.c k _ = some r; unfold det_Smallest_2.c; simp only [pop_self, popN]; exact h)
mutual
def det_Explore_int_.l4 : Nat → Int → Int → Int → Int → List (List (Int)) → List (Int) → List (Int) → List (Int) → Int → Int → Int → Int → List ((Int × Int)) → List (Int) → List (List (Int)) → List (Int) → List (List (Int)) → List (Int) → Option (Int × Int × Bool × Int × Int × List (List Int) × List Int × List Int × List Int × List (List Int) × List Int)
 | 0, _, _, _, _, _, _, _, _, _, _, _, _, _, _, _, _, _, _ => none
 | k + 1, letters0, most4, c1_0, c1_1, c1_2, c1_3, c3, c4, x10_0, x10_1, d12_0, d12_1, number13, l14, c9, c10, c11, c12 =>
  if (↑c11.length : Int) < (↑l14.length : Int) then
   if 0 ≤ (↑c11.length : Int) then
   if (↑c11.length : Int) < (↑l14.length : Int) then
    if 0 ≤ letters0 then
     if letters0 ≤ letters0 then
      if letters0 * ((↑8 : Int) + 1) ≤ 1099511627776 then
       det_Explore_int_.l8 k letters0 most4 (l14.getD (↑c11.length : Int).toNat (Int.ofNat 0)) letters0 0 c1_0 c1_1 c1_2 c1_3 c3 c4 x10_0 x10_1 d12_0 d12_1 number13 l14 (List.replicate letters0.toNat (Int.ofNat 0)) c9 c10 c11 c12
       else none
      else none
     else none
    else none
   else none
  else
   some (d12_0, d12_1, true, c1_0, c1_1, c1_2, c1_3, c3, c4, c11, c12)
def det_Explore_int_.l8 : Nat → Int → Int → Int → Int → Int → Int → Int → List (List (Int)) → List (Int) → List (Int) → List (Int) → Int → Int → Int → Int → List ((Int × Int)) → List (Int) → List (Int) → List (List (Int)) → List (Int) → List (List (Int)) → List (Int) → Option (Int × Int × Bool × Int × Int × List (List Int) × List Int × List Int × List Int × List (List Int) × List Int)
 | 0, _, _, _, _, _, _, _, _, _, _, _, _, _, _, _, _, _, _, _, _, _, _ => none
 | k + 1, letters0, most4, k15, x42, x43, c1_0, c1_1, c1_2, c1_3, c3, c4, x10_0, x10_1, d12_0, d12_1, number13, l14, row16, c10, c11, c12, c13 =>
  if x43 < x42 then
   (det_Smallest_1.f k k15 x43 c1_0 c1_1 c1_2 c1_3 c3 c4).bind fun r3 =>
    if Go.Proofs.YtiiioobebeaafaaSx.mhas (Go.Proofs.YtiiioobebeaafaaSx.Ty.int Go.IntKind.i64) (Go.Proofs.YtiiioobebeaafaaSx.Ty.int Go.IntKind.i64) number13 r3.fst = true then
     det_Explore_int_.j18 k letters0 most4 k15 x43 (Go.Proofs.YtiiioobebeaafaaSx.mget (Go.Proofs.YtiiioobebeaafaaSx.Ty.int Go.IntKind.i64) (Go.Proofs.YtiiioobebeaafaaSx.Ty.int Go.IntKind.i64) number13 r3.fst) x42 x43 r3.snd.fst r3.snd.snd.fst r3.snd.snd.snd.fst r3.snd.snd.snd.snd.fst r3.snd.snd.snd.snd.snd.fst r3.snd.snd.snd.snd.snd.snd x10_0 x10_1 d12_0 d12_1 number13 l14 row16 c10 c11 c12 c13
    else
     if (↑l14.length : Int) = most4 then
      some (0, 0, false, r3.snd.fst, r3.snd.snd.fst, r3.snd.snd.snd.fst, r3.snd.snd.snd.snd.fst, r3.snd.snd.snd.snd.snd.fst, r3.snd.snd.snd.snd.snd.snd, [], [])
     else
      if (l14 ++ [r3.fst]).length.blt 1000000000 = true then
      det_Explore_int_.j18 k letters0 most4 k15 x43 ((↑l14.length : Int)) x42 x43 r3.snd.fst r3.snd.snd.fst r3.snd.snd.snd.fst r3.snd.snd.snd.snd.fst r3.snd.snd.snd.snd.snd.fst r3.snd.snd.snd.snd.snd.snd x10_0 x10_1 d12_0 d12_1 (Go.Proofs.YtiiioobebeaafaaSx.mput (Go.Proofs.YtiiioobebeaafaaSx.Ty.int Go.IntKind.i64) (Go.Proofs.YtiiioobebeaafaaSx.Ty.int Go.IntKind.i64) number13 r3.fst (↑l14.length : Int)) (l14 ++ [r3.fst]) row16 c10 c11 c12 c13
      else none
  else
   if (c12 ++ [row16]).length.blt 1000000000 = true then
   (det_Smallest_2.f k k15 c1_0 c1_1 c1_2 c1_3 c4).bind fun r4 =>
     if (c13 ++ [r4.fst]).length.blt 1000000000 = true then
     det_Explore_int_.l4 k letters0 most4 r4.snd.fst r4.snd.snd.fst r4.snd.snd.snd.fst r4.snd.snd.snd.snd.fst c3 r4.snd.snd.snd.snd.snd x10_0 x10_1 d12_0 d12_1 number13 l14 c10 c11 (c12 ++ [row16]) (c13 ++ [r4.fst])
     else none
   else none
def det_Explore_int_.j18 : Nat → Int → Int → Int → Int → Int → Int → Int → Int → Int → List (List (Int)) → List (Int) → List (Int) → List (Int) → Int → Int → Int → Int → List ((Int × Int)) → List (Int) → List (Int) → List (List (Int)) → List (Int) → List (List (Int)) → List (Int) → Option (Int × Int × Bool × Int × Int × List (List Int) × List Int × List Int × List Int × List (List Int) × List Int)
 | 0, _, _, _, _, _, _, _, _, _, _, _, _, _, _, _, _, _, _, _, _, _, _, _, _ => none
 | k + 1, letters0, most4, k15, a17, n19, x42, x43, c1_0, c1_1, c1_2, c1_3, c3, c4, x10_0, x10_1, d12_0, d12_1, number13, l14, row16, c10, c11, c12, c13 =>
  if 0 ≤ a17 then
  if a17 < (↑row16.length : Int) then
   det_Explore_int_.l8 k letters0 most4 k15 x42 (Go.IntKind.i64.wrap (x43 + 1)) c1_0 c1_1 c1_2 c1_3 c3 c4 x10_0 x10_1 d12_0 d12_1 number13 l14 (row16.set a17.toNat n19) c10 c11 c12 c13
   else none
  else none
end
def det_Explore_int_.f (k : Nat) (letters0 : Int) (first1 : Int) (most4 : Int) (c1_0 : Int) (c1_1 : Int) (c1_2 : List (List (Int))) (c1_3 : List (Int)) (c3 : List (Int)) (c4 : List (Int)) : Option (Int × Int × Bool × Int × Int × List (List Int) × List Int × List Int × List Int × List (List Int) × List Int) :=
 det_Explore_int_.l4 k letters0 most4 c1_0 c1_1 c1_2 c1_3 c3 c4 0 0 letters0 0 (Go.Proofs.YtiiioobebeaafaaSx.mput (Go.Proofs.YtiiioobebeaafaaSx.Ty.int Go.IntKind.i64) (Go.Proofs.YtiiioobebeaafaaSx.Ty.int Go.IntKind.i64) [] first1 (Int.ofNat 0)) [first1] [] [] [] []

noncomputable def det_Explore_int_.body : Code := fnBody Try.f112
def det_Explore_int_.ti : Tm := ⟨[(0, .p (.int .i64)), (1, .p (.int .i64)), (2, .fn 162 [.ptr 0 0, .ptr 1 0, .ptr 2 0]), (3, .fn 163 [.ptr 1 0, .ptr 2 0]), (4, .p (.int .i64))], [.box [.own 3] 23, .box [.p (.int .i64), .p (.int .i64), .p (.slice (.slice (.int .i64))), .p (.slice (.int .i64))] 58, .box [.own 4] 23, .own (.int .i64), .own (.int .i64)]⟩
def det_Explore_int_.to : Tm := ⟨[(0, .agg [.p (.int .i64), .p (.int .i64), .own 5, .own 6]), (1, .p .bool)], [.box [.own 3] 23, .box [.p (.int .i64), .p (.int .i64), .p (.slice (.slice (.int .i64))), .p (.slice (.int .i64))] 58, .box [.own 4] 23, .own (.int .i64), .own (.int .i64), .own (.slice (.int .i64)), .own (.int .i64)]⟩
def det_Explore_int_.rs (r : Int × Int × Bool × Int × Int × (List (List Int)) × (List Int) × (List Int) × (List Int) × (List (List Int)) × (List Int)) : List Dat := [⟨(.int .i64), r.1⟩, ⟨(.int .i64), r.2.1⟩, ⟨.bool, r.2.2.1⟩, ⟨(.int .i64), r.2.2.2.1⟩, ⟨(.int .i64), r.2.2.2.2.1⟩, ⟨(.slice (.slice (.int .i64))), r.2.2.2.2.2.1⟩, ⟨(.slice (.int .i64)), r.2.2.2.2.2.2.1⟩, ⟨(.slice (.int .i64)), r.2.2.2.2.2.2.2.1⟩, ⟨(.slice (.int .i64)), r.2.2.2.2.2.2.2.2.1⟩, ⟨(.slice (.slice (.int .i64))), r.2.2.2.2.2.2.2.2.2.1⟩, ⟨(.slice (.int .i64)), r.2.2.2.2.2.2.2.2.2.2⟩]
def det_Explore_int_.out (ds : List Dat) : Option (Int × Int × Bool × Int × Int × (List (List Int)) × (List Int) × (List Int) × (List Int) × (List (List Int)) × (List Int)) := pop (.int .i64) ds fun x0 ds => pop (.int .i64) ds fun x1 ds => pop .bool ds fun x2 ds => pop (.int .i64) ds fun x3 ds => pop (.int .i64) ds fun x4 ds => pop (.slice (.slice (.int .i64))) ds fun x5 ds => pop (.slice (.int .i64)) ds fun x6 ds => pop (.slice (.int .i64)) ds fun x7 ds => pop (.slice (.int .i64)) ds fun x8 ds => pop (.slice (.slice (.int .i64))) ds fun x9 ds => pop (.slice (.int .i64)) ds fun x10 ds => popN ds (some (x0, x1, x2, x3, x4, x5, x6, x7, x8, x9, x10))
def det_Explore_int_.c (k : Nat) (ds : List Dat) : Option (Int × Int × Bool × Int × Int × (List (List Int)) × (List Int) × (List Int) × (List Int) × (List (List Int)) × (List Int)) := pop (.int .i64) ds fun x0 ds => pop (.int .i64) ds fun x1 ds => pop (.int .i64) ds fun x2 ds => pop (.int .i64) ds fun x3 ds => pop (.int .i64) ds fun x4 ds => pop (.slice (.slice (.int .i64))) ds fun x5 ds => pop (.slice (.int .i64)) ds fun x6 ds => pop (.slice (.int .i64)) ds fun x7 ds => pop (.slice (.int .i64)) ds fun x8 ds => popN ds (det_Explore_int_.f k x0 x1 x2 x3 x4 x5 x6 x7 x8)
def det_Explore_int_.g : Nat → List Dat → Option (Int × Int × Bool × Int × Int × (List (List Int)) × (List Int) × (List Int) × (List Int) × (List (List Int)) × (List Int))
 | 0, _ => none
 | k + 1, ds => det_Explore_int_.c k ds
def det_Explore_int_.env (k : Nat) : Nat → List SV → List Chunk → KT (Int × Int × Bool × Int × Int × (List (List Int)) × (List Int) × (List Int) × (List Int) × (List (List Int)) × (List Int)) → Option (Int × Int × Bool × Int × Int × (List (List Int)) × (List Int) × (List Int) × (List Int) × (List (List Int)) × (List Int)) := (envC 162 5 det_Smallest_1.ti det_Smallest_1.to (fun ds K => pop (.int .i64) ds fun x0 ds => pop (.int .i64) ds fun x1 ds => pop (.int .i64) ds fun x2 ds => pop (.int .i64) ds fun x3 ds => pop (.slice (.slice (.int .i64))) ds fun x4 ds => pop (.slice (.int .i64)) ds fun x5 ds => pop (.slice (.int .i64)) ds fun x6 ds => pop (.slice (.int .i64)) ds fun x7 ds => popN ds ((det_Smallest_1.f k x0 x1 x2 x3 x4 x5 x6 x7).bind fun r => K (det_Smallest_1.rs r))) (envC 163 3 det_Smallest_2.ti det_Smallest_2.to (fun ds K => pop (.int .i64) ds fun x0 ds => pop (.int .i64) ds fun x1 ds => pop (.int .i64) ds fun x2 ds => pop (.slice (.slice (.int .i64))) ds fun x3 ds => pop (.slice (.int .i64)) ds fun x4 ds => pop (.slice (.int .i64)) ds fun x5 ds => popN ds ((det_Smallest_2.f k x0 x1 x2 x3 x4 x5).bind fun r => K (det_Smallest_2.rs r))) env0))
def det_Explore_int_.t9 : Tm := ⟨[(0, .p (.int .i64)), (2, .fn 162 [.ptr 0 0, .ptr 1 0, .ptr 2 0]), (3, .fn 163 [.ptr 1 0, .ptr 2 0]), (4, .p (.int .i64)), (10, .ptr 5 0), (12, .ptr 6 0), (13, .map 7), (14, .own 8)], [.box [.own 3] 23, .box [.p (.int .i64), .p (.int .i64), .p (.slice (.slice (.int .i64))), .p (.slice (.int .i64))] 58, .box [.own 4] 23, .own (.int .i64), .own (.int .i64), .box [.p (.int .i64), .p (.int .i64), .own 9, .own 10] 58, .box [.p (.int .i64), .p (.int .i64), .own 11, .own 12] 58, .map (.int .i64) (.int .i64), .own (.int .i64), .own (.slice (.int .i64)), .own (.int .i64), .own (.slice (.int .i64)), .own (.int .i64)]⟩
def det_Explore_int_.c9 (k : Nat) (ds : List Dat) : Option (Int × Int × Bool × Int × Int × (List (List Int)) × (List Int) × (List Int) × (List Int) × (List (List Int)) × (List Int)) := pop (.int .i64) ds fun x0 ds => pop (.int .i64) ds fun x1 ds => pop (.int .i64) ds fun x2 ds => pop (.int .i64) ds fun x3 ds => pop (.slice (.slice (.int .i64))) ds fun x4 ds => pop (.slice (.int .i64)) ds fun x5 ds => pop (.slice (.int .i64)) ds fun x6 ds => pop (.slice (.int .i64)) ds fun x7 ds => pop (.int .i64) ds fun x8 ds => pop (.int .i64) ds fun x9 ds => pop (.int .i64) ds fun x10 ds => pop (.int .i64) ds fun x11 ds => pop (.slice (.pair (.int .i64) (.int .i64))) ds fun x12 ds => pop (.slice (.int .i64)) ds fun x13 ds => pop (.slice (.slice (.int .i64))) ds fun x14 ds => pop (.slice (.int .i64)) ds fun x15 ds => pop (.slice (.slice (.int .i64))) ds fun x16 ds => pop (.slice (.int .i64)) ds fun x17 ds => popN ds (det_Explore_int_.l4 k x0 x1 x2 x3 x4 x5 x6 x7 x8 x9 x10 x11 x12 x13 x14 x15 x16 x17)
def det_Explore_int_.t17 : Tm := ⟨[(0, .p (.int .i64)), (2, .fn 162 [.ptr 0 0, .ptr 1 0, .ptr 2 0]), (3, .fn 163 [.ptr 1 0, .ptr 2 0]), (4, .p (.int .i64)), (10, .ptr 5 0), (12, .ptr 6 0), (13, .map 7), (14, .own 8), (15, .p (.int .i64)), (16, .own 9), (42, .p (.int .i64)), (43, .p (.int .i64))], [.box [.own 3] 23, .box [.p (.int .i64), .p (.int .i64), .p (.slice (.slice (.int .i64))), .p (.slice (.int .i64))] 58, .box [.own 4] 23, .own (.int .i64), .own (.int .i64), .box [.p (.int .i64), .p (.int .i64), .own 10, .own 11] 58, .box [.p (.int .i64), .p (.int .i64), .own 12, .own 13] 58, .map (.int .i64) (.int .i64), .own (.int .i64), .own (.int .i64), .own (.slice (.int .i64)), .own (.int .i64), .own (.slice (.int .i64)), .own (.int .i64)]⟩
def det_Explore_int_.c17 (k : Nat) (ds : List Dat) : Option (Int × Int × Bool × Int × Int × (List (List Int)) × (List Int) × (List Int) × (List Int) × (List (List Int)) × (List Int)) := pop (.int .i64) ds fun x0 ds => pop (.int .i64) ds fun x1 ds => pop (.int .i64) ds fun x2 ds => pop (.int .i64) ds fun x3 ds => pop (.int .i64) ds fun x4 ds => pop (.int .i64) ds fun x5 ds => pop (.int .i64) ds fun x6 ds => pop (.slice (.slice (.int .i64))) ds fun x7 ds => pop (.slice (.int .i64)) ds fun x8 ds => pop (.slice (.int .i64)) ds fun x9 ds => pop (.slice (.int .i64)) ds fun x10 ds => pop (.int .i64) ds fun x11 ds => pop (.int .i64) ds fun x12 ds => pop (.int .i64) ds fun x13 ds => pop (.int .i64) ds fun x14 ds => pop (.slice (.pair (.int .i64) (.int .i64))) ds fun x15 ds => pop (.slice (.int .i64)) ds fun x16 ds => pop (.slice (.int .i64)) ds fun x17 ds => pop (.slice (.slice (.int .i64))) ds fun x18 ds => pop (.slice (.int .i64)) ds fun x19 ds => pop (.slice (.slice (.int .i64))) ds fun x20 ds => pop (.slice (.int .i64)) ds fun x21 ds => popN ds (det_Explore_int_.l8 k x0 x1 x2 x3 x4 x5 x6 x7 x8 x9 x10 x11 x12 x13 x14 x15 x16 x17 x18 x19 x20 x21)
def det_Explore_int_.t36 : Tm := ⟨[(0, .p (.int .i64)), (2, .fn 162 [.ptr 0 0, .ptr 1 0, .ptr 2 0]), (3, .fn 163 [.ptr 1 0, .ptr 2 0]), (4, .p (.int .i64)), (10, .ptr 5 0), (12, .ptr 6 0), (13, .map 7), (14, .own 8), (15, .p (.int .i64)), (16, .own 9), (17, .p (.int .i64)), (19, .p (.int .i64)), (42, .p (.int .i64)), (43, .p (.int .i64))], [.box [.own 3] 23, .box [.p (.int .i64), .p (.int .i64), .p (.slice (.slice (.int .i64))), .p (.slice (.int .i64))] 58, .box [.own 4] 23, .own (.int .i64), .own (.int .i64), .box [.p (.int .i64), .p (.int .i64), .own 10, .own 11] 58, .box [.p (.int .i64), .p (.int .i64), .own 12, .own 13] 58, .map (.int .i64) (.int .i64), .own (.int .i64), .own (.int .i64), .own (.slice (.int .i64)), .own (.int .i64), .own (.slice (.int .i64)), .own (.int .i64)]⟩
def det_Explore_int_.c36 (k : Nat) (ds : List Dat) : Option (Int × Int × Bool × Int × Int × (List (List Int)) × (List Int) × (List Int) × (List Int) × (List (List Int)) × (List Int)) := pop (.int .i64) ds fun x0 ds => pop (.int .i64) ds fun x1 ds => pop (.int .i64) ds fun x2 ds => pop (.int .i64) ds fun x3 ds => pop (.int .i64) ds fun x4 ds => pop (.int .i64) ds fun x5 ds => pop (.int .i64) ds fun x6 ds => pop (.int .i64) ds fun x7 ds => pop (.int .i64) ds fun x8 ds => pop (.slice (.slice (.int .i64))) ds fun x9 ds => pop (.slice (.int .i64)) ds fun x10 ds => pop (.slice (.int .i64)) ds fun x11 ds => pop (.slice (.int .i64)) ds fun x12 ds => pop (.int .i64) ds fun x13 ds => pop (.int .i64) ds fun x14 ds => pop (.int .i64) ds fun x15 ds => pop (.int .i64) ds fun x16 ds => pop (.slice (.pair (.int .i64) (.int .i64))) ds fun x17 ds => pop (.slice (.int .i64)) ds fun x18 ds => pop (.slice (.int .i64)) ds fun x19 ds => pop (.slice (.slice (.int .i64))) ds fun x20 ds => pop (.slice (.int .i64)) ds fun x21 ds => pop (.slice (.slice (.int .i64))) ds fun x22 ds => pop (.slice (.int .i64)) ds fun x23 ds => popN ds (det_Explore_int_.j18 k x0 x1 x2 x3 x4 x5 x6 x7 x8 x9 x10 x11 x12 x13 x14 x15 x16 x17 x18 x19 x20 x21 x22 x23)
def det_Explore_int_.tbl : List (Nat × Tm × (Nat → List Dat → Option (Int × Int × Bool × Int × Int × (List (List Int)) × (List Int) × (List Int) × (List Int) × (List (List Int)) × (List Int)))) := [(9, det_Explore_int_.t9, det_Explore_int_.c9), (17, det_Explore_int_.t17, det_Explore_int_.c17), (36, det_Explore_int_.t36, det_Explore_int_.c36)]
noncomputable abbrev det_Explore_int_.R (k : Nat) := run T (det_Explore_int_.env k) Try.f112.ntmps (cutE 5 det_Explore_int_.tbl k) (finE 5 det_Explore_int_.to det_Explore_int_.out) (fnRes Try.f112) [18] 100000 true
theorem det_Explore_int_.e9 (k : Nat) (x0 : Int) (x1 : Int) (x2 : Int) (x3 : Int) (x4 : (List (List Int))) (x5 : (List Int)) (x6 : (List Int)) (x7 : (List Int)) (x8 : Int) (x9 : Int) (x10 : Int) (x11 : Int) (x12 : (List (Int × Int))) (x13 : (List Int)) (x14 : (List (List Int))) (x15 : (List Int)) (x16 : (List (List Int))) (x17 : (List Int)) : det_Explore_int_.l4 (k + 1) x0 x1 x2 x3 x4 x5 x6 x7 x8 x9 x10 x11 x12 x13 x14 x15 x16 x17 = det_Explore_int_.R k (start (stackOf 9 det_Explore_int_.body)) (det_Explore_int_.t9.fill [⟨(.int .i64), x0⟩, ⟨(.int .i64), x1⟩, ⟨(.int .i64), x2⟩, ⟨(.int .i64), x3⟩, ⟨(.slice (.slice (.int .i64))), x4⟩, ⟨(.slice (.int .i64)), x5⟩, ⟨(.slice (.int .i64)), x6⟩, ⟨(.slice (.int .i64)), x7⟩, ⟨(.int .i64), x8⟩, ⟨(.int .i64), x9⟩, ⟨(.int .i64), x10⟩, ⟨(.int .i64), x11⟩, ⟨(.slice (.pair (.int .i64) (.int .i64))), x12⟩, ⟨(.slice (.int .i64)), x13⟩, ⟨(.slice (.slice (.int .i64))), x14⟩, ⟨(.slice (.int .i64)), x15⟩, ⟨(.slice (.slice (.int .i64))), x16⟩, ⟨(.slice (.int .i64)), x17⟩]) := by kernel_rfl
theorem det_Explore_int_.s9 : stackAt 9 det_Explore_int_.body [] = some (stackOf 9 det_Explore_int_.body) := by kernel_rfl
theorem det_Explore_int_.h9 (k : Nat) (ds : List Dat) (r : Int × Int × Bool × Int × Int × (List (List Int)) × (List Int) × (List Int) × (List Int) × (List (List Int)) × (List Int)) (h : det_Explore_int_.c9 k ds = some r) : ∃ k', k' < k ∧ ∃ s, stackAt 9 det_Explore_int_.body [] = some s ∧ det_Explore_int_.R k' (start s) (det_Explore_int_.t9.fill ds) = some r := by
  unfold det_Explore_int_.c9 at h
  obtain ⟨x0, d0, rfl, h0⟩ := pop_some h
  obtain ⟨x1, d1, rfl, h1⟩ := pop_some h0
  obtain ⟨x2, d2, rfl, h2⟩ := pop_some h1
  obtain ⟨x3, d3, rfl, h3⟩ := pop_some h2
  obtain ⟨x4, d4, rfl, h4⟩ := pop_some h3
  obtain ⟨x5, d5, rfl, h5⟩ := pop_some h4
  obtain ⟨x6, d6, rfl, h6⟩ := pop_some h5
  obtain ⟨x7, d7, rfl, h7⟩ := pop_some h6
  obtain ⟨x8, d8, rfl, h8⟩ := pop_some h7
  obtain ⟨x9, d9, rfl, h9⟩ := pop_some h8
  obtain ⟨x10, d10, rfl, h10⟩ := pop_some h9
  obtain ⟨x11, d11, rfl, h11⟩ := pop_some h10
  obtain ⟨x12, d12, rfl, h12⟩ := pop_some h11
  obtain ⟨x13, d13, rfl, h13⟩ := pop_some h12
  obtain ⟨x14, d14, rfl, h14⟩ := pop_some h13
  obtain ⟨x15, d15, rfl, h15⟩ := pop_some h14
  obtain ⟨x16, d16, rfl, h16⟩ := pop_some h15
  obtain ⟨x17, d17, rfl, h17⟩ := pop_some h16
  obtain ⟨rfl, g⟩ := popN_some h17
  cases k with
  | zero => cases (show none = some r from g)
  | succ k => exact ⟨k, Nat.lt_succ_self k, _, det_Explore_int_.s9, (det_Explore_int_.e9 k x0 x1 x2 x3 x4 x5 x6 x7 x8 x9 x10 x11 x12 x13 x14 x15 x16 x17).symm.trans g⟩
theorem det_Explore_int_.e17 (k : Nat) (x0 : Int) (x1 : Int) (x2 : Int) (x3 : Int) (x4 : Int) (x5 : Int) (x6 : Int) (x7 : (List (List Int))) (x8 : (List Int)) (x9 : (List Int)) (x10 : (List Int)) (x11 : Int) (x12 : Int) (x13 : Int) (x14 : Int) (x15 : (List (Int × Int))) (x16 : (List Int)) (x17 : (List Int)) (x18 : (List (List Int))) (x19 : (List Int)) (x20 : (List (List Int))) (x21 : (List Int)) : det_Explore_int_.l8 (k + 1) x0 x1 x2 x3 x4 x5 x6 x7 x8 x9 x10 x11 x12 x13 x14 x15 x16 x17 x18 x19 x20 x21 = det_Explore_int_.R k (start (stackOf 17 det_Explore_int_.body)) (det_Explore_int_.t17.fill [⟨(.int .i64), x0⟩, ⟨(.int .i64), x1⟩, ⟨(.int .i64), x2⟩, ⟨(.int .i64), x3⟩, ⟨(.int .i64), x4⟩, ⟨(.int .i64), x5⟩, ⟨(.int .i64), x6⟩, ⟨(.slice (.slice (.int .i64))), x7⟩, ⟨(.slice (.int .i64)), x8⟩, ⟨(.slice (.int .i64)), x9⟩, ⟨(.slice (.int .i64)), x10⟩, ⟨(.int .i64), x11⟩, ⟨(.int .i64), x12⟩, ⟨(.int .i64), x13⟩, ⟨(.int .i64), x14⟩, ⟨(.slice (.pair (.int .i64) (.int .i64))), x15⟩, ⟨(.slice (.int .i64)), x16⟩, ⟨(.slice (.int .i64)), x17⟩, ⟨(.slice (.slice (.int .i64))), x18⟩, ⟨(.slice (.int .i64)), x19⟩, ⟨(.slice (.slice (.int .i64))), x20⟩, ⟨(.slice (.int .i64)), x21⟩]) := by kernel_rfl
theorem det_Explore_int_.s17 : stackAt 17 det_Explore_int_.body [] = some (stackOf 17 det_Explore_int_.body) := by kernel_rfl
theorem det_Explore_int_.h17 (k : Nat) (ds : List Dat) (r : Int × Int × Bool × Int × Int × (List (List Int)) × (List Int) × (List Int) × (List Int) × (List (List Int)) × (List Int)) (h : det_Explore_int_.c17 k ds = some r) : ∃ k', k' < k ∧ ∃ s, stackAt 17 det_Explore_int_.body [] = some s ∧ det_Explore_int_.R k' (start s) (det_Explore_int_.t17.fill ds) = some r := by
  unfold det_Explore_int_.c17 at h
  obtain ⟨x0, d0, rfl, h0⟩ := pop_some h
  obtain ⟨x1, d1, rfl, h1⟩ := pop_some h0
  obtain ⟨x2, d2, rfl, h2⟩ := pop_some h1
  obtain ⟨x3, d3, rfl, h3⟩ := pop_some h2
  obtain ⟨x4, d4, rfl, h4⟩ := pop_some h3
  obtain ⟨x5, d5, rfl, h5⟩ := pop_some h4
  obtain ⟨x6, d6, rfl, h6⟩ := pop_some h5
  obtain ⟨x7, d7, rfl, h7⟩ := pop_some h6
  obtain ⟨x8, d8, rfl, h8⟩ := pop_some h7
  obtain ⟨x9, d9, rfl, h9⟩ := pop_some h8
  obtain ⟨x10, d10, rfl, h10⟩ := pop_some h9
  obtain ⟨x11, d11, rfl, h11⟩ := pop_some h10
  obtain ⟨x12, d12, rfl, h12⟩ := pop_some h11
  obtain ⟨x13, d13, rfl, h13⟩ := pop_some h12
  obtain ⟨x14, d14, rfl, h14⟩ := pop_some h13
  obtain ⟨x15, d15, rfl, h15⟩ := pop_some h14
  obtain ⟨x16, d16, rfl, h16⟩ := pop_some h15
  obtain ⟨x17, d17, rfl, h17⟩ := pop_some h16
  obtain ⟨x18, d18, rfl, h18⟩ := pop_some h17
  obtain ⟨x19, d19, rfl, h19⟩ := pop_some h18
  obtain ⟨x20, d20, rfl, h20⟩ := pop_some h19
  obtain ⟨x21, d21, rfl, h21⟩ := pop_some h20
  obtain ⟨rfl, g⟩ := popN_some h21
  cases k with
  | zero => cases (show none = some r from g)
  | succ k => exact ⟨k, Nat.lt_succ_self k, _, det_Explore_int_.s17, (det_Explore_int_.e17 k x0 x1 x2 x3 x4 x5 x6 x7 x8 x9 x10 x11 x12 x13 x14 x15 x16 x17 x18 x19 x20 x21).symm.trans g⟩
theorem det_Explore_int_.e36 (k : Nat) (x0 : Int) (x1 : Int) (x2 : Int) (x3 : Int) (x4 : Int) (x5 : Int) (x6 : Int) (x7 : Int) (x8 : Int) (x9 : (List (List Int))) (x10 : (List Int)) (x11 : (List Int)) (x12 : (List Int)) (x13 : Int) (x14 : Int) (x15 : Int) (x16 : Int) (x17 : (List (Int × Int))) (x18 : (List Int)) (x19 : (List Int)) (x20 : (List (List Int))) (x21 : (List Int)) (x22 : (List (List Int))) (x23 : (List Int)) : det_Explore_int_.j18 (k + 1) x0 x1 x2 x3 x4 x5 x6 x7 x8 x9 x10 x11 x12 x13 x14 x15 x16 x17 x18 x19 x20 x21 x22 x23 = det_Explore_int_.R k (start (stackOf 36 det_Explore_int_.body)) (det_Explore_int_.t36.fill [⟨(.int .i64), x0⟩, ⟨(.int .i64), x1⟩, ⟨(.int .i64), x2⟩, ⟨(.int .i64), x3⟩, ⟨(.int .i64), x4⟩, ⟨(.int .i64), x5⟩, ⟨(.int .i64), x6⟩, ⟨(.int .i64), x7⟩, ⟨(.int .i64), x8⟩, ⟨(.slice (.slice (.int .i64))), x9⟩, ⟨(.slice (.int .i64)), x10⟩, ⟨(.slice (.int .i64)), x11⟩, ⟨(.slice (.int .i64)), x12⟩, ⟨(.int .i64), x13⟩, ⟨(.int .i64), x14⟩, ⟨(.int .i64), x15⟩, ⟨(.int .i64), x16⟩, ⟨(.slice (.pair (.int .i64) (.int .i64))), x17⟩, ⟨(.slice (.int .i64)), x18⟩, ⟨(.slice (.int .i64)), x19⟩, ⟨(.slice (.slice (.int .i64))), x20⟩, ⟨(.slice (.int .i64)), x21⟩, ⟨(.slice (.slice (.int .i64))), x22⟩, ⟨(.slice (.int .i64)), x23⟩]) := by kernel_rfl
theorem det_Explore_int_.s36 : stackAt 36 det_Explore_int_.body [] = some (stackOf 36 det_Explore_int_.body) := by kernel_rfl
theorem det_Explore_int_.h36 (k : Nat) (ds : List Dat) (r : Int × Int × Bool × Int × Int × (List (List Int)) × (List Int) × (List Int) × (List Int) × (List (List Int)) × (List Int)) (h : det_Explore_int_.c36 k ds = some r) : ∃ k', k' < k ∧ ∃ s, stackAt 36 det_Explore_int_.body [] = some s ∧ det_Explore_int_.R k' (start s) (det_Explore_int_.t36.fill ds) = some r := by
  unfold det_Explore_int_.c36 at h
  obtain ⟨x0, d0, rfl, h0⟩ := pop_some h
  obtain ⟨x1, d1, rfl, h1⟩ := pop_some h0
  obtain ⟨x2, d2, rfl, h2⟩ := pop_some h1
  obtain ⟨x3, d3, rfl, h3⟩ := pop_some h2
  obtain ⟨x4, d4, rfl, h4⟩ := pop_some h3
  obtain ⟨x5, d5, rfl, h5⟩ := pop_some h4
  obtain ⟨x6, d6, rfl, h6⟩ := pop_some h5
  obtain ⟨x7, d7, rfl, h7⟩ := pop_some h6
  obtain ⟨x8, d8, rfl, h8⟩ := pop_some h7
  obtain ⟨x9, d9, rfl, h9⟩ := pop_some h8
  obtain ⟨x10, d10, rfl, h10⟩ := pop_some h9
  obtain ⟨x11, d11, rfl, h11⟩ := pop_some h10
  obtain ⟨x12, d12, rfl, h12⟩ := pop_some h11
  obtain ⟨x13, d13, rfl, h13⟩ := pop_some h12
  obtain ⟨x14, d14, rfl, h14⟩ := pop_some h13
  obtain ⟨x15, d15, rfl, h15⟩ := pop_some h14
  obtain ⟨x16, d16, rfl, h16⟩ := pop_some h15
  obtain ⟨x17, d17, rfl, h17⟩ := pop_some h16
  obtain ⟨x18, d18, rfl, h18⟩ := pop_some h17
  obtain ⟨x19, d19, rfl, h19⟩ := pop_some h18
  obtain ⟨x20, d20, rfl, h20⟩ := pop_some h19
  obtain ⟨x21, d21, rfl, h21⟩ := pop_some h20
  obtain ⟨x22, d22, rfl, h22⟩ := pop_some h21
  obtain ⟨x23, d23, rfl, h23⟩ := pop_some h22
  obtain ⟨rfl, g⟩ := popN_some h23
  cases k with
  | zero => cases (show none = some r from g)
  | succ k => exact ⟨k, Nat.lt_succ_self k, _, det_Explore_int_.s36, (det_Explore_int_.e36 k x0 x1 x2 x3 x4 x5 x6 x7 x8 x9 x10 x11 x12 x13 x14 x15 x16 x17 x18 x19 x20 x21 x22 x23).symm.trans g⟩
theorem det_Explore_int_.e (k : Nat) (x0 : Int) (x1 : Int) (x2 : Int) (x3 : Int) (x4 : Int) (x5 : (List (List Int))) (x6 : (List Int)) (x7 : (List Int)) (x8 : (List Int)) : det_Explore_int_.f k x0 x1 x2 x3 x4 x5 x6 x7 x8 = det_Explore_int_.R k ([.code det_Explore_int_.body]) (det_Explore_int_.ti.fill [⟨(.int .i64), x0⟩, ⟨(.int .i64), x1⟩, ⟨(.int .i64), x2⟩, ⟨(.int .i64), x3⟩, ⟨(.int .i64), x4⟩, ⟨(.slice (.slice (.int .i64))), x5⟩, ⟨(.slice (.int .i64)), x6⟩, ⟨(.slice (.int .i64)), x7⟩, ⟨(.slice (.int .i64)), x8⟩]) := by kernel_rfl
theorem det_Explore_int_.h (k : Nat) (ds : List Dat) (r : Int × Int × Bool × Int × Int × (List (List Int)) × (List Int) × (List Int) × (List Int) × (List (List Int)) × (List Int)) (h : det_Explore_int_.g k ds = some r) : ∃ k', k' < k ∧ det_Explore_int_.R k' ([.code det_Explore_int_.body]) (det_Explore_int_.ti.fill ds) = some r := by
  cases k with
  | zero => cases (show none = some r from h)
  | succ k =>
  replace h : det_Explore_int_.c k ds = some r := h
  unfold det_Explore_int_.c at h
  obtain ⟨x0, d0, rfl, h0⟩ := pop_some h
  obtain ⟨x1, d1, rfl, h1⟩ := pop_some h0
  obtain ⟨x2, d2, rfl, h2⟩ := pop_some h1
  obtain ⟨x3, d3, rfl, h3⟩ := pop_some h2
  obtain ⟨x4, d4, rfl, h4⟩ := pop_some h3
  obtain ⟨x5, d5, rfl, h5⟩ := pop_some h4
  obtain ⟨x6, d6, rfl, h6⟩ := pop_some h5
  obtain ⟨x7, d7, rfl, h7⟩ := pop_some h6
  obtain ⟨x8, d8, rfl, h8⟩ := pop_some h7
  obtain ⟨rfl, g⟩ := popN_some h8
  exact ⟨k, Nat.lt_succ_self k, (det_Explore_int_.e k x0 x1 x2 x3 x4 x5 x6 x7 x8).symm.trans g⟩
theorem det_Explore_int_.o (ds : List Dat) (r : Int × Int × Bool × Int × Int × (List (List Int)) × (List Int) × (List Int) × (List Int) × (List (List Int)) × (List Int)) (h : det_Explore_int_.out ds = some r) : ds = det_Explore_int_.rs r := by
  unfold det_Explore_int_.out at h
  obtain ⟨x0, d0, rfl, h0⟩ := pop_some h
  obtain ⟨x1, d1, rfl, h1⟩ := pop_some h0
  obtain ⟨x2, d2, rfl, h2⟩ := pop_some h1
  obtain ⟨x3, d3, rfl, h3⟩ := pop_some h2
  obtain ⟨x4, d4, rfl, h4⟩ := pop_some h3
  obtain ⟨x5, d5, rfl, h5⟩ := pop_some h4
  obtain ⟨x6, d6, rfl, h6⟩ := pop_some h5
  obtain ⟨x7, d7, rfl, h7⟩ := pop_some h6
  obtain ⟨x8, d8, rfl, h8⟩ := pop_some h7
  obtain ⟨x9, d9, rfl, h9⟩ := pop_some h8
  obtain ⟨x10, d10, rfl, h10⟩ := pop_some h9
  obtain ⟨rfl, g⟩ := popN_some h10
  cases g
  rfl
theorem det_Explore_int_.fn : FnOk Try.prog 112 Try.f112 det_Explore_int_.body Try.f112.ntmps 5 (fnRes Try.f112) :=
  fnOk_of (by kernel_rfl) (by kernel_rfl) (by kernel_rfl) (by kernel_rfl)
theorem det_Explore_int_.con' : ∀ k ds r, det_Explore_int_.g k ds = some r → Con Try.prog 112 5 det_Explore_int_.ti det_Explore_int_.to ds (det_Explore_int_.rs r) :=
  fun_ok (T := T) T_ok mixed det_Explore_int_.fn (env := det_Explore_int_.env) (tbl := det_Explore_int_.tbl) (gOut := det_Explore_int_.out) (nin := 5) (cuts := [18]) (fuel := 100000) rfl (by kernel_rfl) (by kernel_rfl) (by kernel_rfl) (fun x hx => by
    simp only [det_Explore_int_.tbl, List.mem_cons, List.not_mem_nil, or_false] at hx
    rcases hx with rfl | rfl | rfl
    · exact det_Explore_int_.h9
    · exact det_Explore_int_.h17
    · exact det_Explore_int_.h36
) det_Explore_int_.o det_Explore_int_.h (fun k _ => by unfold det_Explore_int_.env; exact (envC_ok (fun ds K r h => by
    obtain ⟨x0, d0, rfl, h0⟩ := pop_some h
    obtain ⟨x1, d1, rfl, h1⟩ := pop_some h0
    obtain ⟨x2, d2, rfl, h2⟩ := pop_some h1
    obtain ⟨x3, d3, rfl, h3⟩ := pop_some h2
    obtain ⟨x4, d4, rfl, h4⟩ := pop_some h3
    obtain ⟨x5, d5, rfl, h5⟩ := pop_some h4
    obtain ⟨x6, d6, rfl, h6⟩ := pop_some h5
    obtain ⟨x7, d7, rfl, h7⟩ := pop_some h6
    obtain ⟨rfl, g⟩ := popN_some h7
    obtain ⟨r1, h1, h2⟩ := bind_some g
    exact ⟨_, h2, det_Smallest_1.con k _ h1⟩) (envC_ok (fun ds K r h => by
    obtain ⟨x0, d0, rfl, h0⟩ := pop_some h
    obtain ⟨x1, d1, rfl, h1⟩ := pop_some h0
    obtain ⟨x2, d2, rfl, h2⟩ := pop_some h1
    obtain ⟨x3, d3, rfl, h3⟩ := pop_some h2
    obtain ⟨x4, d4, rfl, h4⟩ := pop_some h3
    obtain ⟨x5, d5, rfl, h5⟩ := pop_some h4
    obtain ⟨rfl, g⟩ := popN_some h5
    obtain ⟨r1, h1, h2⟩ := bind_some g
    exact ⟨_, h2, det_Smallest_2.con k _ h1⟩) env0_ok)))
theorem det_Explore_int_.con (k : Nat) {x0 : Int} {x1 : Int} {x2 : Int} {x3 : Int} {x4 : Int} {x5 : (List (List Int))} {x6 : (List Int)} {x7 : (List Int)} {x8 : (List Int)} (r : Int × Int × Bool × Int × Int × (List (List Int)) × (List Int) × (List Int) × (List Int) × (List (List Int)) × (List Int)) (h : det_Explore_int_.f k x0 x1 x2 x3 x4 x5 x6 x7 x8 = some r) : Con Try.prog 112 5 det_Explore_int_.ti det_Explore_int_.to [⟨(.int .i64), x0⟩, ⟨(.int .i64), x1⟩, ⟨(.int .i64), x2⟩, ⟨(.int .i64), x3⟩, ⟨(.int .i64), x4⟩, ⟨(.slice (.slice (.int .i64))), x5⟩, ⟨(.slice (.int .i64)), x6⟩, ⟨(.slice (.int .i64)), x7⟩, ⟨(.slice (.int .i64)), x8⟩] (det_Explore_int_.rs r) :=
  det_Explore_int_.con' (k + 1) _ r (by show det_Explore_int_.c k _ = some r; unfold det_Explore_int_.c; simp only [pop_self, popN]; exact h)
mutual
def det_Smallest.l4 : Nat → Int → Int → Int → Int → List (List (Int)) → List (Int) → Int → Int → List (Int) → List (List (Int)) → List (Int) → List (Int) → Option (Int × Int × List (List Int) × List Int)
 | 0, _, _, _, _, _, _, _, _, _, _, _, _ => none
 | k + 1, x15, x16, d1_0, d1_1, d1_2, d1_3, x2_0, x2_1, x14, c5, c6, c7 =>
  if x16 < x15 then
   if 0 ≤ x16 then
   if x16 < (↑x14.length : Int) then
    if 0 ≤ x14.getD x16.toNat (Int.ofNat 0) then
     if x14.getD x16.toNat (Int.ofNat 0) < (↑c7.length : Int) then
      det_Smallest.l4 k x15 (Go.IntKind.i64.wrap (x16 + 1)) d1_0 d1_1 d1_2 d1_3 x2_0 x2_1 x14 c5 c6 (c7.set (x14.getD x16.toNat (Int.ofNat 0)).toNat x16)
      else none
     else none
    else none
   else none
  else
   if 0 ≤ d1_1 then
   if d1_1 < (↑x14.length : Int) then
    (det_Explore_int_.f k d1_0 (x14.getD d1_1.toNat (Int.ofNat 0)) (Go.IntKind.i64.wrap ((↑x14.length : Int) + 1)) d1_0 d1_1 d1_2 d1_3 x14 c7).bind fun r5 =>
      some (r5.fst, r5.snd.fst, r5.snd.snd.snd.snd.snd.snd.snd.snd.snd.fst, r5.snd.snd.snd.snd.snd.snd.snd.snd.snd.snd)
    else none
   else none
end
def det_Smallest.f (k : Nat) (d0 : (Int × (Int × (List (List (Int)) × (List (Int) × Unit))))) : Option (Int × Int × List (List Int) × List Int) :=
 (det_Classes.f k (d0.fst, d0.snd.fst, d0.snd.snd.fst, d0.snd.snd.snd.fst, ())).bind fun r1 =>
  if 0 ≤ (↑r1.length : Int) then
  if (↑r1.length : Int) ≤ (↑r1.length : Int) then
   if (↑r1.length : Int) * ((↑8 : Int) + 1) ≤ 1099511627776 then
    det_Smallest.l4 k ((↑r1.length : Int)) 0 d0.fst d0.snd.fst d0.snd.snd.fst d0.snd.snd.snd.fst 0 0 r1 [] [] (List.replicate (↑r1.length : Int).toNat (Int.ofNat 0))
    else none
   else none
  else none

noncomputable def det_Smallest.body : Code := fnBody Try.f100
def det_Smallest.ti : Tm := ⟨[(0, .p (.pair (.int .i64) (.pair (.int .i64) (.pair (.slice (.slice (.int .i64))) (.pair (.slice (.int .i64)) .unit)))))], []⟩
def det_Smallest.to : Tm := ⟨[(0, .agg [.p (.int .i64), .p (.int .i64), .own 0, .own 1])], [.own (.slice (.int .i64)), .own (.int .i64)]⟩
def det_Smallest.rs (r : Int × Int × (List (List Int)) × (List Int)) : List Dat := [⟨(.int .i64), r.1⟩, ⟨(.int .i64), r.2.1⟩, ⟨(.slice (.slice (.int .i64))), r.2.2.1⟩, ⟨(.slice (.int .i64)), r.2.2.2⟩]
def det_Smallest.out (ds : List Dat) : Option (Int × Int × (List (List Int)) × (List Int)) := pop (.int .i64) ds fun x0 ds => pop (.int .i64) ds fun x1 ds => pop (.slice (.slice (.int .i64))) ds fun x2 ds => pop (.slice (.int .i64)) ds fun x3 ds => popN ds (some (x0, x1, x2, x3))
def det_Smallest.c (k : Nat) (ds : List Dat) : Option (Int × Int × (List (List Int)) × (List Int)) := pop (.pair (.int .i64) (.pair (.int .i64) (.pair (.slice (.slice (.int .i64))) (.pair (.slice (.int .i64)) .unit)))) ds fun x0 ds => popN ds (det_Smallest.f k x0)
def det_Smallest.g : Nat → List Dat → Option (Int × Int × (List (List Int)) × (List Int))
 | 0, _ => none
 | k + 1, ds => det_Smallest.c k ds
def det_Smallest.env (k : Nat) : Nat → List SV → List Chunk → KT (Int × Int × (List (List Int)) × (List Int)) → Option (Int × Int × (List (List Int)) × (List Int)) := (envC 112 5 det_Explore_int_.ti det_Explore_int_.to (fun ds K => pop (.int .i64) ds fun x0 ds => pop (.int .i64) ds fun x1 ds => pop (.int .i64) ds fun x2 ds => pop (.int .i64) ds fun x3 ds => pop (.int .i64) ds fun x4 ds => pop (.slice (.slice (.int .i64))) ds fun x5 ds => pop (.slice (.int .i64)) ds fun x6 ds => pop (.slice (.int .i64)) ds fun x7 ds => pop (.slice (.int .i64)) ds fun x8 ds => popN ds ((det_Explore_int_.f k x0 x1 x2 x3 x4 x5 x6 x7 x8).bind fun r => K (det_Explore_int_.rs r))) (envC 161 1 det_Classes.ti det_Classes.to (fun ds K => pop (.pair (.int .i64) (.pair (.int .i64) (.pair (.slice (.slice (.int .i64))) (.pair (.slice (.int .i64)) .unit)))) ds fun x0 ds => popN ds ((det_Classes.f k x0).bind fun r => K (det_Classes.rs r))) env0))
def det_Smallest.t9 : Tm := ⟨[(1, .ptr 0 0), (2, .ptr 1 0), (3, .ptr 2 0), (4, .ptr 3 0), (14, .own 4), (15, .p (.int .i64)), (16, .p (.int .i64))], [.box [.p (.int .i64), .p (.int .i64), .p (.slice (.slice (.int .i64))), .p (.slice (.int .i64))] 58, .box [.p (.int .i64), .p (.int .i64), .own 5, .own 6] 58, .box [.own 4] 23, .box [.own 7] 23, .own (.int .i64), .own (.slice (.int .i64)), .own (.int .i64), .own (.int .i64)]⟩
def det_Smallest.c9 (k : Nat) (ds : List Dat) : Option (Int × Int × (List (List Int)) × (List Int)) := pop (.int .i64) ds fun x0 ds => pop (.int .i64) ds fun x1 ds => pop (.int .i64) ds fun x2 ds => pop (.int .i64) ds fun x3 ds => pop (.slice (.slice (.int .i64))) ds fun x4 ds => pop (.slice (.int .i64)) ds fun x5 ds => pop (.int .i64) ds fun x6 ds => pop (.int .i64) ds fun x7 ds => pop (.slice (.int .i64)) ds fun x8 ds => pop (.slice (.slice (.int .i64))) ds fun x9 ds => pop (.slice (.int .i64)) ds fun x10 ds => pop (.slice (.int .i64)) ds fun x11 ds => popN ds (det_Smallest.l4 k x0 x1 x2 x3 x4 x5 x6 x7 x8 x9 x10 x11)
def det_Smallest.tbl : List (Nat × Tm × (Nat → List Dat → Option (Int × Int × (List (List Int)) × (List Int)))) := [(9, det_Smallest.t9, det_Smallest.c9)]
noncomputable abbrev det_Smallest.R (k : Nat) := run T (det_Smallest.env k) Try.f100.ntmps (cutE 0 det_Smallest.tbl k) (finE 0 det_Smallest.to det_Smallest.out) (fnRes Try.f100) [] 100000 true
theorem det_Smallest.e9 (k : Nat) (x0 : Int) (x1 : Int) (x2 : Int) (x3 : Int) (x4 : (List (List Int))) (x5 : (List Int)) (x6 : Int) (x7 : Int) (x8 : (List Int)) (x9 : (List (List Int))) (x10 : (List Int)) (x11 : (List Int)) : det_Smallest.l4 (k + 1) x0 x1 x2 x3 x4 x5 x6 x7 x8 x9 x10 x11 = det_Smallest.R k (start (stackOf 9 det_Smallest.body)) (det_Smallest.t9.fill [⟨(.int .i64), x0⟩, ⟨(.int .i64), x1⟩, ⟨(.int .i64), x2⟩, ⟨(.int .i64), x3⟩, ⟨(.slice (.slice (.int .i64))), x4⟩, ⟨(.slice (.int .i64)), x5⟩, ⟨(.int .i64), x6⟩, ⟨(.int .i64), x7⟩, ⟨(.slice (.int .i64)), x8⟩, ⟨(.slice (.slice (.int .i64))), x9⟩, ⟨(.slice (.int .i64)), x10⟩, ⟨(.slice (.int .i64)), x11⟩]) := by kernel_rfl
theorem det_Smallest.s9 : stackAt 9 det_Smallest.body [] = some (stackOf 9 det_Smallest.body) := by kernel_rfl
theorem det_Smallest.h9 (k : Nat) (ds : List Dat) (r : Int × Int × (List (List Int)) × (List Int)) (h : det_Smallest.c9 k ds = some r) : ∃ k', k' < k ∧ ∃ s, stackAt 9 det_Smallest.body [] = some s ∧ det_Smallest.R k' (start s) (det_Smallest.t9.fill ds) = some r := by
  unfold det_Smallest.c9 at h
  obtain ⟨x0, d0, rfl, h0⟩ := pop_some h
  obtain ⟨x1, d1, rfl, h1⟩ := pop_some h0
  obtain ⟨x2, d2, rfl, h2⟩ := pop_some h1
  obtain ⟨x3, d3, rfl, h3⟩ := pop_some h2
  obtain ⟨x4, d4, rfl, h4⟩ := pop_some h3
  obtain ⟨x5, d5, rfl, h5⟩ := pop_some h4
  obtain ⟨x6, d6, rfl, h6⟩ := pop_some h5
  obtain ⟨x7, d7, rfl, h7⟩ := pop_some h6
  obtain ⟨x8, d8, rfl, h8⟩ := pop_some h7
  obtain ⟨x9, d9, rfl, h9⟩ := pop_some h8
  obtain ⟨x10, d10, rfl, h10⟩ := pop_some h9
  obtain ⟨x11, d11, rfl, h11⟩ := pop_some h10
  obtain ⟨rfl, g⟩ := popN_some h11
  cases k with
  | zero => cases (show none = some r from g)
  | succ k => exact ⟨k, Nat.lt_succ_self k, _, det_Smallest.s9, (det_Smallest.e9 k x0 x1 x2 x3 x4 x5 x6 x7 x8 x9 x10 x11).symm.trans g⟩
theorem det_Smallest.e (k : Nat) (x0 : (Int × (Int × ((List (List Int)) × ((List Int) × Unit))))) : det_Smallest.f k x0 = det_Smallest.R k ([.code det_Smallest.body]) (det_Smallest.ti.fill [⟨(.pair (.int .i64) (.pair (.int .i64) (.pair (.slice (.slice (.int .i64))) (.pair (.slice (.int .i64)) .unit)))), x0⟩]) := by kernel_rfl
theorem det_Smallest.h (k : Nat) (ds : List Dat) (r : Int × Int × (List (List Int)) × (List Int)) (h : det_Smallest.g k ds = some r) : ∃ k', k' < k ∧ det_Smallest.R k' ([.code det_Smallest.body]) (det_Smallest.ti.fill ds) = some r := by
  cases k with
  | zero => cases (show none = some r from h)
  | succ k =>
  replace h : det_Smallest.c k ds = some r := h
  unfold det_Smallest.c at h
  obtain ⟨x0, d0, rfl, h0⟩ := pop_some h
  obtain ⟨rfl, g⟩ := popN_some h0
  exact ⟨k, Nat.lt_succ_self k, (det_Smallest.e k x0).symm.trans g⟩
theorem det_Smallest.o (ds : List Dat) (r : Int × Int × (List (List Int)) × (List Int)) (h : det_Smallest.out ds = some r) : ds = det_Smallest.rs r := by
  unfold det_Smallest.out at h
  obtain ⟨x0, d0, rfl, h0⟩ := pop_some h
  obtain ⟨x1, d1, rfl, h1⟩ := pop_some h0
  obtain ⟨x2, d2, rfl, h2⟩ := pop_some h1
  obtain ⟨x3, d3, rfl, h3⟩ := pop_some h2
  obtain ⟨rfl, g⟩ := popN_some h3
  cases g
  rfl
theorem det_Smallest.fn : FnOk Try.prog 100 Try.f100 det_Smallest.body Try.f100.ntmps 1 (fnRes Try.f100) :=
  fnOk_of (by kernel_rfl) (by kernel_rfl) (by kernel_rfl) (by kernel_rfl)
theorem det_Smallest.con' : ∀ k ds r, det_Smallest.g k ds = some r → Con Try.prog 100 1 det_Smallest.ti det_Smallest.to ds (det_Smallest.rs r) :=
  fun_ok (T := T) T_ok mixed det_Smallest.fn (env := det_Smallest.env) (tbl := det_Smallest.tbl) (gOut := det_Smallest.out) (nin := 0) (cuts := []) (fuel := 100000) rfl (by kernel_rfl) (by kernel_rfl) (by kernel_rfl) (fun x hx => by
    simp only [det_Smallest.tbl, List.mem_cons, List.not_mem_nil, or_false] at hx
    subst hx
    · exact det_Smallest.h9
) det_Smallest.o det_Smallest.h (fun k _ => by unfold det_Smallest.env; exact (envC_ok (fun ds K r h => by
    obtain ⟨x0, d0, rfl, h0⟩ := pop_some h
    obtain ⟨x1, d1, rfl, h1⟩ := pop_some h0
    obtain ⟨x2, d2, rfl, h2⟩ := pop_some h1
    obtain ⟨x3, d3, rfl, h3⟩ := pop_some h2
    obtain ⟨x4, d4, rfl, h4⟩ := pop_some h3
    obtain ⟨x5, d5, rfl, h5⟩ := pop_some h4
    obtain ⟨x6, d6, rfl, h6⟩ := pop_some h5
    obtain ⟨x7, d7, rfl, h7⟩ := pop_some h6
    obtain ⟨x8, d8, rfl, h8⟩ := pop_some h7
    obtain ⟨rfl, g⟩ := popN_some h8
    obtain ⟨r1, h1, h2⟩ := bind_some g
    exact ⟨_, h2, det_Explore_int_.con k _ h1⟩) (envC_ok (fun ds K r h => by
    obtain ⟨x0, d0, rfl, h0⟩ := pop_some h
    obtain ⟨rfl, g⟩ := popN_some h0
    obtain ⟨r1, h1, h2⟩ := bind_some g
    exact ⟨_, h2, det_Classes.con k _ h1⟩) env0_ok)))
theorem det_Smallest.con (k : Nat) {x0 : (Int × (Int × ((List (List Int)) × ((List Int) × Unit))))} (r : Int × Int × (List (List Int)) × (List Int)) (h : det_Smallest.f k x0 = some r) : Con Try.prog 100 1 det_Smallest.ti det_Smallest.to [⟨(.pair (.int .i64) (.pair (.int .i64) (.pair (.slice (.slice (.int .i64))) (.pair (.slice (.int .i64)) .unit)))), x0⟩] (det_Smallest.rs r) :=
  det_Smallest.con' (k + 1) _ r (by show det_Smallest.c k _ = some r; unfold det_Smallest.c; simp only [pop_self, popN]; exact h)
def det_Least.f (k : Nat) (d0 : (Int × (Int × (List (List (Int)) × (List (Int) × Unit))))) : Option (Int × Int × Int × List (List Int) × List Int) :=
 (det_Check.f k (d0.fst, d0.snd.fst, d0.snd.snd.fst, d0.snd.snd.snd.fst, ())).bind fun r1 =>
  if r1 = 0 then
   (det_Smallest.f k (d0.fst, d0.snd.fst, d0.snd.snd.fst, d0.snd.snd.snd.fst, ())).bind fun r3 =>
    some (r3.fst, r3.snd.fst, 0, r3.snd.snd.fst, r3.snd.snd.snd)
  else
   some (0, 0, r1, [], [])

noncomputable def det_Least.body : Code := fnBody Try.f42
def det_Least.ti : Tm := ⟨[(0, .p (.pair (.int .i64) (.pair (.int .i64) (.pair (.slice (.slice (.int .i64))) (.pair (.slice (.int .i64)) .unit)))))], []⟩
def det_Least.to : Tm := ⟨[(0, .agg [.p (.int .i64), .p (.int .i64), .own 0, .own 1]), (1, .p (.int .i64))], [.own (.slice (.int .i64)), .own (.int .i64)]⟩
def det_Least.rs (r : Int × Int × Int × (List (List Int)) × (List Int)) : List Dat := [⟨(.int .i64), r.1⟩, ⟨(.int .i64), r.2.1⟩, ⟨(.int .i64), r.2.2.1⟩, ⟨(.slice (.slice (.int .i64))), r.2.2.2.1⟩, ⟨(.slice (.int .i64)), r.2.2.2.2⟩]
def det_Least.out (ds : List Dat) : Option (Int × Int × Int × (List (List Int)) × (List Int)) := pop (.int .i64) ds fun x0 ds => pop (.int .i64) ds fun x1 ds => pop (.int .i64) ds fun x2 ds => pop (.slice (.slice (.int .i64))) ds fun x3 ds => pop (.slice (.int .i64)) ds fun x4 ds => popN ds (some (x0, x1, x2, x3, x4))
def det_Least.c (k : Nat) (ds : List Dat) : Option (Int × Int × Int × (List (List Int)) × (List Int)) := pop (.pair (.int .i64) (.pair (.int .i64) (.pair (.slice (.slice (.int .i64))) (.pair (.slice (.int .i64)) .unit)))) ds fun x0 ds => popN ds (det_Least.f k x0)
def det_Least.g : Nat → List Dat → Option (Int × Int × Int × (List (List Int)) × (List Int))
 | 0, _ => none
 | k + 1, ds => det_Least.c k ds
def det_Least.env (k : Nat) : Nat → List SV → List Chunk → KT (Int × Int × Int × (List (List Int)) × (List Int)) → Option (Int × Int × Int × (List (List Int)) × (List Int)) := (envC 99 1 det_Check.ti det_Check.to (fun ds K => pop (.pair (.int .i64) (.pair (.int .i64) (.pair (.slice (.slice (.int .i64))) (.pair (.slice (.int .i64)) .unit)))) ds fun x0 ds => popN ds ((det_Check.f k x0).bind fun r => K (det_Check.rs r))) (envC 100 1 det_Smallest.ti det_Smallest.to (fun ds K => pop (.pair (.int .i64) (.pair (.int .i64) (.pair (.slice (.slice (.int .i64))) (.pair (.slice (.int .i64)) .unit)))) ds fun x0 ds => popN ds ((det_Smallest.f k x0).bind fun r => K (det_Smallest.rs r))) env0))
def det_Least.tbl : List (Nat × Tm × (Nat → List Dat → Option (Int × Int × Int × (List (List Int)) × (List Int)))) := []
noncomputable abbrev det_Least.R (k : Nat) := run T (det_Least.env k) Try.f42.ntmps (cutE 0 det_Least.tbl k) (finE 0 det_Least.to det_Least.out) (fnRes Try.f42) [] 100000 true
theorem det_Least.e (k : Nat) (x0 : (Int × (Int × ((List (List Int)) × ((List Int) × Unit))))) : det_Least.f k x0 = det_Least.R k ([.code det_Least.body]) (det_Least.ti.fill [⟨(.pair (.int .i64) (.pair (.int .i64) (.pair (.slice (.slice (.int .i64))) (.pair (.slice (.int .i64)) .unit)))), x0⟩]) := by kernel_rfl
theorem det_Least.h (k : Nat) (ds : List Dat) (r : Int × Int × Int × (List (List Int)) × (List Int)) (h : det_Least.g k ds = some r) : ∃ k', k' < k ∧ det_Least.R k' ([.code det_Least.body]) (det_Least.ti.fill ds) = some r := by
  cases k with
  | zero => cases (show none = some r from h)
  | succ k =>
  replace h : det_Least.c k ds = some r := h
  unfold det_Least.c at h
  obtain ⟨x0, d0, rfl, h0⟩ := pop_some h
  obtain ⟨rfl, g⟩ := popN_some h0
  exact ⟨k, Nat.lt_succ_self k, (det_Least.e k x0).symm.trans g⟩
theorem det_Least.o (ds : List Dat) (r : Int × Int × Int × (List (List Int)) × (List Int)) (h : det_Least.out ds = some r) : ds = det_Least.rs r := by
  unfold det_Least.out at h
  obtain ⟨x0, d0, rfl, h0⟩ := pop_some h
  obtain ⟨x1, d1, rfl, h1⟩ := pop_some h0
  obtain ⟨x2, d2, rfl, h2⟩ := pop_some h1
  obtain ⟨x3, d3, rfl, h3⟩ := pop_some h2
  obtain ⟨x4, d4, rfl, h4⟩ := pop_some h3
  obtain ⟨rfl, g⟩ := popN_some h4
  cases g
  rfl
theorem det_Least.fn : FnOk Try.prog 42 Try.f42 det_Least.body Try.f42.ntmps 1 (fnRes Try.f42) :=
  fnOk_of (by kernel_rfl) (by kernel_rfl) (by kernel_rfl) (by kernel_rfl)
theorem det_Least.con' : ∀ k ds r, det_Least.g k ds = some r → Con Try.prog 42 1 det_Least.ti det_Least.to ds (det_Least.rs r) :=
  fun_ok (T := T) T_ok mixed det_Least.fn (env := det_Least.env) (tbl := det_Least.tbl) (gOut := det_Least.out) (nin := 0) (cuts := []) (fuel := 100000) rfl (by kernel_rfl) (by kernel_rfl) (by kernel_rfl) (fun x hx => by simp [det_Least.tbl] at hx) det_Least.o det_Least.h (fun k _ => by unfold det_Least.env; exact (envC_ok (fun ds K r h => by
    obtain ⟨x0, d0, rfl, h0⟩ := pop_some h
    obtain ⟨rfl, g⟩ := popN_some h0
    obtain ⟨r1, h1, h2⟩ := bind_some g
    exact ⟨_, h2, det_Check.con k _ h1⟩) (envC_ok (fun ds K r h => by
    obtain ⟨x0, d0, rfl, h0⟩ := pop_some h
    obtain ⟨rfl, g⟩ := popN_some h0
    obtain ⟨r1, h1, h2⟩ := bind_some g
    exact ⟨_, h2, det_Smallest.con k _ h1⟩) env0_ok)))
theorem det_Least.con (k : Nat) {x0 : (Int × (Int × ((List (List Int)) × ((List Int) × Unit))))} (r : Int × Int × Int × (List (List Int)) × (List Int)) (h : det_Least.f k x0 = some r) : Con Try.prog 42 1 det_Least.ti det_Least.to [⟨(.pair (.int .i64) (.pair (.int .i64) (.pair (.slice (.slice (.int .i64))) (.pair (.slice (.int .i64)) .unit)))), x0⟩] (det_Least.rs r) :=
  det_Least.con' (k + 1) _ r (by show det_Least.c k _ = some r; unfold det_Least.c; simp only [pop_self, popN]; exact h)
def monoid_small.f (k : Nat) (d0 : (Int × (Int × (List (List (Int)) × (List (Int) × Unit))))) : Option (Int × Int × Int × List (List Int) × List Int) :=
 (det_Least.f k (d0.fst, d0.snd.fst, d0.snd.snd.fst, d0.snd.snd.snd.fst, ())).bind fun r1 =>
  if r1.snd.snd.fst = 0 then
   if 5 < (↑r1.snd.snd.snd.fst.length : Int) then
    some (0, 0, 1, [], [])
   else
    some (r1.fst, r1.snd.fst, 0, r1.snd.snd.snd.fst, r1.snd.snd.snd.snd)
  else
   some (0, 0, r1.snd.snd.fst, [], [])

noncomputable def monoid_small.body : Code := fnBody Try.f131
def monoid_small.ti : Tm := ⟨[(0, .p (.pair (.int .i64) (.pair (.int .i64) (.pair (.slice (.slice (.int .i64))) (.pair (.slice (.int .i64)) .unit)))))], []⟩
def monoid_small.to : Tm := ⟨[(0, .agg [.p (.int .i64), .p (.int .i64), .own 0, .own 1]), (1, .p (.int .i64))], [.own (.slice (.int .i64)), .own (.int .i64)]⟩
def monoid_small.rs (r : Int × Int × Int × (List (List Int)) × (List Int)) : List Dat := [⟨(.int .i64), r.1⟩, ⟨(.int .i64), r.2.1⟩, ⟨(.int .i64), r.2.2.1⟩, ⟨(.slice (.slice (.int .i64))), r.2.2.2.1⟩, ⟨(.slice (.int .i64)), r.2.2.2.2⟩]
def monoid_small.out (ds : List Dat) : Option (Int × Int × Int × (List (List Int)) × (List Int)) := pop (.int .i64) ds fun x0 ds => pop (.int .i64) ds fun x1 ds => pop (.int .i64) ds fun x2 ds => pop (.slice (.slice (.int .i64))) ds fun x3 ds => pop (.slice (.int .i64)) ds fun x4 ds => popN ds (some (x0, x1, x2, x3, x4))
def monoid_small.c (k : Nat) (ds : List Dat) : Option (Int × Int × Int × (List (List Int)) × (List Int)) := pop (.pair (.int .i64) (.pair (.int .i64) (.pair (.slice (.slice (.int .i64))) (.pair (.slice (.int .i64)) .unit)))) ds fun x0 ds => popN ds (monoid_small.f k x0)
def monoid_small.g : Nat → List Dat → Option (Int × Int × Int × (List (List Int)) × (List Int))
 | 0, _ => none
 | k + 1, ds => monoid_small.c k ds
def monoid_small.env (k : Nat) : Nat → List SV → List Chunk → KT (Int × Int × Int × (List (List Int)) × (List Int)) → Option (Int × Int × Int × (List (List Int)) × (List Int)) := (envC 42 1 det_Least.ti det_Least.to (fun ds K => pop (.pair (.int .i64) (.pair (.int .i64) (.pair (.slice (.slice (.int .i64))) (.pair (.slice (.int .i64)) .unit)))) ds fun x0 ds => popN ds ((det_Least.f k x0).bind fun r => K (det_Least.rs r))) env0)
def monoid_small.tbl : List (Nat × Tm × (Nat → List Dat → Option (Int × Int × Int × (List (List Int)) × (List Int)))) := []
noncomputable abbrev monoid_small.R (k : Nat) := run T (monoid_small.env k) Try.f131.ntmps (cutE 0 monoid_small.tbl k) (finE 0 monoid_small.to monoid_small.out) (fnRes Try.f131) [] 100000 true
theorem monoid_small.e (k : Nat) (x0 : (Int × (Int × ((List (List Int)) × ((List Int) × Unit))))) : monoid_small.f k x0 = monoid_small.R k ([.code monoid_small.body]) (monoid_small.ti.fill [⟨(.pair (.int .i64) (.pair (.int .i64) (.pair (.slice (.slice (.int .i64))) (.pair (.slice (.int .i64)) .unit)))), x0⟩]) := by kernel_rfl
theorem monoid_small.h (k : Nat) (ds : List Dat) (r : Int × Int × Int × (List (List Int)) × (List Int)) (h : monoid_small.g k ds = some r) : ∃ k', k' < k ∧ monoid_small.R k' ([.code monoid_small.body]) (monoid_small.ti.fill ds) = some r := by
  cases k with
  | zero => cases (show none = some r from h)
  | succ k =>
  replace h : monoid_small.c k ds = some r := h
  unfold monoid_small.c at h
  obtain ⟨x0, d0, rfl, h0⟩ := pop_some h
  obtain ⟨rfl, g⟩ := popN_some h0
  exact ⟨k, Nat.lt_succ_self k, (monoid_small.e k x0).symm.trans g⟩
theorem monoid_small.o (ds : List Dat) (r : Int × Int × Int × (List (List Int)) × (List Int)) (h : monoid_small.out ds = some r) : ds = monoid_small.rs r := by
  unfold monoid_small.out at h
  obtain ⟨x0, d0, rfl, h0⟩ := pop_some h
  obtain ⟨x1, d1, rfl, h1⟩ := pop_some h0
  obtain ⟨x2, d2, rfl, h2⟩ := pop_some h1
  obtain ⟨x3, d3, rfl, h3⟩ := pop_some h2
  obtain ⟨x4, d4, rfl, h4⟩ := pop_some h3
  obtain ⟨rfl, g⟩ := popN_some h4
  cases g
  rfl
theorem monoid_small.fn : FnOk Try.prog 131 Try.f131 monoid_small.body Try.f131.ntmps 1 (fnRes Try.f131) :=
  fnOk_of (by kernel_rfl) (by kernel_rfl) (by kernel_rfl) (by kernel_rfl)
theorem monoid_small.con' : ∀ k ds r, monoid_small.g k ds = some r → Con Try.prog 131 1 monoid_small.ti monoid_small.to ds (monoid_small.rs r) :=
  fun_ok (T := T) T_ok mixed monoid_small.fn (env := monoid_small.env) (tbl := monoid_small.tbl) (gOut := monoid_small.out) (nin := 0) (cuts := []) (fuel := 100000) rfl (by kernel_rfl) (by kernel_rfl) (by kernel_rfl) (fun x hx => by simp [monoid_small.tbl] at hx) monoid_small.o monoid_small.h (fun k _ => by unfold monoid_small.env; exact (envC_ok (fun ds K r h => by
    obtain ⟨x0, d0, rfl, h0⟩ := pop_some h
    obtain ⟨rfl, g⟩ := popN_some h0
    obtain ⟨r1, h1, h2⟩ := bind_some g
    exact ⟨_, h2, det_Least.con k _ h1⟩) env0_ok))
theorem monoid_small.con (k : Nat) {x0 : (Int × (Int × ((List (List Int)) × ((List Int) × Unit))))} (r : Int × Int × Int × (List (List Int)) × (List Int)) (h : monoid_small.f k x0 = some r) : Con Try.prog 131 1 monoid_small.ti monoid_small.to [⟨(.pair (.int .i64) (.pair (.int .i64) (.pair (.slice (.slice (.int .i64))) (.pair (.slice (.int .i64)) .unit)))), x0⟩] (monoid_small.rs r) :=
  monoid_small.con' (k + 1) _ r (by show monoid_small.c k _ = some r; unfold monoid_small.c; simp only [pop_self, popN]; exact h)
mutual
def word_May.l6 : Nat → Int → List (Int) → Int → Int → Option (Int)
 | 0, _, _, _, _ => none
 | k + 1, letters0, x16, x17, x18 =>
  if x18 < x17 then
   if 0 ≤ x18 then
   if x18 < (↑x16.length : Int) then
    if Go.Proofs.YtiiioobebeaafaaSx.rd (Int.ofNat 0) x16 x18 < 0 then
      some (2)
     else
      if letters0 ≤ Go.Proofs.YtiiioobebeaafaaSx.rd (Int.ofNat 0) x16 x18 then
       some (2)
      else
       word_May.l6 k letters0 x16 x17 (Go.IntKind.i64.wrap (x18 + 1))
    else none
   else none
  else
   some (0)
end
def word_May.f (k : Nat) (letters0 : Int) (w1 : List (Int)) : Option (Int) :=
 if letters0 < 1 then
  some (2)
 else
  if 4 < letters0 then
   some (2)
  else
   if 60 < (↑w1.length : Int) then
    some (1)
   else
    word_May.l6 k letters0 w1 ((↑w1.length : Int)) 0

noncomputable def word_May.body : Code := fnBody Try.f140
def word_May.ti : Tm := ⟨[(0, .p (.int .i64)), (1, .p (.slice (.int .i64)))], []⟩
def word_May.to : Tm := ⟨[(0, .p (.int .i64))], []⟩
def word_May.rs (r : Int) : List Dat := [⟨(.int .i64), r⟩]
def word_May.out (ds : List Dat) : Option (Int) := pop (.int .i64) ds fun x0 ds => popN ds (some (x0))
def word_May.c (k : Nat) (ds : List Dat) : Option (Int) := pop (.int .i64) ds fun x0 ds => pop (.slice (.int .i64)) ds fun x1 ds => popN ds (word_May.f k x0 x1)
def word_May.g : Nat → List Dat → Option (Int)
 | 0, _ => none
 | k + 1, ds => word_May.c k ds
def word_May.env (k : Nat) : Nat → List SV → List Chunk → KT (Int) → Option (Int) := env0
def word_May.t13 : Tm := ⟨[(0, .p (.int .i64)), (16, .p (.slice (.int .i64))), (17, .p (.int .i64)), (18, .p (.int .i64))], []⟩
def word_May.c13 (k : Nat) (ds : List Dat) : Option (Int) := pop (.int .i64) ds fun x0 ds => pop (.slice (.int .i64)) ds fun x1 ds => pop (.int .i64) ds fun x2 ds => pop (.int .i64) ds fun x3 ds => popN ds (word_May.l6 k x0 x1 x2 x3)
def word_May.tbl : List (Nat × Tm × (Nat → List Dat → Option (Int))) := [(13, word_May.t13, word_May.c13)]
noncomputable abbrev word_May.R (k : Nat) := run T (word_May.env k) Try.f140.ntmps (cutE 0 word_May.tbl k) (finE 0 word_May.to word_May.out) (fnRes Try.f140) [] 100000 true
theorem word_May.e13 (k : Nat) (x0 : Int) (x1 : (List Int)) (x2 : Int) (x3 : Int) : word_May.l6 (k + 1) x0 x1 x2 x3 = word_May.R k (start (stackOf 13 word_May.body)) (word_May.t13.fill [⟨(.int .i64), x0⟩, ⟨(.slice (.int .i64)), x1⟩, ⟨(.int .i64), x2⟩, ⟨(.int .i64), x3⟩]) := by kernel_rfl
theorem word_May.s13 : stackAt 13 word_May.body [] = some (stackOf 13 word_May.body) := by kernel_rfl
theorem word_May.h13 (k : Nat) (ds : List Dat) (r : Int) (h : word_May.c13 k ds = some r) : ∃ k', k' < k ∧ ∃ s, stackAt 13 word_May.body [] = some s ∧ word_May.R k' (start s) (word_May.t13.fill ds) = some r := by
  unfold word_May.c13 at h
  obtain ⟨x0, d0, rfl, h0⟩ := pop_some h
  obtain ⟨x1, d1, rfl, h1⟩ := pop_some h0
  obtain ⟨x2, d2, rfl, h2⟩ := pop_some h1
  obtain ⟨x3, d3, rfl, h3⟩ := pop_some h2
  obtain ⟨rfl, g⟩ := popN_some h3
  cases k with
  | zero => cases (show none = some r from g)
  | succ k => exact ⟨k, Nat.lt_succ_self k, _, word_May.s13, (word_May.e13 k x0 x1 x2 x3).symm.trans g⟩
theorem word_May.e (k : Nat) (x0 : Int) (x1 : (List Int)) : word_May.f k x0 x1 = word_May.R k ([.code word_May.body]) (word_May.ti.fill [⟨(.int .i64), x0⟩, ⟨(.slice (.int .i64)), x1⟩]) := by kernel_rfl
theorem word_May.h (k : Nat) (ds : List Dat) (r : Int) (h : word_May.g k ds = some r) : ∃ k', k' < k ∧ word_May.R k' ([.code word_May.body]) (word_May.ti.fill ds) = some r := by
  cases k with
  | zero => cases (show none = some r from h)
  | succ k =>
  replace h : word_May.c k ds = some r := h
  unfold word_May.c at h
  obtain ⟨x0, d0, rfl, h0⟩ := pop_some h
  obtain ⟨x1, d1, rfl, h1⟩ := pop_some h0
  obtain ⟨rfl, g⟩ := popN_some h1
  exact ⟨k, Nat.lt_succ_self k, (word_May.e k x0 x1).symm.trans g⟩
theorem word_May.o (ds : List Dat) (r : Int) (h : word_May.out ds = some r) : ds = word_May.rs r := by
  unfold word_May.out at h
  obtain ⟨x0, d0, rfl, h0⟩ := pop_some h
  obtain ⟨rfl, g⟩ := popN_some h0
  cases g
  rfl
theorem word_May.fn : FnOk Try.prog 140 Try.f140 word_May.body Try.f140.ntmps 2 (fnRes Try.f140) :=
  fnOk_of (by kernel_rfl) (by kernel_rfl) (by kernel_rfl) (by kernel_rfl)
theorem word_May.con' : ∀ k ds r, word_May.g k ds = some r → Con Try.prog 140 2 word_May.ti word_May.to ds (word_May.rs r) :=
  fun_ok (T := T) T_ok mixed word_May.fn (env := word_May.env) (tbl := word_May.tbl) (gOut := word_May.out) (nin := 0) (cuts := []) (fuel := 100000) rfl (by kernel_rfl) (by kernel_rfl) (by kernel_rfl) (fun x hx => by
    simp only [word_May.tbl, List.mem_cons, List.not_mem_nil, or_false] at hx
    subst hx
    · exact word_May.h13
) word_May.o word_May.h (fun k _ => by unfold word_May.env; exact env0_ok)
theorem word_May.con (k : Nat) {x0 : Int} {x1 : (List Int)} (r : Int) (h : word_May.f k x0 x1 = some r) : Con Try.prog 140 2 word_May.ti word_May.to [⟨(.int .i64), x0⟩, ⟨(.slice (.int .i64)), x1⟩] (word_May.rs r) :=
  word_May.con' (k + 1) _ r (by show word_May.c k _ = some r; unfold word_May.c; simp only [pop_self, popN]; exact h)
mutual
def det_Key.l3 : Nat → List (Int) → Int → Int → List (Int) → Option (ByteArray)
 | 0, _, _, _, _ => none
 | k + 1, x6, x7, x8, b3 =>
  if x8 < x7 then
   if 0 ≤ x8 then
   if x8 < (↑x6.length : Int) then
    if 0 ≤ 8 then
     if (b3 ++ [Go.IntKind.u8.wrap (Go.Proofs.YtiiioobebeaafaaSx.rd (Int.ofNat 0) x6 x8), Go.IntKind.u8.wrap ((Go.Proofs.YtiiioobebeaafaaSx.rd (Int.ofNat 0) x6 x8).fdiv (2 ^ min (Int.toNat 8) Go.IntKind.i64.bits))]).length.blt 1000000000 = true then
      det_Key.l3 k x6 x7 (Go.IntKind.i64.wrap (x8 + 1)) (b3 ++ [Go.IntKind.u8.wrap (Go.Proofs.YtiiioobebeaafaaSx.rd (Int.ofNat 0) x6 x8), Go.IntKind.u8.wrap ((Go.Proofs.YtiiioobebeaafaaSx.rd (Int.ofNat 0) x6 x8).fdiv (2 ^ min (Int.toNat 8) Go.IntKind.i64.bits))])
      else none
     else none
    else none
   else none
  else
   some (Go.Proofs.YtiiioobebeaafaaSx.strOf b3)
end
def det_Key.f (k : Nat) (l0 : List (Int)) : Option (ByteArray) :=
 det_Key.l3 k l0 ((↑l0.length : Int)) 0 []

noncomputable def det_Key.body : Code := fnBody Try.f88
def det_Key.ti : Tm := ⟨[(0, .p (.slice (.int .i64)))], []⟩
def det_Key.to : Tm := ⟨[(0, .p .str)], []⟩
def det_Key.rs (r : ByteArray) : List Dat := [⟨.str, r⟩]
def det_Key.out (ds : List Dat) : Option (ByteArray) := pop .str ds fun x0 ds => popN ds (some (x0))
def det_Key.c (k : Nat) (ds : List Dat) : Option (ByteArray) := pop (.slice (.int .i64)) ds fun x0 ds => popN ds (det_Key.f k x0)
def det_Key.g : Nat → List Dat → Option (ByteArray)
 | 0, _ => none
 | k + 1, ds => det_Key.c k ds
def det_Key.env (k : Nat) : Nat → List SV → List Chunk → KT (ByteArray) → Option (ByteArray) := env0
def det_Key.t7 : Tm := ⟨[(3, .own 0), (6, .p (.slice (.int .i64))), (7, .p (.int .i64)), (8, .p (.int .i64))], [.own (.int .u8)]⟩
def det_Key.c7 (k : Nat) (ds : List Dat) : Option (ByteArray) := pop (.slice (.int .i64)) ds fun x0 ds => pop (.int .i64) ds fun x1 ds => pop (.int .i64) ds fun x2 ds => pop (.slice (.int .u8)) ds fun x3 ds => popN ds (det_Key.l3 k x0 x1 x2 x3)
def det_Key.tbl : List (Nat × Tm × (Nat → List Dat → Option (ByteArray))) := [(7, det_Key.t7, det_Key.c7)]
noncomputable abbrev det_Key.R (k : Nat) := run T (det_Key.env k) Try.f88.ntmps (cutE 0 det_Key.tbl k) (finE 0 det_Key.to det_Key.out) (fnRes Try.f88) [] 100000 true
theorem det_Key.e7 (k : Nat) (x0 : (List Int)) (x1 : Int) (x2 : Int) (x3 : (List Int)) : det_Key.l3 (k + 1) x0 x1 x2 x3 = det_Key.R k (start (stackOf 7 det_Key.body)) (det_Key.t7.fill [⟨(.slice (.int .i64)), x0⟩, ⟨(.int .i64), x1⟩, ⟨(.int .i64), x2⟩, ⟨(.slice (.int .u8)), x3⟩]) := by kernel_rfl
theorem det_Key.s7 : stackAt 7 det_Key.body [] = some (stackOf 7 det_Key.body) := by kernel_rfl
theorem det_Key.h7 (k : Nat) (ds : List Dat) (r : ByteArray) (h : det_Key.c7 k ds = some r) : ∃ k', k' < k ∧ ∃ s, stackAt 7 det_Key.body [] = some s ∧ det_Key.R k' (start s) (det_Key.t7.fill ds) = some r := by
  unfold det_Key.c7 at h
  obtain ⟨x0, d0, rfl, h0⟩ := pop_some h
  obtain ⟨x1, d1, rfl, h1⟩ := pop_some h0
  obtain ⟨x2, d2, rfl, h2⟩ := pop_some h1
  obtain ⟨x3, d3, rfl, h3⟩ := pop_some h2
  obtain ⟨rfl, g⟩ := popN_some h3
  cases k with
  | zero => cases (show none = some r from g)
  | succ k => exact ⟨k, Nat.lt_succ_self k, _, det_Key.s7, (det_Key.e7 k x0 x1 x2 x3).symm.trans g⟩
theorem det_Key.e (k : Nat) (x0 : (List Int)) : det_Key.f k x0 = det_Key.R k ([.code det_Key.body]) (det_Key.ti.fill [⟨(.slice (.int .i64)), x0⟩]) := by kernel_rfl
theorem det_Key.h (k : Nat) (ds : List Dat) (r : ByteArray) (h : det_Key.g k ds = some r) : ∃ k', k' < k ∧ det_Key.R k' ([.code det_Key.body]) (det_Key.ti.fill ds) = some r := by
  cases k with
  | zero => cases (show none = some r from h)
  | succ k =>
  replace h : det_Key.c k ds = some r := h
  unfold det_Key.c at h
  obtain ⟨x0, d0, rfl, h0⟩ := pop_some h
  obtain ⟨rfl, g⟩ := popN_some h0
  exact ⟨k, Nat.lt_succ_self k, (det_Key.e k x0).symm.trans g⟩
theorem det_Key.o (ds : List Dat) (r : ByteArray) (h : det_Key.out ds = some r) : ds = det_Key.rs r := by
  unfold det_Key.out at h
  obtain ⟨x0, d0, rfl, h0⟩ := pop_some h
  obtain ⟨rfl, g⟩ := popN_some h0
  cases g
  rfl
theorem det_Key.fn : FnOk Try.prog 88 Try.f88 det_Key.body Try.f88.ntmps 1 (fnRes Try.f88) :=
  fnOk_of (by kernel_rfl) (by kernel_rfl) (by kernel_rfl) (by kernel_rfl)
theorem det_Key.con' : ∀ k ds r, det_Key.g k ds = some r → Con Try.prog 88 1 det_Key.ti det_Key.to ds (det_Key.rs r) :=
  fun_ok (T := T) T_ok mixed det_Key.fn (env := det_Key.env) (tbl := det_Key.tbl) (gOut := det_Key.out) (nin := 0) (cuts := []) (fuel := 100000) rfl (by kernel_rfl) (by kernel_rfl) (by kernel_rfl) (fun x hx => by
    simp only [det_Key.tbl, List.mem_cons, List.not_mem_nil, or_false] at hx
    subst hx
    · exact det_Key.h7
) det_Key.o det_Key.h (fun k _ => by unfold det_Key.env; exact env0_ok)
theorem det_Key.con (k : Nat) {x0 : (List Int)} (r : ByteArray) (h : det_Key.f k x0 = some r) : Con Try.prog 88 1 det_Key.ti det_Key.to [⟨(.slice (.int .i64)), x0⟩] (det_Key.rs r) :=
  det_Key.con' (k + 1) _ r (by show det_Key.c k _ = some r; unfold det_Key.c; simp only [pop_self, popN]; exact h)
mutual
def det_After.l2 : Nat → Int → List (Int) → Int → Int → Int → Int → List (List (Int)) → List (Int) → Option (Int)
 | 0, _, _, _, _, _, _, _, _ => none
 | k + 1, q1, x9, x10, x11, d3_0, d3_1, d3_2, d3_3 =>
  if x11 < x10 then
   if 0 ≤ x11 then
   if x11 < (↑x9.length : Int) then
    if 0 ≤ q1 then
     if q1 < (↑d3_2.length : Int) then
      if 0 ≤ Go.Proofs.YtiiioobebeaafaaSx.rd (Int.ofNat 0) x9 x11 then
       if Go.Proofs.YtiiioobebeaafaaSx.rd (Int.ofNat 0) x9 x11 < (↑(Go.Proofs.YtiiioobebeaafaaSx.rd [] d3_2 q1).length : Int) then
        det_After.l2 k (Go.Proofs.YtiiioobebeaafaaSx.rd (Int.ofNat 0) (Go.Proofs.YtiiioobebeaafaaSx.rd [] d3_2 q1) (Go.Proofs.YtiiioobebeaafaaSx.rd (Int.ofNat 0) x9 x11)) x9 x10 (Go.IntKind.i64.wrap (x11 + 1)) d3_0 d3_1 d3_2 d3_3
        else none
       else none
      else none
     else none
    else none
   else none
  else
   some (q1)
end
def det_After.f (k : Nat) (d0 : (Int × (Int × (List (List (Int)) × (List (Int) × Unit))))) (q1 : Int) (w2 : List (Int)) : Option (Int) :=
 det_After.l2 k q1 w2 ((↑w2.length : Int)) 0 d0.fst d0.snd.fst d0.snd.snd.fst d0.snd.snd.snd.fst

noncomputable def det_After.body : Code := fnBody Try.f141
def det_After.ti : Tm := ⟨[(0, .p (.pair (.int .i64) (.pair (.int .i64) (.pair (.slice (.slice (.int .i64))) (.pair (.slice (.int .i64)) .unit))))), (1, .p (.int .i64)), (2, .p (.slice (.int .i64)))], []⟩
def det_After.to : Tm := ⟨[(0, .p (.int .i64))], []⟩
def det_After.rs (r : Int) : List Dat := [⟨(.int .i64), r⟩]
def det_After.out (ds : List Dat) : Option (Int) := pop (.int .i64) ds fun x0 ds => popN ds (some (x0))
def det_After.c (k : Nat) (ds : List Dat) : Option (Int) := pop (.pair (.int .i64) (.pair (.int .i64) (.pair (.slice (.slice (.int .i64))) (.pair (.slice (.int .i64)) .unit)))) ds fun x0 ds => pop (.int .i64) ds fun x1 ds => pop (.slice (.int .i64)) ds fun x2 ds => popN ds (det_After.f k x0 x1 x2)
def det_After.g : Nat → List Dat → Option (Int)
 | 0, _ => none
 | k + 1, ds => det_After.c k ds
def det_After.env (k : Nat) : Nat → List SV → List Chunk → KT (Int) → Option (Int) := env0
def det_After.t5 : Tm := ⟨[(1, .p (.int .i64)), (3, .ptr 0 0), (9, .p (.slice (.int .i64))), (10, .p (.int .i64)), (11, .p (.int .i64))], [.box [.p (.int .i64), .p (.int .i64), .p (.slice (.slice (.int .i64))), .p (.slice (.int .i64))] 58]⟩
def det_After.c5 (k : Nat) (ds : List Dat) : Option (Int) := pop (.int .i64) ds fun x0 ds => pop (.slice (.int .i64)) ds fun x1 ds => pop (.int .i64) ds fun x2 ds => pop (.int .i64) ds fun x3 ds => pop (.int .i64) ds fun x4 ds => pop (.int .i64) ds fun x5 ds => pop (.slice (.slice (.int .i64))) ds fun x6 ds => pop (.slice (.int .i64)) ds fun x7 ds => popN ds (det_After.l2 k x0 x1 x2 x3 x4 x5 x6 x7)
def det_After.tbl : List (Nat × Tm × (Nat → List Dat → Option (Int))) := [(5, det_After.t5, det_After.c5)]
noncomputable abbrev det_After.R (k : Nat) := run T (det_After.env k) Try.f141.ntmps (cutE 0 det_After.tbl k) (finE 0 det_After.to det_After.out) (fnRes Try.f141) [] 100000 true
theorem det_After.e5 (k : Nat) (x0 : Int) (x1 : (List Int)) (x2 : Int) (x3 : Int) (x4 : Int) (x5 : Int) (x6 : (List (List Int))) (x7 : (List Int)) : det_After.l2 (k + 1) x0 x1 x2 x3 x4 x5 x6 x7 = det_After.R k (start (stackOf 5 det_After.body)) (det_After.t5.fill [⟨(.int .i64), x0⟩, ⟨(.slice (.int .i64)), x1⟩, ⟨(.int .i64), x2⟩, ⟨(.int .i64), x3⟩, ⟨(.int .i64), x4⟩, ⟨(.int .i64), x5⟩, ⟨(.slice (.slice (.int .i64))), x6⟩, ⟨(.slice (.int .i64)), x7⟩]) := by kernel_rfl
theorem det_After.s5 : stackAt 5 det_After.body [] = some (stackOf 5 det_After.body) := by kernel_rfl
theorem det_After.h5 (k : Nat) (ds : List Dat) (r : Int) (h : det_After.c5 k ds = some r) : ∃ k', k' < k ∧ ∃ s, stackAt 5 det_After.body [] = some s ∧ det_After.R k' (start s) (det_After.t5.fill ds) = some r := by
  unfold det_After.c5 at h
  obtain ⟨x0, d0, rfl, h0⟩ := pop_some h
  obtain ⟨x1, d1, rfl, h1⟩ := pop_some h0
  obtain ⟨x2, d2, rfl, h2⟩ := pop_some h1
  obtain ⟨x3, d3, rfl, h3⟩ := pop_some h2
  obtain ⟨x4, d4, rfl, h4⟩ := pop_some h3
  obtain ⟨x5, d5, rfl, h5⟩ := pop_some h4
  obtain ⟨x6, d6, rfl, h6⟩ := pop_some h5
  obtain ⟨x7, d7, rfl, h7⟩ := pop_some h6
  obtain ⟨rfl, g⟩ := popN_some h7
  cases k with
  | zero => cases (show none = some r from g)
  | succ k => exact ⟨k, Nat.lt_succ_self k, _, det_After.s5, (det_After.e5 k x0 x1 x2 x3 x4 x5 x6 x7).symm.trans g⟩
theorem det_After.e (k : Nat) (x0 : (Int × (Int × ((List (List Int)) × ((List Int) × Unit))))) (x1 : Int) (x2 : (List Int)) : det_After.f k x0 x1 x2 = det_After.R k ([.code det_After.body]) (det_After.ti.fill [⟨(.pair (.int .i64) (.pair (.int .i64) (.pair (.slice (.slice (.int .i64))) (.pair (.slice (.int .i64)) .unit)))), x0⟩, ⟨(.int .i64), x1⟩, ⟨(.slice (.int .i64)), x2⟩]) := by kernel_rfl
theorem det_After.h (k : Nat) (ds : List Dat) (r : Int) (h : det_After.g k ds = some r) : ∃ k', k' < k ∧ det_After.R k' ([.code det_After.body]) (det_After.ti.fill ds) = some r := by
  cases k with
  | zero => cases (show none = some r from h)
  | succ k =>
  replace h : det_After.c k ds = some r := h
  unfold det_After.c at h
  obtain ⟨x0, d0, rfl, h0⟩ := pop_some h
  obtain ⟨x1, d1, rfl, h1⟩ := pop_some h0
  obtain ⟨x2, d2, rfl, h2⟩ := pop_some h1
  obtain ⟨rfl, g⟩ := popN_some h2
  exact ⟨k, Nat.lt_succ_self k, (det_After.e k x0 x1 x2).symm.trans g⟩
theorem det_After.o (ds : List Dat) (r : Int) (h : det_After.out ds = some r) : ds = det_After.rs r := by
  unfold det_After.out at h
  obtain ⟨x0, d0, rfl, h0⟩ := pop_some h
  obtain ⟨rfl, g⟩ := popN_some h0
  cases g
  rfl
theorem det_After.fn : FnOk Try.prog 141 Try.f141 det_After.body Try.f141.ntmps 3 (fnRes Try.f141) :=
  fnOk_of (by kernel_rfl) (by kernel_rfl) (by kernel_rfl) (by kernel_rfl)
theorem det_After.con' : ∀ k ds r, det_After.g k ds = some r → Con Try.prog 141 3 det_After.ti det_After.to ds (det_After.rs r) :=
  fun_ok (T := T) T_ok mixed det_After.fn (env := det_After.env) (tbl := det_After.tbl) (gOut := det_After.out) (nin := 0) (cuts := []) (fuel := 100000) rfl (by kernel_rfl) (by kernel_rfl) (by kernel_rfl) (fun x hx => by
    simp only [det_After.tbl, List.mem_cons, List.not_mem_nil, or_false] at hx
    subst hx
    · exact det_After.h5
) det_After.o det_After.h (fun k _ => by unfold det_After.env; exact env0_ok)
theorem det_After.con (k : Nat) {x0 : (Int × (Int × ((List (List Int)) × ((List Int) × Unit))))} {x1 : Int} {x2 : (List Int)} (r : Int) (h : det_After.f k x0 x1 x2 = some r) : Con Try.prog 141 3 det_After.ti det_After.to [⟨(.pair (.int .i64) (.pair (.int .i64) (.pair (.slice (.slice (.int .i64))) (.pair (.slice (.int .i64)) .unit)))), x0⟩, ⟨(.int .i64), x1⟩, ⟨(.slice (.int .i64)), x2⟩] (det_After.rs r) :=
  det_After.con' (k + 1) _ r (by show det_After.c k _ = some r; unfold det_After.c; simp only [pop_self, popN]; exact h)
def det_Apart_2.f (k : Nat) (c0 : (Int × (Int × Unit))) (x1_0 : Int) (x1_1 : Int) (x1_2 : List (List (Int))) (x1_3 : List (Int)) : Option (Bool × Int × Int × List (List Int) × List Int) :=
 if 0 ≤ c0.fst then
 if c0.fst < (↑x1_3.length : Int) then
  if 0 ≤ c0.snd.fst then
   if c0.snd.fst < (↑x1_3.length : Int) then
    some (!decide (Go.Proofs.YtiiioobebeaafaaSx.rd (Int.ofNat 0) x1_3 c0.fst = Go.Proofs.YtiiioobebeaafaaSx.rd (Int.ofNat 0) x1_3 c0.snd.fst), x1_0, x1_1, x1_2, x1_3)
    else none
   else none
  else none
 else none

noncomputable def det_Apart_2.body : Code := fnBody Try.f103
def det_Apart_2.ti : Tm := ⟨[(0, .p (.pair (.int .i64) (.pair (.int .i64) .unit))), (1, .ptr 0 0)], [.box [.p (.int .i64), .p (.int .i64), .p (.slice (.slice (.int .i64))), .p (.slice (.int .i64))] 58]⟩
def det_Apart_2.to : Tm := ⟨[(0, .p .bool)], [.box [.p (.int .i64), .p (.int .i64), .p (.slice (.slice (.int .i64))), .p (.slice (.int .i64))] 58]⟩
def det_Apart_2.rs (r : Bool × Int × Int × (List (List Int)) × (List Int)) : List Dat := [⟨.bool, r.1⟩, ⟨(.int .i64), r.2.1⟩, ⟨(.int .i64), r.2.2.1⟩, ⟨(.slice (.slice (.int .i64))), r.2.2.2.1⟩, ⟨(.slice (.int .i64)), r.2.2.2.2⟩]
def det_Apart_2.out (ds : List Dat) : Option (Bool × Int × Int × (List (List Int)) × (List Int)) := pop .bool ds fun x0 ds => pop (.int .i64) ds fun x1 ds => pop (.int .i64) ds fun x2 ds => pop (.slice (.slice (.int .i64))) ds fun x3 ds => pop (.slice (.int .i64)) ds fun x4 ds => popN ds (some (x0, x1, x2, x3, x4))
def det_Apart_2.c (k : Nat) (ds : List Dat) : Option (Bool × Int × Int × (List (List Int)) × (List Int)) := pop (.pair (.int .i64) (.pair (.int .i64) .unit)) ds fun x0 ds => pop (.int .i64) ds fun x1 ds => pop (.int .i64) ds fun x2 ds => pop (.slice (.slice (.int .i64))) ds fun x3 ds => pop (.slice (.int .i64)) ds fun x4 ds => popN ds (det_Apart_2.f k x0 x1 x2 x3 x4)
def det_Apart_2.g : Nat → List Dat → Option (Bool × Int × Int × (List (List Int)) × (List Int))
 | 0, _ => none
 | k + 1, ds => det_Apart_2.c k ds
def det_Apart_2.env (k : Nat) : Nat → List SV → List Chunk → KT (Bool × Int × Int × (List (List Int)) × (List Int)) → Option (Bool × Int × Int × (List (List Int)) × (List Int)) := env0
def det_Apart_2.tbl : List (Nat × Tm × (Nat → List Dat → Option (Bool × Int × Int × (List (List Int)) × (List Int)))) := []
noncomputable abbrev det_Apart_2.R (k : Nat) := run T (det_Apart_2.env k) Try.f103.ntmps (cutE 1 det_Apart_2.tbl k) (finE 1 det_Apart_2.to det_Apart_2.out) (fnRes Try.f103) [] 100000 true
theorem det_Apart_2.e (k : Nat) (x0 : (Int × (Int × Unit))) (x1 : Int) (x2 : Int) (x3 : (List (List Int))) (x4 : (List Int)) : det_Apart_2.f k x0 x1 x2 x3 x4 = det_Apart_2.R k ([.code det_Apart_2.body]) (det_Apart_2.ti.fill [⟨(.pair (.int .i64) (.pair (.int .i64) .unit)), x0⟩, ⟨(.int .i64), x1⟩, ⟨(.int .i64), x2⟩, ⟨(.slice (.slice (.int .i64))), x3⟩, ⟨(.slice (.int .i64)), x4⟩]) := by kernel_rfl
theorem det_Apart_2.h (k : Nat) (ds : List Dat) (r : Bool × Int × Int × (List (List Int)) × (List Int)) (h : det_Apart_2.g k ds = some r) : ∃ k', k' < k ∧ det_Apart_2.R k' ([.code det_Apart_2.body]) (det_Apart_2.ti.fill ds) = some r := by
  cases k with
  | zero => cases (show none = some r from h)
  | succ k =>
  replace h : det_Apart_2.c k ds = some r := h
  unfold det_Apart_2.c at h
  obtain ⟨x0, d0, rfl, h0⟩ := pop_some h
  obtain ⟨x1, d1, rfl, h1⟩ := pop_some h0
  obtain ⟨x2, d2, rfl, h2⟩ := pop_some h1
  obtain ⟨x3, d3, rfl, h3⟩ := pop_some h2
  obtain ⟨x4, d4, rfl, h4⟩ := pop_some h3
  obtain ⟨rfl, g⟩ := popN_some h4
  exact ⟨k, Nat.lt_succ_self k, (det_Apart_2.e k x0 x1 x2 x3 x4).symm.trans g⟩
theorem det_Apart_2.o (ds : List Dat) (r : Bool × Int × Int × (List (List Int)) × (List Int)) (h : det_Apart_2.out ds = some r) : ds = det_Apart_2.rs r := by
  unfold det_Apart_2.out at h
  obtain ⟨x0, d0, rfl, h0⟩ := pop_some h
  obtain ⟨x1, d1, rfl, h1⟩ := pop_some h0
  obtain ⟨x2, d2, rfl, h2⟩ := pop_some h1
  obtain ⟨x3, d3, rfl, h3⟩ := pop_some h2
  obtain ⟨x4, d4, rfl, h4⟩ := pop_some h3
  obtain ⟨rfl, g⟩ := popN_some h4
  cases g
  rfl
theorem det_Apart_2.fn : FnOk Try.prog 103 Try.f103 det_Apart_2.body Try.f103.ntmps 2 (fnRes Try.f103) :=
  fnOk_of (by kernel_rfl) (by kernel_rfl) (by kernel_rfl) (by kernel_rfl)
theorem det_Apart_2.con' : ∀ k ds r, det_Apart_2.g k ds = some r → Con Try.prog 103 2 det_Apart_2.ti det_Apart_2.to ds (det_Apart_2.rs r) :=
  fun_ok (T := T) T_ok mixed det_Apart_2.fn (env := det_Apart_2.env) (tbl := det_Apart_2.tbl) (gOut := det_Apart_2.out) (nin := 1) (cuts := []) (fuel := 100000) rfl (by kernel_rfl) (by kernel_rfl) (by kernel_rfl) (fun x hx => by simp [det_Apart_2.tbl] at hx) det_Apart_2.o det_Apart_2.h (fun k _ => by unfold det_Apart_2.env; exact env0_ok)
theorem det_Apart_2.con (k : Nat) {x0 : (Int × (Int × Unit))} {x1 : Int} {x2 : Int} {x3 : (List (List Int))} {x4 : (List Int)} (r : Bool × Int × Int × (List (List Int)) × (List Int)) (h : det_Apart_2.f k x0 x1 x2 x3 x4 = some r) : Con Try.prog 103 2 det_Apart_2.ti det_Apart_2.to [⟨(.pair (.int .i64) (.pair (.int .i64) .unit)), x0⟩, ⟨(.int .i64), x1⟩, ⟨(.int .i64), x2⟩, ⟨(.slice (.slice (.int .i64))), x3⟩, ⟨(.slice (.int .i64)), x4⟩] (det_Apart_2.rs r) :=
  det_Apart_2.con' (k + 1) _ r (by show det_Apart_2.c k _ = some r; unfold det_Apart_2.c; simp only [pop_self, popN]; exact h)
def det_Apart_1.f (k : Nat) (c0 : (Int × (Int × Unit))) (a1 : Int) (x2_0 : Int) (x2_1 : Int) (x2_2 : List (List (Int))) (x2_3 : List (Int)) : Option ((Int × Int × Unit) × Int × Int × List (List Int) × List Int) :=
 if 0 ≤ c0.fst then
 if c0.fst < (↑x2_2.length : Int) then
  if 0 ≤ a1 then
   if a1 < (↑(Go.Proofs.YtiiioobebeaafaaSx.rd [] x2_2 c0.fst).length : Int) then
    if 0 ≤ c0.snd.fst then
     if c0.snd.fst < (↑x2_2.length : Int) then
      if 0 ≤ a1 then
       if a1 < (↑(Go.Proofs.YtiiioobebeaafaaSx.rd [] x2_2 c0.snd.fst).length : Int) then
        some ((Go.Proofs.YtiiioobebeaafaaSx.rd (Int.ofNat 0) (Go.Proofs.YtiiioobebeaafaaSx.rd [] x2_2 c0.fst) a1, Go.Proofs.YtiiioobebeaafaaSx.rd (Int.ofNat 0) (Go.Proofs.YtiiioobebeaafaaSx.rd [] x2_2 c0.snd.fst) a1, ()), x2_0, x2_1, x2_2, x2_3)
        else none
       else none
      else none
     else none
    else none
   else none
  else none
 else none

noncomputable def det_Apart_1.body : Code := fnBody Try.f102
def det_Apart_1.ti : Tm := ⟨[(0, .p (.pair (.int .i64) (.pair (.int .i64) .unit))), (1, .p (.int .i64)), (2, .ptr 0 0)], [.box [.p (.int .i64), .p (.int .i64), .p (.slice (.slice (.int .i64))), .p (.slice (.int .i64))] 58]⟩
def det_Apart_1.to : Tm := ⟨[(0, .p (.pair (.int .i64) (.pair (.int .i64) .unit)))], [.box [.p (.int .i64), .p (.int .i64), .p (.slice (.slice (.int .i64))), .p (.slice (.int .i64))] 58]⟩
def det_Apart_1.rs (r : (Int × (Int × Unit)) × Int × Int × (List (List Int)) × (List Int)) : List Dat := [⟨(.pair (.int .i64) (.pair (.int .i64) .unit)), r.1⟩, ⟨(.int .i64), r.2.1⟩, ⟨(.int .i64), r.2.2.1⟩, ⟨(.slice (.slice (.int .i64))), r.2.2.2.1⟩, ⟨(.slice (.int .i64)), r.2.2.2.2⟩]
def det_Apart_1.out (ds : List Dat) : Option ((Int × (Int × Unit)) × Int × Int × (List (List Int)) × (List Int)) := pop (.pair (.int .i64) (.pair (.int .i64) .unit)) ds fun x0 ds => pop (.int .i64) ds fun x1 ds => pop (.int .i64) ds fun x2 ds => pop (.slice (.slice (.int .i64))) ds fun x3 ds => pop (.slice (.int .i64)) ds fun x4 ds => popN ds (some (x0, x1, x2, x3, x4))
def det_Apart_1.c (k : Nat) (ds : List Dat) : Option ((Int × (Int × Unit)) × Int × Int × (List (List Int)) × (List Int)) := pop (.pair (.int .i64) (.pair (.int .i64) .unit)) ds fun x0 ds => pop (.int .i64) ds fun x1 ds => pop (.int .i64) ds fun x2 ds => pop (.int .i64) ds fun x3 ds => pop (.slice (.slice (.int .i64))) ds fun x4 ds => pop (.slice (.int .i64)) ds fun x5 ds => popN ds (det_Apart_1.f k x0 x1 x2 x3 x4 x5)
def det_Apart_1.g : Nat → List Dat → Option ((Int × (Int × Unit)) × Int × Int × (List (List Int)) × (List Int))
 | 0, _ => none
 | k + 1, ds => det_Apart_1.c k ds
def det_Apart_1.env (k : Nat) : Nat → List SV → List Chunk → KT ((Int × (Int × Unit)) × Int × Int × (List (List Int)) × (List Int)) → Option ((Int × (Int × Unit)) × Int × Int × (List (List Int)) × (List Int)) := env0
def det_Apart_1.tbl : List (Nat × Tm × (Nat → List Dat → Option ((Int × (Int × Unit)) × Int × Int × (List (List Int)) × (List Int)))) := []
noncomputable abbrev det_Apart_1.R (k : Nat) := run T (det_Apart_1.env k) Try.f102.ntmps (cutE 1 det_Apart_1.tbl k) (finE 1 det_Apart_1.to det_Apart_1.out) (fnRes Try.f102) [] 100000 true
theorem det_Apart_1.e (k : Nat) (x0 : (Int × (Int × Unit))) (x1 : Int) (x2 : Int) (x3 : Int) (x4 : (List (List Int))) (x5 : (List Int)) : det_Apart_1.f k x0 x1 x2 x3 x4 x5 = det_Apart_1.R k ([.code det_Apart_1.body]) (det_Apart_1.ti.fill [⟨(.pair (.int .i64) (.pair (.int .i64) .unit)), x0⟩, ⟨(.int .i64), x1⟩, ⟨(.int .i64), x2⟩, ⟨(.int .i64), x3⟩, ⟨(.slice (.slice (.int .i64))), x4⟩, ⟨(.slice (.int .i64)), x5⟩]) := by kernel_rfl
theorem det_Apart_1.h (k : Nat) (ds : List Dat) (r : (Int × (Int × Unit)) × Int × Int × (List (List Int)) × (List Int)) (h : det_Apart_1.g k ds = some r) : ∃ k', k' < k ∧ det_Apart_1.R k' ([.code det_Apart_1.body]) (det_Apart_1.ti.fill ds) = some r := by
  cases k with
  | zero => cases (show none = some r from h)
  | succ k =>
  replace h : det_Apart_1.c k ds = some r := h
  unfold det_Apart_1.c at h
  obtain ⟨x0, d0, rfl, h0⟩ := pop_some h
  obtain ⟨x1, d1, rfl, h1⟩ := pop_some h0
  obtain ⟨x2, d2, rfl, h2⟩ := pop_some h1
  obtain ⟨x3, d3, rfl, h3⟩ := pop_some h2
  obtain ⟨x4, d4, rfl, h4⟩ := pop_some h3
  obtain ⟨x5, d5, rfl, h5⟩ := pop_some h4
  obtain ⟨rfl, g⟩ := popN_some h5
  exact ⟨k, Nat.lt_succ_self k, (det_Apart_1.e k x0 x1 x2 x3 x4 x5).symm.trans g⟩
theorem det_Apart_1.o (ds : List Dat) (r : (Int × (Int × Unit)) × Int × Int × (List (List Int)) × (List Int)) (h : det_Apart_1.out ds = some r) : ds = det_Apart_1.rs r := by
  unfold det_Apart_1.out at h
  obtain ⟨x0, d0, rfl, h0⟩ := pop_some h
  obtain ⟨x1, d1, rfl, h1⟩ := pop_some h0
  obtain ⟨x2, d2, rfl, h2⟩ := pop_some h1
  obtain ⟨x3, d3, rfl, h3⟩ := pop_some h2
  obtain ⟨x4, d4, rfl, h4⟩ := pop_some h3
  obtain ⟨rfl, g⟩ := popN_some h4
  cases g
  rfl
theorem det_Apart_1.fn : FnOk Try.prog 102 Try.f102 det_Apart_1.body Try.f102.ntmps 3 (fnRes Try.f102) :=
  fnOk_of (by kernel_rfl) (by kernel_rfl) (by kernel_rfl) (by kernel_rfl)
theorem det_Apart_1.con' : ∀ k ds r, det_Apart_1.g k ds = some r → Con Try.prog 102 3 det_Apart_1.ti det_Apart_1.to ds (det_Apart_1.rs r) :=
  fun_ok (T := T) T_ok mixed det_Apart_1.fn (env := det_Apart_1.env) (tbl := det_Apart_1.tbl) (gOut := det_Apart_1.out) (nin := 1) (cuts := []) (fuel := 100000) rfl (by kernel_rfl) (by kernel_rfl) (by kernel_rfl) (fun x hx => by simp [det_Apart_1.tbl] at hx) det_Apart_1.o det_Apart_1.h (fun k _ => by unfold det_Apart_1.env; exact env0_ok)
theorem det_Apart_1.con (k : Nat) {x0 : (Int × (Int × Unit))} {x1 : Int} {x2 : Int} {x3 : Int} {x4 : (List (List Int))} {x5 : (List Int)} (r : (Int × (Int × Unit)) × Int × Int × (List (List Int)) × (List Int)) (h : det_Apart_1.f k x0 x1 x2 x3 x4 x5 = some r) : Con Try.prog 102 3 det_Apart_1.ti det_Apart_1.to [⟨(.pair (.int .i64) (.pair (.int .i64) .unit)), x0⟩, ⟨(.int .i64), x1⟩, ⟨(.int .i64), x2⟩, ⟨(.int .i64), x3⟩, ⟨(.slice (.slice (.int .i64))), x4⟩, ⟨(.slice (.int .i64)), x5⟩] (det_Apart_1.rs r) :=
  det_Apart_1.con' (k + 1) _ r (by show det_Apart_1.c k _ = some r; unfold det_Apart_1.c; simp only [pop_self, popN]; exact h)
mutual
def det_seeks.l3 : Nat → Int → Int → Int → List (List (Int)) → List (Int) → List (((Int × (Int × Unit)) × List (Int))) → List ((Int × (Int × Unit))) → Option (List Int × Bool × Int × Int × List (List Int) × List Int)
 | 0, _, _, _, _, _, _, _ => none
 | k + 1, letters1, c0_0, c0_1, c0_2, c0_3, ways10, l11 =>
  if 0 < (↑l11.length : Int) then
   if 0 ≤ 0 then
   if 0 < (↑l11.length : Int) then
    (det_Apart_2.f k (l11.getD (Int.toNat 0) (Int.ofNat 0, Int.ofNat 0, ())) c0_0 c0_1 c0_2 c0_3).bind fun r5 =>
      if r5.fst = true then
       if 0 ≤ 0 then
       if 0 < (↑l11.length : Int) then
        some (Go.Proofs.YtiiioobebeaafaaSx.mget ((Go.Proofs.YtiiioobebeaafaaSx.Ty.int Go.IntKind.i64).pair ((Go.Proofs.YtiiioobebeaafaaSx.Ty.int Go.IntKind.i64).pair Go.Proofs.YtiiioobebeaafaaSx.Ty.unit)) (Go.Proofs.YtiiioobebeaafaaSx.Ty.int Go.IntKind.i64).slice ways10 (l11.getD (Int.toNat 0) (Int.ofNat 0, Int.ofNat 0, ())), true, r5.snd.fst, r5.snd.snd.fst, r5.snd.snd.snd.fst, r5.snd.snd.snd.snd)
        else none
       else none
      else
       det_seeks.l8 k letters1 letters1 0 r5.snd.fst r5.snd.snd.fst r5.snd.snd.snd.fst r5.snd.snd.snd.snd ways10 l11
    else none
   else none
  else
   some ([], false, c0_0, c0_1, c0_2, c0_3)
def det_seeks.l8 : Nat → Int → Int → Int → Int → Int → List (List (Int)) → List (Int) → List (((Int × (Int × Unit)) × List (Int))) → List ((Int × (Int × Unit))) → Option (List Int × Bool × Int × Int × List (List Int) × List Int)
 | 0, _, _, _, _, _, _, _, _, _ => none
 | k + 1, letters1, x37, x38, c0_0, c0_1, c0_2, c0_3, ways10, l11 =>
  if x38 < x37 then
   if 0 ≤ 0 then
   if 0 < (↑l11.length : Int) then
    (det_Apart_1.f k (l11.getD (Int.toNat 0) (Int.ofNat 0, Int.ofNat 0, ())) x38 c0_0 c0_1 c0_2 c0_3).bind fun r5 =>
      if Go.Proofs.YtiiioobebeaafaaSx.mhas ((Go.Proofs.YtiiioobebeaafaaSx.Ty.int Go.IntKind.i64).pair ((Go.Proofs.YtiiioobebeaafaaSx.Ty.int Go.IntKind.i64).pair Go.Proofs.YtiiioobebeaafaaSx.Ty.unit)) (Go.Proofs.YtiiioobebeaafaaSx.Ty.int Go.IntKind.i64).slice ways10 (r5.fst.fst, r5.fst.snd.fst, ()) = true then
       det_seeks.j15 k letters1 x37 x38 r5.snd.fst r5.snd.snd.fst r5.snd.snd.snd.fst r5.snd.snd.snd.snd ways10 l11
      else
       if 0 ≤ 0 then
       if 0 < (↑l11.length : Int) then
        (slices_Clone___int_int_.f k (Go.Proofs.YtiiioobebeaafaaSx.mget ((Go.Proofs.YtiiioobebeaafaaSx.Ty.int Go.IntKind.i64).pair ((Go.Proofs.YtiiioobebeaafaaSx.Ty.int Go.IntKind.i64).pair Go.Proofs.YtiiioobebeaafaaSx.Ty.unit)) (Go.Proofs.YtiiioobebeaafaaSx.Ty.int Go.IntKind.i64).slice ways10 (l11.getD (Int.toNat 0) (Int.ofNat 0, Int.ofNat 0, ())))).bind fun r9 =>
          if (r9 ++ [x38]).length.blt 1000000000 = true then
          if (l11 ++ [(r5.fst.fst, r5.fst.snd.fst, ())]).length.blt 1000000000 = true then
           det_seeks.j15 k letters1 x37 x38 r5.snd.fst r5.snd.snd.fst r5.snd.snd.snd.fst r5.snd.snd.snd.snd (Go.Proofs.YtiiioobebeaafaaSx.mput ((Go.Proofs.YtiiioobebeaafaaSx.Ty.int Go.IntKind.i64).pair ((Go.Proofs.YtiiioobebeaafaaSx.Ty.int Go.IntKind.i64).pair Go.Proofs.YtiiioobebeaafaaSx.Ty.unit)) (Go.Proofs.YtiiioobebeaafaaSx.Ty.int Go.IntKind.i64).slice ways10 (r5.fst.fst, r5.fst.snd.fst, ()) (r9 ++ [x38])) (l11 ++ [(r5.fst.fst, r5.fst.snd.fst, ())])
           else none
          else none
        else none
       else none
    else none
   else none
  else
   if 0 ≤ 1 then
   if 1 ≤ (↑l11.length : Int) then
    if (↑l11.length : Int) ≤ (↑l11.length : Int) then
     det_seeks.l3 k letters1 c0_0 c0_1 c0_2 c0_3 ways10 (List.take ((↑l11.length : Int).toNat - Int.toNat 1) (List.drop (Int.toNat 1) l11))
     else none
    else none
   else none
def det_seeks.j15 : Nat → Int → Int → Int → Int → Int → List (List (Int)) → List (Int) → List (((Int × (Int × Unit)) × List (Int))) → List ((Int × (Int × Unit))) → Option (List Int × Bool × Int × Int × List (List Int) × List Int)
 | 0, _, _, _, _, _, _, _, _, _ => none
 | k + 1, letters1, x37, x38, c0_0, c0_1, c0_2, c0_3, ways10, l11 =>
  det_seeks.l8 k letters1 x37 (Go.IntKind.i64.wrap (x38 + 1)) c0_0 c0_1 c0_2 c0_3 ways10 l11
end
def det_seeks.f (k : Nat) (first0 : (Int × (Int × Unit))) (letters1 : Int) (c0_0 : Int) (c0_1 : Int) (c0_2 : List (List (Int))) (c0_3 : List (Int)) : Option (List Int × Bool × Int × Int × List (List Int) × List Int) :=
 det_seeks.l3 k letters1 c0_0 c0_1 c0_2 c0_3 (Go.Proofs.YtiiioobebeaafaaSx.mput ((Go.Proofs.YtiiioobebeaafaaSx.Ty.int Go.IntKind.i64).pair ((Go.Proofs.YtiiioobebeaafaaSx.Ty.int Go.IntKind.i64).pair Go.Proofs.YtiiioobebeaafaaSx.Ty.unit)) (Go.Proofs.YtiiioobebeaafaaSx.Ty.int Go.IntKind.i64).slice [] (first0.fst, first0.snd.fst, ()) []) ([(first0.fst, first0.snd.fst, ())])

noncomputable def det_seeks.body : Code := fnBody Try.f101
def det_seeks.ti : Tm := ⟨[(0, .p (.pair (.int .i64) (.pair (.int .i64) .unit))), (1, .p (.int .i64)), (2, .fn 102 [.ptr 0 0]), (3, .fn 103 [.ptr 0 0])], [.box [.p (.int .i64), .p (.int .i64), .p (.slice (.slice (.int .i64))), .p (.slice (.int .i64))] 58]⟩
def det_seeks.to : Tm := ⟨[(0, .p (.slice (.int .i64))), (1, .p .bool)], [.box [.p (.int .i64), .p (.int .i64), .p (.slice (.slice (.int .i64))), .p (.slice (.int .i64))] 58]⟩
def det_seeks.rs (r : (List Int) × Bool × Int × Int × (List (List Int)) × (List Int)) : List Dat := [⟨(.slice (.int .i64)), r.1⟩, ⟨.bool, r.2.1⟩, ⟨(.int .i64), r.2.2.1⟩, ⟨(.int .i64), r.2.2.2.1⟩, ⟨(.slice (.slice (.int .i64))), r.2.2.2.2.1⟩, ⟨(.slice (.int .i64)), r.2.2.2.2.2⟩]
def det_seeks.out (ds : List Dat) : Option ((List Int) × Bool × Int × Int × (List (List Int)) × (List Int)) := pop (.slice (.int .i64)) ds fun x0 ds => pop .bool ds fun x1 ds => pop (.int .i64) ds fun x2 ds => pop (.int .i64) ds fun x3 ds => pop (.slice (.slice (.int .i64))) ds fun x4 ds => pop (.slice (.int .i64)) ds fun x5 ds => popN ds (some (x0, x1, x2, x3, x4, x5))
def det_seeks.c (k : Nat) (ds : List Dat) : Option ((List Int) × Bool × Int × Int × (List (List Int)) × (List Int)) := pop (.pair (.int .i64) (.pair (.int .i64) .unit)) ds fun x0 ds => pop (.int .i64) ds fun x1 ds => pop (.int .i64) ds fun x2 ds => pop (.int .i64) ds fun x3 ds => pop (.slice (.slice (.int .i64))) ds fun x4 ds => pop (.slice (.int .i64)) ds fun x5 ds => popN ds (det_seeks.f k x0 x1 x2 x3 x4 x5)
def det_seeks.g : Nat → List Dat → Option ((List Int) × Bool × Int × Int × (List (List Int)) × (List Int))
 | 0, _ => none
 | k + 1, ds => det_seeks.c k ds
def det_seeks.env (k : Nat) : Nat → List SV → List Chunk → KT ((List Int) × Bool × Int × Int × (List (List Int)) × (List Int)) → Option ((List Int) × Bool × Int × Int × (List (List Int)) × (List Int)) := (envC 103 2 det_Apart_2.ti det_Apart_2.to (fun ds K => pop (.pair (.int .i64) (.pair (.int .i64) .unit)) ds fun x0 ds => pop (.int .i64) ds fun x1 ds => pop (.int .i64) ds fun x2 ds => pop (.slice (.slice (.int .i64))) ds fun x3 ds => pop (.slice (.int .i64)) ds fun x4 ds => popN ds ((det_Apart_2.f k x0 x1 x2 x3 x4).bind fun r => K (det_Apart_2.rs r))) (envC 102 3 det_Apart_1.ti det_Apart_1.to (fun ds K => pop (.pair (.int .i64) (.pair (.int .i64) .unit)) ds fun x0 ds => pop (.int .i64) ds fun x1 ds => pop (.int .i64) ds fun x2 ds => pop (.int .i64) ds fun x3 ds => pop (.slice (.slice (.int .i64))) ds fun x4 ds => pop (.slice (.int .i64)) ds fun x5 ds => popN ds ((det_Apart_1.f k x0 x1 x2 x3 x4 x5).bind fun r => K (det_Apart_1.rs r))) (envC 84 1 slices_Clone___int_int_.ti slices_Clone___int_int_.to (fun ds K => pop (.slice (.int .i64)) ds fun x0 ds => popN ds ((slices_Clone___int_int_.f k x0).bind fun r => K (slices_Clone___int_int_.rs r))) env0)))
def det_seeks.t7 : Tm := ⟨[(1, .p (.int .i64)), (2, .fn 102 [.ptr 0 0]), (3, .fn 103 [.ptr 0 0]), (10, .map 1), (11, .own 2)], [.box [.p (.int .i64), .p (.int .i64), .p (.slice (.slice (.int .i64))), .p (.slice (.int .i64))] 58, .map (.pair (.int .i64) (.pair (.int .i64) .unit)) (.slice (.int .i64)), .own (.pair (.int .i64) (.pair (.int .i64) .unit))]⟩
def det_seeks.c7 (k : Nat) (ds : List Dat) : Option ((List Int) × Bool × Int × Int × (List (List Int)) × (List Int)) := pop (.int .i64) ds fun x0 ds => pop (.int .i64) ds fun x1 ds => pop (.int .i64) ds fun x2 ds => pop (.slice (.slice (.int .i64))) ds fun x3 ds => pop (.slice (.int .i64)) ds fun x4 ds => pop (.slice (.pair (.pair (.int .i64) (.pair (.int .i64) .unit)) (.slice (.int .i64)))) ds fun x5 ds => pop (.slice (.pair (.int .i64) (.pair (.int .i64) .unit))) ds fun x6 ds => popN ds (det_seeks.l3 k x0 x1 x2 x3 x4 x5 x6)
def det_seeks.t17 : Tm := ⟨[(1, .p (.int .i64)), (2, .fn 102 [.ptr 0 0]), (3, .fn 103 [.ptr 0 0]), (10, .map 1), (11, .own 2), (37, .p (.int .i64)), (38, .p (.int .i64))], [.box [.p (.int .i64), .p (.int .i64), .p (.slice (.slice (.int .i64))), .p (.slice (.int .i64))] 58, .map (.pair (.int .i64) (.pair (.int .i64) .unit)) (.slice (.int .i64)), .own (.pair (.int .i64) (.pair (.int .i64) .unit))]⟩
def det_seeks.c17 (k : Nat) (ds : List Dat) : Option ((List Int) × Bool × Int × Int × (List (List Int)) × (List Int)) := pop (.int .i64) ds fun x0 ds => pop (.int .i64) ds fun x1 ds => pop (.int .i64) ds fun x2 ds => pop (.int .i64) ds fun x3 ds => pop (.int .i64) ds fun x4 ds => pop (.slice (.slice (.int .i64))) ds fun x5 ds => pop (.slice (.int .i64)) ds fun x6 ds => pop (.slice (.pair (.pair (.int .i64) (.pair (.int .i64) .unit)) (.slice (.int .i64)))) ds fun x7 ds => pop (.slice (.pair (.int .i64) (.pair (.int .i64) .unit))) ds fun x8 ds => popN ds (det_seeks.l8 k x0 x1 x2 x3 x4 x5 x6 x7 x8)
def det_seeks.t30 : Tm := ⟨[(1, .p (.int .i64)), (2, .fn 102 [.ptr 0 0]), (3, .fn 103 [.ptr 0 0]), (10, .map 1), (11, .own 2), (37, .p (.int .i64)), (38, .p (.int .i64))], [.box [.p (.int .i64), .p (.int .i64), .p (.slice (.slice (.int .i64))), .p (.slice (.int .i64))] 58, .map (.pair (.int .i64) (.pair (.int .i64) .unit)) (.slice (.int .i64)), .own (.pair (.int .i64) (.pair (.int .i64) .unit))]⟩
def det_seeks.c30 (k : Nat) (ds : List Dat) : Option ((List Int) × Bool × Int × Int × (List (List Int)) × (List Int)) := pop (.int .i64) ds fun x0 ds => pop (.int .i64) ds fun x1 ds => pop (.int .i64) ds fun x2 ds => pop (.int .i64) ds fun x3 ds => pop (.int .i64) ds fun x4 ds => pop (.slice (.slice (.int .i64))) ds fun x5 ds => pop (.slice (.int .i64)) ds fun x6 ds => pop (.slice (.pair (.pair (.int .i64) (.pair (.int .i64) .unit)) (.slice (.int .i64)))) ds fun x7 ds => pop (.slice (.pair (.int .i64) (.pair (.int .i64) .unit))) ds fun x8 ds => popN ds (det_seeks.j15 k x0 x1 x2 x3 x4 x5 x6 x7 x8)
def det_seeks.tbl : List (Nat × Tm × (Nat → List Dat → Option ((List Int) × Bool × Int × Int × (List (List Int)) × (List Int)))) := [(7, det_seeks.t7, det_seeks.c7), (17, det_seeks.t17, det_seeks.c17), (30, det_seeks.t30, det_seeks.c30)]
noncomputable abbrev det_seeks.R (k : Nat) := run T (det_seeks.env k) Try.f101.ntmps (cutE 1 det_seeks.tbl k) (finE 1 det_seeks.to det_seeks.out) (fnRes Try.f101) [15] 100000 true
theorem det_seeks.e7 (k : Nat) (x0 : Int) (x1 : Int) (x2 : Int) (x3 : (List (List Int))) (x4 : (List Int)) (x5 : (List ((Int × (Int × Unit)) × (List Int)))) (x6 : (List (Int × (Int × Unit)))) : det_seeks.l3 (k + 1) x0 x1 x2 x3 x4 x5 x6 = det_seeks.R k (start (stackOf 7 det_seeks.body)) (det_seeks.t7.fill [⟨(.int .i64), x0⟩, ⟨(.int .i64), x1⟩, ⟨(.int .i64), x2⟩, ⟨(.slice (.slice (.int .i64))), x3⟩, ⟨(.slice (.int .i64)), x4⟩, ⟨(.slice (.pair (.pair (.int .i64) (.pair (.int .i64) .unit)) (.slice (.int .i64)))), x5⟩, ⟨(.slice (.pair (.int .i64) (.pair (.int .i64) .unit))), x6⟩]) := by kernel_rfl
theorem det_seeks.s7 : stackAt 7 det_seeks.body [] = some (stackOf 7 det_seeks.body) := by kernel_rfl
theorem det_seeks.h7 (k : Nat) (ds : List Dat) (r : (List Int) × Bool × Int × Int × (List (List Int)) × (List Int)) (h : det_seeks.c7 k ds = some r) : ∃ k', k' < k ∧ ∃ s, stackAt 7 det_seeks.body [] = some s ∧ det_seeks.R k' (start s) (det_seeks.t7.fill ds) = some r := by
  unfold det_seeks.c7 at h
  obtain ⟨x0, d0, rfl, h0⟩ := pop_some h
  obtain ⟨x1, d1, rfl, h1⟩ := pop_some h0
  obtain ⟨x2, d2, rfl, h2⟩ := pop_some h1
  obtain ⟨x3, d3, rfl, h3⟩ := pop_some h2
  obtain ⟨x4, d4, rfl, h4⟩ := pop_some h3
  obtain ⟨x5, d5, rfl, h5⟩ := pop_some h4
  obtain ⟨x6, d6, rfl, h6⟩ := pop_some h5
  obtain ⟨rfl, g⟩ := popN_some h6
  cases k with
  | zero => cases (show none = some r from g)
  | succ k => exact ⟨k, Nat.lt_succ_self k, _, det_seeks.s7, (det_seeks.e7 k x0 x1 x2 x3 x4 x5 x6).symm.trans g⟩
theorem det_seeks.e17 (k : Nat) (x0 : Int) (x1 : Int) (x2 : Int) (x3 : Int) (x4 : Int) (x5 : (List (List Int))) (x6 : (List Int)) (x7 : (List ((Int × (Int × Unit)) × (List Int)))) (x8 : (List (Int × (Int × Unit)))) : det_seeks.l8 (k + 1) x0 x1 x2 x3 x4 x5 x6 x7 x8 = det_seeks.R k (start (stackOf 17 det_seeks.body)) (det_seeks.t17.fill [⟨(.int .i64), x0⟩, ⟨(.int .i64), x1⟩, ⟨(.int .i64), x2⟩, ⟨(.int .i64), x3⟩, ⟨(.int .i64), x4⟩, ⟨(.slice (.slice (.int .i64))), x5⟩, ⟨(.slice (.int .i64)), x6⟩, ⟨(.slice (.pair (.pair (.int .i64) (.pair (.int .i64) .unit)) (.slice (.int .i64)))), x7⟩, ⟨(.slice (.pair (.int .i64) (.pair (.int .i64) .unit))), x8⟩]) := by kernel_rfl
theorem det_seeks.s17 : stackAt 17 det_seeks.body [] = some (stackOf 17 det_seeks.body) := by kernel_rfl
theorem det_seeks.h17 (k : Nat) (ds : List Dat) (r : (List Int) × Bool × Int × Int × (List (List Int)) × (List Int)) (h : det_seeks.c17 k ds = some r) : ∃ k', k' < k ∧ ∃ s, stackAt 17 det_seeks.body [] = some s ∧ det_seeks.R k' (start s) (det_seeks.t17.fill ds) = some r := by
  unfold det_seeks.c17 at h
  obtain ⟨x0, d0, rfl, h0⟩ := pop_some h
  obtain ⟨x1, d1, rfl, h1⟩ := pop_some h0
  obtain ⟨x2, d2, rfl, h2⟩ := pop_some h1
  obtain ⟨x3, d3, rfl, h3⟩ := pop_some h2
  obtain ⟨x4, d4, rfl, h4⟩ := pop_some h3
  obtain ⟨x5, d5, rfl, h5⟩ := pop_some h4
  obtain ⟨x6, d6, rfl, h6⟩ := pop_some h5
  obtain ⟨x7, d7, rfl, h7⟩ := pop_some h6
  obtain ⟨x8, d8, rfl, h8⟩ := pop_some h7
  obtain ⟨rfl, g⟩ := popN_some h8
  cases k with
  | zero => cases (show none = some r from g)
  | succ k => exact ⟨k, Nat.lt_succ_self k, _, det_seeks.s17, (det_seeks.e17 k x0 x1 x2 x3 x4 x5 x6 x7 x8).symm.trans g⟩
theorem det_seeks.e30 (k : Nat) (x0 : Int) (x1 : Int) (x2 : Int) (x3 : Int) (x4 : Int) (x5 : (List (List Int))) (x6 : (List Int)) (x7 : (List ((Int × (Int × Unit)) × (List Int)))) (x8 : (List (Int × (Int × Unit)))) : det_seeks.j15 (k + 1) x0 x1 x2 x3 x4 x5 x6 x7 x8 = det_seeks.R k (start (stackOf 30 det_seeks.body)) (det_seeks.t30.fill [⟨(.int .i64), x0⟩, ⟨(.int .i64), x1⟩, ⟨(.int .i64), x2⟩, ⟨(.int .i64), x3⟩, ⟨(.int .i64), x4⟩, ⟨(.slice (.slice (.int .i64))), x5⟩, ⟨(.slice (.int .i64)), x6⟩, ⟨(.slice (.pair (.pair (.int .i64) (.pair (.int .i64) .unit)) (.slice (.int .i64)))), x7⟩, ⟨(.slice (.pair (.int .i64) (.pair (.int .i64) .unit))), x8⟩]) := by kernel_rfl
theorem det_seeks.s30 : stackAt 30 det_seeks.body [] = some (stackOf 30 det_seeks.body) := by kernel_rfl
theorem det_seeks.h30 (k : Nat) (ds : List Dat) (r : (List Int) × Bool × Int × Int × (List (List Int)) × (List Int)) (h : det_seeks.c30 k ds = some r) : ∃ k', k' < k ∧ ∃ s, stackAt 30 det_seeks.body [] = some s ∧ det_seeks.R k' (start s) (det_seeks.t30.fill ds) = some r := by
  unfold det_seeks.c30 at h
  obtain ⟨x0, d0, rfl, h0⟩ := pop_some h
  obtain ⟨x1, d1, rfl, h1⟩ := pop_some h0
  obtain ⟨x2, d2, rfl, h2⟩ := pop_some h1
  obtain ⟨x3, d3, rfl, h3⟩ := pop_some h2
  obtain ⟨x4, d4, rfl, h4⟩ := pop_some h3
  obtain ⟨x5, d5, rfl, h5⟩ := pop_some h4
  obtain ⟨x6, d6, rfl, h6⟩ := pop_some h5
  obtain ⟨x7, d7, rfl, h7⟩ := pop_some h6
  obtain ⟨x8, d8, rfl, h8⟩ := pop_some h7
  obtain ⟨rfl, g⟩ := popN_some h8
  cases k with
  | zero => cases (show none = some r from g)
  | succ k => exact ⟨k, Nat.lt_succ_self k, _, det_seeks.s30, (det_seeks.e30 k x0 x1 x2 x3 x4 x5 x6 x7 x8).symm.trans g⟩
theorem det_seeks.e (k : Nat) (x0 : (Int × (Int × Unit))) (x1 : Int) (x2 : Int) (x3 : Int) (x4 : (List (List Int))) (x5 : (List Int)) : det_seeks.f k x0 x1 x2 x3 x4 x5 = det_seeks.R k ([.code det_seeks.body]) (det_seeks.ti.fill [⟨(.pair (.int .i64) (.pair (.int .i64) .unit)), x0⟩, ⟨(.int .i64), x1⟩, ⟨(.int .i64), x2⟩, ⟨(.int .i64), x3⟩, ⟨(.slice (.slice (.int .i64))), x4⟩, ⟨(.slice (.int .i64)), x5⟩]) := by kernel_rfl
theorem det_seeks.h (k : Nat) (ds : List Dat) (r : (List Int) × Bool × Int × Int × (List (List Int)) × (List Int)) (h : det_seeks.g k ds = some r) : ∃ k', k' < k ∧ det_seeks.R k' ([.code det_seeks.body]) (det_seeks.ti.fill ds) = some r := by
  cases k with
  | zero => cases (show none = some r from h)
  | succ k =>
  replace h : det_seeks.c k ds = some r := h
  unfold det_seeks.c at h
  obtain ⟨x0, d0, rfl, h0⟩ := pop_some h
  obtain ⟨x1, d1, rfl, h1⟩ := pop_some h0
  obtain ⟨x2, d2, rfl, h2⟩ := pop_some h1
  obtain ⟨x3, d3, rfl, h3⟩ := pop_some h2
  obtain ⟨x4, d4, rfl, h4⟩ := pop_some h3
  obtain ⟨x5, d5, rfl, h5⟩ := pop_some h4
  obtain ⟨rfl, g⟩ := popN_some h5
  exact ⟨k, Nat.lt_succ_self k, (det_seeks.e k x0 x1 x2 x3 x4 x5).symm.trans g⟩
theorem det_seeks.o (ds : List Dat) (r : (List Int) × Bool × Int × Int × (List (List Int)) × (List Int)) (h : det_seeks.out ds = some r) : ds = det_seeks.rs r := by
  unfold det_seeks.out at h
  obtain ⟨x0, d0, rfl, h0⟩ := pop_some h
  obtain ⟨x1, d1, rfl, h1⟩ := pop_some h0
  obtain ⟨x2, d2, rfl, h2⟩ := pop_some h1
  obtain ⟨x3, d3, rfl, h3⟩ := pop_some h2
  obtain ⟨x4, d4, rfl, h4⟩ := pop_some h3
  obtain ⟨x5, d5, rfl, h5⟩ := pop_some h4
  obtain ⟨rfl, g⟩ := popN_some h5
  cases g
  rfl
theorem det_seeks.fn : FnOk Try.prog 101 Try.f101 det_seeks.body Try.f101.ntmps 4 (fnRes Try.f101) :=
  fnOk_of (by kernel_rfl) (by kernel_rfl) (by kernel_rfl) (by kernel_rfl)
theorem det_seeks.con' : ∀ k ds r, det_seeks.g k ds = some r → Con Try.prog 101 4 det_seeks.ti det_seeks.to ds (det_seeks.rs r) :=
  fun_ok (T := T) T_ok mixed det_seeks.fn (env := det_seeks.env) (tbl := det_seeks.tbl) (gOut := det_seeks.out) (nin := 1) (cuts := [15]) (fuel := 100000) rfl (by kernel_rfl) (by kernel_rfl) (by kernel_rfl) (fun x hx => by
    simp only [det_seeks.tbl, List.mem_cons, List.not_mem_nil, or_false] at hx
    rcases hx with rfl | rfl | rfl
    · exact det_seeks.h7
    · exact det_seeks.h17
    · exact det_seeks.h30
) det_seeks.o det_seeks.h (fun k _ => by unfold det_seeks.env; exact (envC_ok (fun ds K r h => by
    obtain ⟨x0, d0, rfl, h0⟩ := pop_some h
    obtain ⟨x1, d1, rfl, h1⟩ := pop_some h0
    obtain ⟨x2, d2, rfl, h2⟩ := pop_some h1
    obtain ⟨x3, d3, rfl, h3⟩ := pop_some h2
    obtain ⟨x4, d4, rfl, h4⟩ := pop_some h3
    obtain ⟨rfl, g⟩ := popN_some h4
    obtain ⟨r1, h1, h2⟩ := bind_some g
    exact ⟨_, h2, det_Apart_2.con k _ h1⟩) (envC_ok (fun ds K r h => by
    obtain ⟨x0, d0, rfl, h0⟩ := pop_some h
    obtain ⟨x1, d1, rfl, h1⟩ := pop_some h0
    obtain ⟨x2, d2, rfl, h2⟩ := pop_some h1
    obtain ⟨x3, d3, rfl, h3⟩ := pop_some h2
    obtain ⟨x4, d4, rfl, h4⟩ := pop_some h3
    obtain ⟨x5, d5, rfl, h5⟩ := pop_some h4
    obtain ⟨rfl, g⟩ := popN_some h5
    obtain ⟨r1, h1, h2⟩ := bind_some g
    exact ⟨_, h2, det_Apart_1.con k _ h1⟩) (envC_ok (fun ds K r h => by
    obtain ⟨x0, d0, rfl, h0⟩ := pop_some h
    obtain ⟨rfl, g⟩ := popN_some h0
    obtain ⟨r1, h1, h2⟩ := bind_some g
    exact ⟨_, h2, slices_Clone___int_int_.con k _ h1⟩) env0_ok))))
theorem det_seeks.con (k : Nat) {x0 : (Int × (Int × Unit))} {x1 : Int} {x2 : Int} {x3 : Int} {x4 : (List (List Int))} {x5 : (List Int)} (r : (List Int) × Bool × Int × Int × (List (List Int)) × (List Int)) (h : det_seeks.f k x0 x1 x2 x3 x4 x5 = some r) : Con Try.prog 101 4 det_seeks.ti det_seeks.to [⟨(.pair (.int .i64) (.pair (.int .i64) .unit)), x0⟩, ⟨(.int .i64), x1⟩, ⟨(.int .i64), x2⟩, ⟨(.int .i64), x3⟩, ⟨(.slice (.slice (.int .i64))), x4⟩, ⟨(.slice (.int .i64)), x5⟩] (det_seeks.rs r) :=
  det_seeks.con' (k + 1) _ r (by show det_seeks.c k _ = some r; unfold det_seeks.c; simp only [pop_self, popN]; exact h)
def det_Apart.f (k : Nat) (d0 : (Int × (Int × (List (List (Int)) × (List (Int) × Unit))))) (p1 : Int) (q2 : Int) : Option (List Int × Bool × Int) :=
 (det_Check.f k (d0.fst, d0.snd.fst, d0.snd.snd.fst, d0.snd.snd.snd.fst, ())).bind fun r1 =>
  if r1 = 0 then
   if p1 < 0 then
    some ([], false, 2)
   else
    if q2 < 0 then
     some ([], false, 2)
    else
     if (↑d0.snd.snd.fst.length : Int) ≤ p1 then
      some ([], false, 2)
     else
      if (↑d0.snd.snd.fst.length : Int) ≤ q2 then
       some ([], false, 2)
      else
       (det_seeks.f k (p1, q2, ()) d0.fst d0.fst d0.snd.fst d0.snd.snd.fst d0.snd.snd.snd.fst).bind fun r7 =>
        some (r7.fst, r7.snd.fst, 0)
  else
   some ([], false, r1)

noncomputable def det_Apart.body : Code := fnBody Try.f43
def det_Apart.ti : Tm := ⟨[(0, .p (.pair (.int .i64) (.pair (.int .i64) (.pair (.slice (.slice (.int .i64))) (.pair (.slice (.int .i64)) .unit))))), (1, .p (.int .i64)), (2, .p (.int .i64))], []⟩
def det_Apart.to : Tm := ⟨[(0, .p (.slice (.int .i64))), (1, .p .bool), (2, .p (.int .i64))], [.gone]⟩
def det_Apart.rs (r : (List Int) × Bool × Int) : List Dat := [⟨(.slice (.int .i64)), r.1⟩, ⟨.bool, r.2.1⟩, ⟨(.int .i64), r.2.2⟩]
def det_Apart.out (ds : List Dat) : Option ((List Int) × Bool × Int) := pop (.slice (.int .i64)) ds fun x0 ds => pop .bool ds fun x1 ds => pop (.int .i64) ds fun x2 ds => popN ds (some (x0, x1, x2))
def det_Apart.c (k : Nat) (ds : List Dat) : Option ((List Int) × Bool × Int) := pop (.pair (.int .i64) (.pair (.int .i64) (.pair (.slice (.slice (.int .i64))) (.pair (.slice (.int .i64)) .unit)))) ds fun x0 ds => pop (.int .i64) ds fun x1 ds => pop (.int .i64) ds fun x2 ds => popN ds (det_Apart.f k x0 x1 x2)
def det_Apart.g : Nat → List Dat → Option ((List Int) × Bool × Int)
 | 0, _ => none
 | k + 1, ds => det_Apart.c k ds
def det_Apart.env (k : Nat) : Nat → List SV → List Chunk → KT ((List Int) × Bool × Int) → Option ((List Int) × Bool × Int) := (envC 99 1 det_Check.ti det_Check.to (fun ds K => pop (.pair (.int .i64) (.pair (.int .i64) (.pair (.slice (.slice (.int .i64))) (.pair (.slice (.int .i64)) .unit)))) ds fun x0 ds => popN ds ((det_Check.f k x0).bind fun r => K (det_Check.rs r))) (envC 101 4 det_seeks.ti det_seeks.to (fun ds K => pop (.pair (.int .i64) (.pair (.int .i64) .unit)) ds fun x0 ds => pop (.int .i64) ds fun x1 ds => pop (.int .i64) ds fun x2 ds => pop (.int .i64) ds fun x3 ds => pop (.slice (.slice (.int .i64))) ds fun x4 ds => pop (.slice (.int .i64)) ds fun x5 ds => popN ds ((det_seeks.f k x0 x1 x2 x3 x4 x5).bind fun r => K (det_seeks.rs r))) env0))
def det_Apart.tbl : List (Nat × Tm × (Nat → List Dat → Option ((List Int) × Bool × Int))) := []
noncomputable abbrev det_Apart.R (k : Nat) := run T (det_Apart.env k) Try.f43.ntmps (cutE 0 det_Apart.tbl k) (finE 0 det_Apart.to det_Apart.out) (fnRes Try.f43) [] 100000 true
theorem det_Apart.e (k : Nat) (x0 : (Int × (Int × ((List (List Int)) × ((List Int) × Unit))))) (x1 : Int) (x2 : Int) : det_Apart.f k x0 x1 x2 = det_Apart.R k ([.code det_Apart.body]) (det_Apart.ti.fill [⟨(.pair (.int .i64) (.pair (.int .i64) (.pair (.slice (.slice (.int .i64))) (.pair (.slice (.int .i64)) .unit)))), x0⟩, ⟨(.int .i64), x1⟩, ⟨(.int .i64), x2⟩]) := by kernel_rfl
theorem det_Apart.h (k : Nat) (ds : List Dat) (r : (List Int) × Bool × Int) (h : det_Apart.g k ds = some r) : ∃ k', k' < k ∧ det_Apart.R k' ([.code det_Apart.body]) (det_Apart.ti.fill ds) = some r := by
  cases k with
  | zero => cases (show none = some r from h)
  | succ k =>
  replace h : det_Apart.c k ds = some r := h
  unfold det_Apart.c at h
  obtain ⟨x0, d0, rfl, h0⟩ := pop_some h
  obtain ⟨x1, d1, rfl, h1⟩ := pop_some h0
  obtain ⟨x2, d2, rfl, h2⟩ := pop_some h1
  obtain ⟨rfl, g⟩ := popN_some h2
  exact ⟨k, Nat.lt_succ_self k, (det_Apart.e k x0 x1 x2).symm.trans g⟩
theorem det_Apart.o (ds : List Dat) (r : (List Int) × Bool × Int) (h : det_Apart.out ds = some r) : ds = det_Apart.rs r := by
  unfold det_Apart.out at h
  obtain ⟨x0, d0, rfl, h0⟩ := pop_some h
  obtain ⟨x1, d1, rfl, h1⟩ := pop_some h0
  obtain ⟨x2, d2, rfl, h2⟩ := pop_some h1
  obtain ⟨rfl, g⟩ := popN_some h2
  cases g
  rfl
theorem det_Apart.fn : FnOk Try.prog 43 Try.f43 det_Apart.body Try.f43.ntmps 3 (fnRes Try.f43) :=
  fnOk_of (by kernel_rfl) (by kernel_rfl) (by kernel_rfl) (by kernel_rfl)
theorem det_Apart.con' : ∀ k ds r, det_Apart.g k ds = some r → Con Try.prog 43 3 det_Apart.ti det_Apart.to ds (det_Apart.rs r) :=
  fun_ok (T := T) T_ok mixed det_Apart.fn (env := det_Apart.env) (tbl := det_Apart.tbl) (gOut := det_Apart.out) (nin := 0) (cuts := []) (fuel := 100000) rfl (by kernel_rfl) (by kernel_rfl) (by kernel_rfl) (fun x hx => by simp [det_Apart.tbl] at hx) det_Apart.o det_Apart.h (fun k _ => by unfold det_Apart.env; exact (envC_ok (fun ds K r h => by
    obtain ⟨x0, d0, rfl, h0⟩ := pop_some h
    obtain ⟨rfl, g⟩ := popN_some h0
    obtain ⟨r1, h1, h2⟩ := bind_some g
    exact ⟨_, h2, det_Check.con k _ h1⟩) (envC_ok (fun ds K r h => by
    obtain ⟨x0, d0, rfl, h0⟩ := pop_some h
    obtain ⟨x1, d1, rfl, h1⟩ := pop_some h0
    obtain ⟨x2, d2, rfl, h2⟩ := pop_some h1
    obtain ⟨x3, d3, rfl, h3⟩ := pop_some h2
    obtain ⟨x4, d4, rfl, h4⟩ := pop_some h3
    obtain ⟨x5, d5, rfl, h5⟩ := pop_some h4
    obtain ⟨rfl, g⟩ := popN_some h5
    obtain ⟨r1, h1, h2⟩ := bind_some g
    exact ⟨_, h2, det_seeks.con k _ h1⟩) env0_ok)))
theorem det_Apart.con (k : Nat) {x0 : (Int × (Int × ((List (List Int)) × ((List Int) × Unit))))} {x1 : Int} {x2 : Int} (r : (List Int) × Bool × Int) (h : det_Apart.f k x0 x1 x2 = some r) : Con Try.prog 43 3 det_Apart.ti det_Apart.to [⟨(.pair (.int .i64) (.pair (.int .i64) (.pair (.slice (.slice (.int .i64))) (.pair (.slice (.int .i64)) .unit)))), x0⟩, ⟨(.int .i64), x1⟩, ⟨(.int .i64), x2⟩] (det_Apart.rs r) :=
  det_Apart.con' (k + 1) _ r (by show det_Apart.c k _ = some r; unfold det_Apart.c; simp only [pop_self, popN]; exact h)
mutual
def monoid_elements.l3 : Nat → Int → Int → Int → Int → List (List (Int)) → List (Int) → List (Int) → List (Int) → Option (List (List Int × List Int × Unit))
 | 0, _, _, _, _, _, _, _, _ => none
 | k + 1, x16, x17, d1_0, d1_1, d1_2, d1_3, c2, c3 =>
  if x17 < x16 then
   if (c2 ++ [x17]).length.blt 1000000000 = true then
   monoid_elements.l3 k x16 (Go.IntKind.i64.wrap (x17 + 1)) d1_0 d1_1 d1_2 d1_3 (c2 ++ [x17]) c3
   else none
  else
   (det_Key.f k c2).bind fun r3 =>
    monoid_elements.l10 k 0 d1_0 d1_1 d1_2 d1_3 (Go.Proofs.YtiiioobebeaafaaSx.mput Go.Proofs.YtiiioobebeaafaaSx.Ty.str (Go.Proofs.YtiiioobebeaafaaSx.Ty.int Go.IntKind.i64) [] r3 (Int.ofNat 1)) ([(c2, c3, ())])
def monoid_elements.l10 : Nat → Int → Int → Int → List (List (Int)) → List (Int) → List ((ByteArray × Int)) → List ((List (Int) × (List (Int) × Unit))) → Option (List (List Int × List Int × Unit))
 | 0, _, _, _, _, _, _, _ => none
 | k + 1, i7, d1_0, d1_1, d1_2, d1_3, seen5, l6 =>
  if i7 < (↑l6.length : Int) then
   monoid_elements.l13 k i7 d1_0 0 d1_0 d1_1 d1_2 d1_3 seen5 l6
  else
   some (l6)
def monoid_elements.l13 : Nat → Int → Int → Int → Int → Int → List (List (Int)) → List (Int) → List ((ByteArray × Int)) → List ((List (Int) × (List (Int) × Unit))) → Option (List (List Int × List Int × Unit))
 | 0, _, _, _, _, _, _, _, _, _ => none
 | k + 1, i7, x41, x42, d1_0, d1_1, d1_2, d1_3, seen5, l6 =>
  if x42 < x41 then
   if 0 ≤ i7 then
   if i7 < (↑l6.length : Int) then
    (slices_Clone___int_int_.f k (l6.getD i7.toNat ([], [], ())).snd.fst).bind fun r5 =>
      if (r5 ++ [x42]).length.blt 1000000000 = true then
      if 0 ≤ i7 then
       if i7 < (↑l6.length : Int) then
        monoid_elements.l17 k i7 x42 x41 x42 ((l6.getD i7.toNat ([], [], ())).fst) ((↑(l6.getD i7.toNat ([], [], ())).fst.length : Int)) 0 d1_0 d1_1 d1_2 d1_3 seen5 l6 [] (r5 ++ [x42])
        else none
       else none
      else none
    else none
   else none
  else
   monoid_elements.l10 k (Go.IntKind.i64.wrap (i7 + 1)) d1_0 d1_1 d1_2 d1_3 seen5 l6
def monoid_elements.l17 : Nat → Int → Int → Int → Int → List (Int) → Int → Int → Int → Int → List (List (Int)) → List (Int) → List ((ByteArray × Int)) → List ((List (Int) × (List (Int) × Unit))) → List (Int) → List (Int) → Option (List (List Int × List Int × Unit))
 | 0, _, _, _, _, _, _, _, _, _, _, _, _, _, _, _ => none
 | k + 1, i7, a8, x41, x42, x59, x60, x61, d1_0, d1_1, d1_2, d1_3, seen5, l6, c4, c5 =>
  if x61 < x60 then
   if 0 ≤ x61 then
   if x61 < (↑x59.length : Int) then
    if 0 ≤ Go.Proofs.YtiiioobebeaafaaSx.rd (Int.ofNat 0) x59 x61 then
     if Go.Proofs.YtiiioobebeaafaaSx.rd (Int.ofNat 0) x59 x61 < (↑d1_2.length : Int) then
      if 0 ≤ a8 then
       if a8 < (↑(Go.Proofs.YtiiioobebeaafaaSx.rd [] d1_2 (Go.Proofs.YtiiioobebeaafaaSx.rd (Int.ofNat 0) x59 x61)).length : Int) then
        if (c4 ++ [Go.Proofs.YtiiioobebeaafaaSx.rd (Int.ofNat 0) (Go.Proofs.YtiiioobebeaafaaSx.rd [] d1_2 (Go.Proofs.YtiiioobebeaafaaSx.rd (Int.ofNat 0) x59 x61)) a8]).length.blt 1000000000 = true then
         monoid_elements.l17 k i7 a8 x41 x42 x59 x60 (Go.IntKind.i64.wrap (x61 + 1)) d1_0 d1_1 d1_2 d1_3 seen5 l6 (c4 ++ [Go.Proofs.YtiiioobebeaafaaSx.rd (Int.ofNat 0) (Go.Proofs.YtiiioobebeaafaaSx.rd [] d1_2 (Go.Proofs.YtiiioobebeaafaaSx.rd (Int.ofNat 0) x59 x61)) a8]) c5
         else none
        else none
       else none
      else none
     else none
    else none
   else none
  else
   (det_Key.f k c4).bind fun r3 =>
    if Go.Proofs.YtiiioobebeaafaaSx.mget Go.Proofs.YtiiioobebeaafaaSx.Ty.str (Go.Proofs.YtiiioobebeaafaaSx.Ty.int Go.IntKind.i64) seen5 r3 = 0 then
     if (l6 ++ [(c4, c5, ())]).length.blt 1000000000 = true then
     monoid_elements.j25 k i7 x41 x42 d1_0 d1_1 d1_2 d1_3 (Go.Proofs.YtiiioobebeaafaaSx.mput Go.Proofs.YtiiioobebeaafaaSx.Ty.str (Go.Proofs.YtiiioobebeaafaaSx.Ty.int Go.IntKind.i64) seen5 r3 (↑(l6 ++ [(c4, c5, ())]).length : Int)) (l6 ++ [(c4, c5, ())])
     else none
    else
     monoid_elements.j25 k i7 x41 x42 d1_0 d1_1 d1_2 d1_3 seen5 l6
def monoid_elements.j25 : Nat → Int → Int → Int → Int → Int → List (List (Int)) → List (Int) → List ((ByteArray × Int)) → List ((List (Int) × (List (Int) × Unit))) → Option (List (List Int × List Int × Unit))
 | 0, _, _, _, _, _, _, _, _, _ => none
 | k + 1, i7, x41, x42, d1_0, d1_1, d1_2, d1_3, seen5, l6 =>
  monoid_elements.l13 k i7 x41 (Go.IntKind.i64.wrap (x42 + 1)) d1_0 d1_1 d1_2 d1_3 seen5 l6
end
def monoid_elements.f (k : Nat) (d0 : (Int × (Int × (List (List (Int)) × (List (Int) × Unit))))) : Option (List (List Int × List Int × Unit)) :=
 monoid_elements.l3 k ((↑d0.snd.snd.fst.length : Int)) 0 d0.fst d0.snd.fst d0.snd.snd.fst d0.snd.snd.snd.fst [] []

noncomputable def monoid_elements.body : Code := fnBody Try.f132
def monoid_elements.ti : Tm := ⟨[(0, .p (.pair (.int .i64) (.pair (.int .i64) (.pair (.slice (.slice (.int .i64))) (.pair (.slice (.int .i64)) .unit)))))], []⟩
def monoid_elements.to : Tm := ⟨[(0, .own 0)], [.own (.pair (.slice (.int .i64)) (.pair (.slice (.int .i64)) .unit))]⟩
def monoid_elements.rs (r : (List ((List Int) × ((List Int) × Unit)))) : List Dat := [⟨(.slice (.pair (.slice (.int .i64)) (.pair (.slice (.int .i64)) .unit))), r⟩]
def monoid_elements.out (ds : List Dat) : Option ((List ((List Int) × ((List Int) × Unit)))) := pop (.slice (.pair (.slice (.int .i64)) (.pair (.slice (.int .i64)) .unit))) ds fun x0 ds => popN ds (some (x0))
def monoid_elements.c (k : Nat) (ds : List Dat) : Option ((List ((List Int) × ((List Int) × Unit)))) := pop (.pair (.int .i64) (.pair (.int .i64) (.pair (.slice (.slice (.int .i64))) (.pair (.slice (.int .i64)) .unit)))) ds fun x0 ds => popN ds (monoid_elements.f k x0)
def monoid_elements.g : Nat → List Dat → Option ((List ((List Int) × ((List Int) × Unit))))
 | 0, _ => none
 | k + 1, ds => monoid_elements.c k ds
def monoid_elements.env (k : Nat) : Nat → List SV → List Chunk → KT ((List ((List Int) × ((List Int) × Unit)))) → Option ((List ((List Int) × ((List Int) × Unit)))) := (envC 88 1 det_Key.ti det_Key.to (fun ds K => pop (.slice (.int .i64)) ds fun x0 ds => popN ds ((det_Key.f k x0).bind fun r => K (det_Key.rs r))) (envC 84 1 slices_Clone___int_int_.ti slices_Clone___int_int_.to (fun ds K => pop (.slice (.int .i64)) ds fun x0 ds => popN ds ((slices_Clone___int_int_.f k x0).bind fun r => K (slices_Clone___int_int_.rs r))) env0))
def monoid_elements.t7 : Tm := ⟨[(1, .ptr 0 0), (3, .ptr 1 0), (16, .p (.int .i64)), (17, .p (.int .i64))], [.box [.p (.int .i64), .p (.int .i64), .p (.slice (.slice (.int .i64))), .p (.slice (.int .i64))] 58, .box [.own 2, .own 3] 165, .own (.int .i64), .own (.int .i64)]⟩
def monoid_elements.c7 (k : Nat) (ds : List Dat) : Option ((List ((List Int) × ((List Int) × Unit)))) := pop (.int .i64) ds fun x0 ds => pop (.int .i64) ds fun x1 ds => pop (.int .i64) ds fun x2 ds => pop (.int .i64) ds fun x3 ds => pop (.slice (.slice (.int .i64))) ds fun x4 ds => pop (.slice (.int .i64)) ds fun x5 ds => pop (.slice (.int .i64)) ds fun x6 ds => pop (.slice (.int .i64)) ds fun x7 ds => popN ds (monoid_elements.l3 k x0 x1 x2 x3 x4 x5 x6 x7)
def monoid_elements.t21 : Tm := ⟨[(1, .ptr 0 0), (5, .map 1), (6, .own 2), (7, .p (.int .i64))], [.box [.p (.int .i64), .p (.int .i64), .p (.slice (.slice (.int .i64))), .p (.slice (.int .i64))] 58, .map .str (.int .i64), .own (.pair (.slice (.int .i64)) (.pair (.slice (.int .i64)) .unit))]⟩
def monoid_elements.c21 (k : Nat) (ds : List Dat) : Option ((List ((List Int) × ((List Int) × Unit)))) := pop (.int .i64) ds fun x0 ds => pop (.int .i64) ds fun x1 ds => pop (.int .i64) ds fun x2 ds => pop (.slice (.slice (.int .i64))) ds fun x3 ds => pop (.slice (.int .i64)) ds fun x4 ds => pop (.slice (.pair .str (.int .i64))) ds fun x5 ds => pop (.slice (.pair (.slice (.int .i64)) (.pair (.slice (.int .i64)) .unit))) ds fun x6 ds => popN ds (monoid_elements.l10 k x0 x1 x2 x3 x4 x5 x6)
def monoid_elements.t27 : Tm := ⟨[(1, .ptr 0 0), (5, .map 1), (6, .own 2), (7, .p (.int .i64)), (41, .p (.int .i64)), (42, .p (.int .i64))], [.box [.p (.int .i64), .p (.int .i64), .p (.slice (.slice (.int .i64))), .p (.slice (.int .i64))] 58, .map .str (.int .i64), .own (.pair (.slice (.int .i64)) (.pair (.slice (.int .i64)) .unit))]⟩
def monoid_elements.c27 (k : Nat) (ds : List Dat) : Option ((List ((List Int) × ((List Int) × Unit)))) := pop (.int .i64) ds fun x0 ds => pop (.int .i64) ds fun x1 ds => pop (.int .i64) ds fun x2 ds => pop (.int .i64) ds fun x3 ds => pop (.int .i64) ds fun x4 ds => pop (.slice (.slice (.int .i64))) ds fun x5 ds => pop (.slice (.int .i64)) ds fun x6 ds => pop (.slice (.pair .str (.int .i64))) ds fun x7 ds => pop (.slice (.pair (.slice (.int .i64)) (.pair (.slice (.int .i64)) .unit))) ds fun x8 ds => popN ds (monoid_elements.l13 k x0 x1 x2 x3 x4 x5 x6 x7 x8)
def monoid_elements.t35 : Tm := ⟨[(1, .ptr 0 0), (5, .map 1), (6, .own 2), (7, .p (.int .i64)), (8, .p (.int .i64)), (9, .ptr 3 0), (41, .p (.int .i64)), (42, .p (.int .i64)), (59, .p (.slice (.int .i64))), (60, .p (.int .i64)), (61, .p (.int .i64))], [.box [.p (.int .i64), .p (.int .i64), .p (.slice (.slice (.int .i64))), .p (.slice (.int .i64))] 58, .map .str (.int .i64), .own (.pair (.slice (.int .i64)) (.pair (.slice (.int .i64)) .unit)), .box [.own 4, .own 5] 165, .own (.int .i64), .own (.int .i64)]⟩
def monoid_elements.c35 (k : Nat) (ds : List Dat) : Option ((List ((List Int) × ((List Int) × Unit)))) := pop (.int .i64) ds fun x0 ds => pop (.int .i64) ds fun x1 ds => pop (.int .i64) ds fun x2 ds => pop (.int .i64) ds fun x3 ds => pop (.slice (.int .i64)) ds fun x4 ds => pop (.int .i64) ds fun x5 ds => pop (.int .i64) ds fun x6 ds => pop (.int .i64) ds fun x7 ds => pop (.int .i64) ds fun x8 ds => pop (.slice (.slice (.int .i64))) ds fun x9 ds => pop (.slice (.int .i64)) ds fun x10 ds => pop (.slice (.pair .str (.int .i64))) ds fun x11 ds => pop (.slice (.pair (.slice (.int .i64)) (.pair (.slice (.int .i64)) .unit))) ds fun x12 ds => pop (.slice (.int .i64)) ds fun x13 ds => pop (.slice (.int .i64)) ds fun x14 ds => popN ds (monoid_elements.l17 k x0 x1 x2 x3 x4 x5 x6 x7 x8 x9 x10 x11 x12 x13 x14)
def monoid_elements.t50 : Tm := ⟨[(1, .ptr 0 0), (5, .map 1), (6, .own 2), (7, .p (.int .i64)), (41, .p (.int .i64)), (42, .p (.int .i64))], [.box [.p (.int .i64), .p (.int .i64), .p (.slice (.slice (.int .i64))), .p (.slice (.int .i64))] 58, .map .str (.int .i64), .own (.pair (.slice (.int .i64)) (.pair (.slice (.int .i64)) .unit))]⟩
def monoid_elements.c50 (k : Nat) (ds : List Dat) : Option ((List ((List Int) × ((List Int) × Unit)))) := pop (.int .i64) ds fun x0 ds => pop (.int .i64) ds fun x1 ds => pop (.int .i64) ds fun x2 ds => pop (.int .i64) ds fun x3 ds => pop (.int .i64) ds fun x4 ds => pop (.slice (.slice (.int .i64))) ds fun x5 ds => pop (.slice (.int .i64)) ds fun x6 ds => pop (.slice (.pair .str (.int .i64))) ds fun x7 ds => pop (.slice (.pair (.slice (.int .i64)) (.pair (.slice (.int .i64)) .unit))) ds fun x8 ds => popN ds (monoid_elements.j25 k x0 x1 x2 x3 x4 x5 x6 x7 x8)
def monoid_elements.tbl : List (Nat × Tm × (Nat → List Dat → Option ((List ((List Int) × ((List Int) × Unit)))))) := [(7, monoid_elements.t7, monoid_elements.c7), (21, monoid_elements.t21, monoid_elements.c21), (27, monoid_elements.t27, monoid_elements.c27), (35, monoid_elements.t35, monoid_elements.c35), (50, monoid_elements.t50, monoid_elements.c50)]
noncomputable abbrev monoid_elements.R (k : Nat) := run T (monoid_elements.env k) Try.f132.ntmps (cutE 0 monoid_elements.tbl k) (finE 0 monoid_elements.to monoid_elements.out) (fnRes Try.f132) [25] 100000 true
theorem monoid_elements.e7 (k : Nat) (x0 : Int) (x1 : Int) (x2 : Int) (x3 : Int) (x4 : (List (List Int))) (x5 : (List Int)) (x6 : (List Int)) (x7 : (List Int)) : monoid_elements.l3 (k + 1) x0 x1 x2 x3 x4 x5 x6 x7 = monoid_elements.R k (start (stackOf 7 monoid_elements.body)) (monoid_elements.t7.fill [⟨(.int .i64), x0⟩, ⟨(.int .i64), x1⟩, ⟨(.int .i64), x2⟩, ⟨(.int .i64), x3⟩, ⟨(.slice (.slice (.int .i64))), x4⟩, ⟨(.slice (.int .i64)), x5⟩, ⟨(.slice (.int .i64)), x6⟩, ⟨(.slice (.int .i64)), x7⟩]) := by kernel_rfl
theorem monoid_elements.s7 : stackAt 7 monoid_elements.body [] = some (stackOf 7 monoid_elements.body) := by kernel_rfl
theorem monoid_elements.h7 (k : Nat) (ds : List Dat) (r : (List ((List Int) × ((List Int) × Unit)))) (h : monoid_elements.c7 k ds = some r) : ∃ k', k' < k ∧ ∃ s, stackAt 7 monoid_elements.body [] = some s ∧ monoid_elements.R k' (start s) (monoid_elements.t7.fill ds) = some r := by
  unfold monoid_elements.c7 at h
  obtain ⟨x0, d0, rfl, h0⟩ := pop_some h
  obtain ⟨x1, d1, rfl, h1⟩ := pop_some h0
  obtain ⟨x2, d2, rfl, h2⟩ := pop_some h1
  obtain ⟨x3, d3, rfl, h3⟩ := pop_some h2
  obtain ⟨x4, d4, rfl, h4⟩ := pop_some h3
  obtain ⟨x5, d5, rfl, h5⟩ := pop_some h4
  obtain ⟨x6, d6, rfl, h6⟩ := pop_some h5
  obtain ⟨x7, d7, rfl, h7⟩ := pop_some h6
  obtain ⟨rfl, g⟩ := popN_some h7
  cases k with
  | zero => cases (show none = some r from g)
  | succ k => exact ⟨k, Nat.lt_succ_self k, _, monoid_elements.s7, (monoid_elements.e7 k x0 x1 x2 x3 x4 x5 x6 x7).symm.trans g⟩
theorem monoid_elements.e21 (k : Nat) (x0 : Int) (x1 : Int) (x2 : Int) (x3 : (List (List Int))) (x4 : (List Int)) (x5 : (List (ByteArray × Int))) (x6 : (List ((List Int) × ((List Int) × Unit)))) : monoid_elements.l10 (k + 1) x0 x1 x2 x3 x4 x5 x6 = monoid_elements.R k (start (stackOf 21 monoid_elements.body)) (monoid_elements.t21.fill [⟨(.int .i64), x0⟩, ⟨(.int .i64), x1⟩, ⟨(.int .i64), x2⟩, ⟨(.slice (.slice (.int .i64))), x3⟩, ⟨(.slice (.int .i64)), x4⟩, ⟨(.slice (.pair .str (.int .i64))), x5⟩, ⟨(.slice (.pair (.slice (.int .i64)) (.pair (.slice (.int .i64)) .unit))), x6⟩]) := by kernel_rfl
theorem monoid_elements.s21 : stackAt 21 monoid_elements.body [] = some (stackOf 21 monoid_elements.body) := by kernel_rfl
theorem monoid_elements.h21 (k : Nat) (ds : List Dat) (r : (List ((List Int) × ((List Int) × Unit)))) (h : monoid_elements.c21 k ds = some r) : ∃ k', k' < k ∧ ∃ s, stackAt 21 monoid_elements.body [] = some s ∧ monoid_elements.R k' (start s) (monoid_elements.t21.fill ds) = some r := by
  unfold monoid_elements.c21 at h
  obtain ⟨x0, d0, rfl, h0⟩ := pop_some h
  obtain ⟨x1, d1, rfl, h1⟩ := pop_some h0
  obtain ⟨x2, d2, rfl, h2⟩ := pop_some h1
  obtain ⟨x3, d3, rfl, h3⟩ := pop_some h2
  obtain ⟨x4, d4, rfl, h4⟩ := pop_some h3
  obtain ⟨x5, d5, rfl, h5⟩ := pop_some h4
  obtain ⟨x6, d6, rfl, h6⟩ := pop_some h5
  obtain ⟨rfl, g⟩ := popN_some h6
  cases k with
  | zero => cases (show none = some r from g)
  | succ k => exact ⟨k, Nat.lt_succ_self k, _, monoid_elements.s21, (monoid_elements.e21 k x0 x1 x2 x3 x4 x5 x6).symm.trans g⟩
theorem monoid_elements.e27 (k : Nat) (x0 : Int) (x1 : Int) (x2 : Int) (x3 : Int) (x4 : Int) (x5 : (List (List Int))) (x6 : (List Int)) (x7 : (List (ByteArray × Int))) (x8 : (List ((List Int) × ((List Int) × Unit)))) : monoid_elements.l13 (k + 1) x0 x1 x2 x3 x4 x5 x6 x7 x8 = monoid_elements.R k (start (stackOf 27 monoid_elements.body)) (monoid_elements.t27.fill [⟨(.int .i64), x0⟩, ⟨(.int .i64), x1⟩, ⟨(.int .i64), x2⟩, ⟨(.int .i64), x3⟩, ⟨(.int .i64), x4⟩, ⟨(.slice (.slice (.int .i64))), x5⟩, ⟨(.slice (.int .i64)), x6⟩, ⟨(.slice (.pair .str (.int .i64))), x7⟩, ⟨(.slice (.pair (.slice (.int .i64)) (.pair (.slice (.int .i64)) .unit))), x8⟩]) := by kernel_rfl
theorem monoid_elements.s27 : stackAt 27 monoid_elements.body [] = some (stackOf 27 monoid_elements.body) := by kernel_rfl
theorem monoid_elements.h27 (k : Nat) (ds : List Dat) (r : (List ((List Int) × ((List Int) × Unit)))) (h : monoid_elements.c27 k ds = some r) : ∃ k', k' < k ∧ ∃ s, stackAt 27 monoid_elements.body [] = some s ∧ monoid_elements.R k' (start s) (monoid_elements.t27.fill ds) = some r := by
  unfold monoid_elements.c27 at h
  obtain ⟨x0, d0, rfl, h0⟩ := pop_some h
  obtain ⟨x1, d1, rfl, h1⟩ := pop_some h0
  obtain ⟨x2, d2, rfl, h2⟩ := pop_some h1
  obtain ⟨x3, d3, rfl, h3⟩ := pop_some h2
  obtain ⟨x4, d4, rfl, h4⟩ := pop_some h3
  obtain ⟨x5, d5, rfl, h5⟩ := pop_some h4
  obtain ⟨x6, d6, rfl, h6⟩ := pop_some h5
  obtain ⟨x7, d7, rfl, h7⟩ := pop_some h6
  obtain ⟨x8, d8, rfl, h8⟩ := pop_some h7
  obtain ⟨rfl, g⟩ := popN_some h8
  cases k with
  | zero => cases (show none = some r from g)
  | succ k => exact ⟨k, Nat.lt_succ_self k, _, monoid_elements.s27, (monoid_elements.e27 k x0 x1 x2 x3 x4 x5 x6 x7 x8).symm.trans g⟩
theorem monoid_elements.e35 (k : Nat) (x0 : Int) (x1 : Int) (x2 : Int) (x3 : Int) (x4 : (List Int)) (x5 : Int) (x6 : Int) (x7 : Int) (x8 : Int) (x9 : (List (List Int))) (x10 : (List Int)) (x11 : (List (ByteArray × Int))) (x12 : (List ((List Int) × ((List Int) × Unit)))) (x13 : (List Int)) (x14 : (List Int)) : monoid_elements.l17 (k + 1) x0 x1 x2 x3 x4 x5 x6 x7 x8 x9 x10 x11 x12 x13 x14 = monoid_elements.R k (start (stackOf 35 monoid_elements.body)) (monoid_elements.t35.fill [⟨(.int .i64), x0⟩, ⟨(.int .i64), x1⟩, ⟨(.int .i64), x2⟩, ⟨(.int .i64), x3⟩, ⟨(.slice (.int .i64)), x4⟩, ⟨(.int .i64), x5⟩, ⟨(.int .i64), x6⟩, ⟨(.int .i64), x7⟩, ⟨(.int .i64), x8⟩, ⟨(.slice (.slice (.int .i64))), x9⟩, ⟨(.slice (.int .i64)), x10⟩, ⟨(.slice (.pair .str (.int .i64))), x11⟩, ⟨(.slice (.pair (.slice (.int .i64)) (.pair (.slice (.int .i64)) .unit))), x12⟩, ⟨(.slice (.int .i64)), x13⟩, ⟨(.slice (.int .i64)), x14⟩]) := by kernel_rfl
theorem monoid_elements.s35 : stackAt 35 monoid_elements.body [] = some (stackOf 35 monoid_elements.body) := by kernel_rfl
theorem monoid_elements.h35 (k : Nat) (ds : List Dat) (r : (List ((List Int) × ((List Int) × Unit)))) (h : monoid_elements.c35 k ds = some r) : ∃ k', k' < k ∧ ∃ s, stackAt 35 monoid_elements.body [] = some s ∧ monoid_elements.R k' (start s) (monoid_elements.t35.fill ds) = some r := by
  unfold monoid_elements.c35 at h
  obtain ⟨x0, d0, rfl, h0⟩ := pop_some h
  obtain ⟨x1, d1, rfl, h1⟩ := pop_some h0
  obtain ⟨x2, d2, rfl, h2⟩ := pop_some h1
  obtain ⟨x3, d3, rfl, h3⟩ := pop_some h2
  obtain ⟨x4, d4, rfl, h4⟩ := pop_some h3
  obtain ⟨x5, d5, rfl, h5⟩ := pop_some h4
  obtain ⟨x6, d6, rfl, h6⟩ := pop_some h5
  obtain ⟨x7, d7, rfl, h7⟩ := pop_some h6
  obtain ⟨x8, d8, rfl, h8⟩ := pop_some h7
  obtain ⟨x9, d9, rfl, h9⟩ := pop_some h8
  obtain ⟨x10, d10, rfl, h10⟩ := pop_some h9
  obtain ⟨x11, d11, rfl, h11⟩ := pop_some h10
  obtain ⟨x12, d12, rfl, h12⟩ := pop_some h11
  obtain ⟨x13, d13, rfl, h13⟩ := pop_some h12
  obtain ⟨x14, d14, rfl, h14⟩ := pop_some h13
  obtain ⟨rfl, g⟩ := popN_some h14
  cases k with
  | zero => cases (show none = some r from g)
  | succ k => exact ⟨k, Nat.lt_succ_self k, _, monoid_elements.s35, (monoid_elements.e35 k x0 x1 x2 x3 x4 x5 x6 x7 x8 x9 x10 x11 x12 x13 x14).symm.trans g⟩
theorem monoid_elements.e50 (k : Nat) (x0 : Int) (x1 : Int) (x2 : Int) (x3 : Int) (x4 : Int) (x5 : (List (List Int))) (x6 : (List Int)) (x7 : (List (ByteArray × Int))) (x8 : (List ((List Int) × ((List Int) × Unit)))) : monoid_elements.j25 (k + 1) x0 x1 x2 x3 x4 x5 x6 x7 x8 = monoid_elements.R k (start (stackOf 50 monoid_elements.body)) (monoid_elements.t50.fill [⟨(.int .i64), x0⟩, ⟨(.int .i64), x1⟩, ⟨(.int .i64), x2⟩, ⟨(.int .i64), x3⟩, ⟨(.int .i64), x4⟩, ⟨(.slice (.slice (.int .i64))), x5⟩, ⟨(.slice (.int .i64)), x6⟩, ⟨(.slice (.pair .str (.int .i64))), x7⟩, ⟨(.slice (.pair (.slice (.int .i64)) (.pair (.slice (.int .i64)) .unit))), x8⟩]) := by kernel_rfl
theorem monoid_elements.s50 : stackAt 50 monoid_elements.body [] = some (stackOf 50 monoid_elements.body) := by kernel_rfl
theorem monoid_elements.h50 (k : Nat) (ds : List Dat) (r : (List ((List Int) × ((List Int) × Unit)))) (h : monoid_elements.c50 k ds = some r) : ∃ k', k' < k ∧ ∃ s, stackAt 50 monoid_elements.body [] = some s ∧ monoid_elements.R k' (start s) (monoid_elements.t50.fill ds) = some r := by
  unfold monoid_elements.c50 at h
  obtain ⟨x0, d0, rfl, h0⟩ := pop_some h
  obtain ⟨x1, d1, rfl, h1⟩ := pop_some h0
  obtain ⟨x2, d2, rfl, h2⟩ := pop_some h1
  obtain ⟨x3, d3, rfl, h3⟩ := pop_some h2
  obtain ⟨x4, d4, rfl, h4⟩ := pop_some h3
  obtain ⟨x5, d5, rfl, h5⟩ := pop_some h4
  obtain ⟨x6, d6, rfl, h6⟩ := pop_some h5
  obtain ⟨x7, d7, rfl, h7⟩ := pop_some h6
  obtain ⟨x8, d8, rfl, h8⟩ := pop_some h7
  obtain ⟨rfl, g⟩ := popN_some h8
  cases k with
  | zero => cases (show none = some r from g)
  | succ k => exact ⟨k, Nat.lt_succ_self k, _, monoid_elements.s50, (monoid_elements.e50 k x0 x1 x2 x3 x4 x5 x6 x7 x8).symm.trans g⟩
theorem monoid_elements.e (k : Nat) (x0 : (Int × (Int × ((List (List Int)) × ((List Int) × Unit))))) : monoid_elements.f k x0 = monoid_elements.R k ([.code monoid_elements.body]) (monoid_elements.ti.fill [⟨(.pair (.int .i64) (.pair (.int .i64) (.pair (.slice (.slice (.int .i64))) (.pair (.slice (.int .i64)) .unit)))), x0⟩]) := by kernel_rfl
theorem monoid_elements.h (k : Nat) (ds : List Dat) (r : (List ((List Int) × ((List Int) × Unit)))) (h : monoid_elements.g k ds = some r) : ∃ k', k' < k ∧ monoid_elements.R k' ([.code monoid_elements.body]) (monoid_elements.ti.fill ds) = some r := by
  cases k with
  | zero => cases (show none = some r from h)
  | succ k =>
  replace h : monoid_elements.c k ds = some r := h
  unfold monoid_elements.c at h
  obtain ⟨x0, d0, rfl, h0⟩ := pop_some h
  obtain ⟨rfl, g⟩ := popN_some h0
  exact ⟨k, Nat.lt_succ_self k, (monoid_elements.e k x0).symm.trans g⟩
theorem monoid_elements.o (ds : List Dat) (r : (List ((List Int) × ((List Int) × Unit)))) (h : monoid_elements.out ds = some r) : ds = monoid_elements.rs r := by
  unfold monoid_elements.out at h
  obtain ⟨x0, d0, rfl, h0⟩ := pop_some h
  obtain ⟨rfl, g⟩ := popN_some h0
  cases g
  rfl
theorem monoid_elements.fn : FnOk Try.prog 132 Try.f132 monoid_elements.body Try.f132.ntmps 1 (fnRes Try.f132) :=
  fnOk_of (by kernel_rfl) (by kernel_rfl) (by kernel_rfl) (by kernel_rfl)
theorem monoid_elements.con' : ∀ k ds r, monoid_elements.g k ds = some r → Con Try.prog 132 1 monoid_elements.ti monoid_elements.to ds (monoid_elements.rs r) :=
  fun_ok (T := T) T_ok mixed monoid_elements.fn (env := monoid_elements.env) (tbl := monoid_elements.tbl) (gOut := monoid_elements.out) (nin := 0) (cuts := [25]) (fuel := 100000) rfl (by kernel_rfl) (by kernel_rfl) (by kernel_rfl) (fun x hx => by
    simp only [monoid_elements.tbl, List.mem_cons, List.not_mem_nil, or_false] at hx
    rcases hx with rfl | rfl | rfl | rfl | rfl
    · exact monoid_elements.h7
    · exact monoid_elements.h21
    · exact monoid_elements.h27
    · exact monoid_elements.h35
    · exact monoid_elements.h50
) monoid_elements.o monoid_elements.h (fun k _ => by unfold monoid_elements.env; exact (envC_ok (fun ds K r h => by
    obtain ⟨x0, d0, rfl, h0⟩ := pop_some h
    obtain ⟨rfl, g⟩ := popN_some h0
    obtain ⟨r1, h1, h2⟩ := bind_some g
    exact ⟨_, h2, det_Key.con k _ h1⟩) (envC_ok (fun ds K r h => by
    obtain ⟨x0, d0, rfl, h0⟩ := pop_some h
    obtain ⟨rfl, g⟩ := popN_some h0
    obtain ⟨r1, h1, h2⟩ := bind_some g
    exact ⟨_, h2, slices_Clone___int_int_.con k _ h1⟩) env0_ok)))
theorem monoid_elements.con (k : Nat) {x0 : (Int × (Int × ((List (List Int)) × ((List Int) × Unit))))} (r : (List ((List Int) × ((List Int) × Unit)))) (h : monoid_elements.f k x0 = some r) : Con Try.prog 132 1 monoid_elements.ti monoid_elements.to [⟨(.pair (.int .i64) (.pair (.int .i64) (.pair (.slice (.slice (.int .i64))) (.pair (.slice (.int .i64)) .unit)))), x0⟩] (monoid_elements.rs r) :=
  monoid_elements.con' (k + 1) _ r (by show monoid_elements.c k _ = some r; unfold monoid_elements.c; simp only [pop_self, popN]; exact h)
mutual
def monoid_Alike.l5 : Nat → List (Int) → List (Int) → Int → Int → Int → Int → List (List (Int)) → List (Int) → Int → Int → List (List (Int)) → List (List (Int)) → List (Int) → Option (List Int × List Int × Bool × Int)
 | 0, _, _, _, _, _, _, _, _, _, _, _, _, _ => none
 | k + 1, u1, v2, x31, x32, d3_0, d3_1, d3_2, d3_3, m10_0, m10_1, x30, c3, c4 =>
  if x32 < x31 then
   if 0 ≤ x32 then
   if x32 < (↑x30.length : Int) then
    (word_May.f k d3_0 (x30.getD x32.toNat [])).bind fun r5 =>
      if r5 = 0 then
       monoid_Alike.l5 k u1 v2 x31 (Go.IntKind.i64.wrap (x32 + 1)) d3_0 d3_1 d3_2 d3_3 m10_0 m10_1 x30 c3 c4
      else
       some ([], [], false, r5)
    else none
   else none
  else
   (monoid_elements.f k (m10_0, m10_1, c3, c4, ())).bind fun r3 =>
    monoid_Alike.l12 k u1 v2 ((↑r3.length : Int)) 0 m10_0 m10_1 c3 c4 r3
def monoid_Alike.l12 : Nat → List (Int) → List (Int) → Int → Int → Int → Int → List (List (Int)) → List (Int) → List ((List (Int) × (List (Int) × Unit))) → Option (List Int × List Int × Bool × Int)
 | 0, _, _, _, _, _, _, _, _, _ => none
 | k + 1, u1, v2, x46, x47, m10_0, m10_1, m10_2, m10_3, x45 =>
  if x47 < x46 then
   if 0 ≤ x47 then
   if x47 < (↑x45.length : Int) then
    (det_After.f k (m10_0, m10_1, m10_2, m10_3, ()) m10_1 (x45.getD x47.toNat ([], [], ())).snd.fst).bind fun r5 =>
      (det_After.f k (m10_0, m10_1, m10_2, m10_3, ()) r5 u1).bind fun r6 =>
       (det_After.f k (m10_0, m10_1, m10_2, m10_3, ()) r5 v2).bind fun r7 =>
        (det_Apart.f k (m10_0, m10_1, m10_2, m10_3, ()) r6 r7).bind fun r8 =>
         if r8.snd.fst = true then
          some ((x45.getD x47.toNat ([], [], ())).snd.fst, r8.fst, false, 0)
         else
          monoid_Alike.l12 k u1 v2 x46 (Go.IntKind.i64.wrap (x47 + 1)) m10_0 m10_1 m10_2 m10_3 x45
    else none
   else none
  else
   some ([], [], true, 0)
end
def monoid_Alike.f (k : Nat) (d0 : (Int × (Int × (List (List (Int)) × (List (Int) × Unit))))) (u1 : List (Int)) (v2 : List (Int)) : Option (List Int × List Int × Bool × Int) :=
 (monoid_small.f k (d0.fst, d0.snd.fst, d0.snd.snd.fst, d0.snd.snd.snd.fst, ())).bind fun r1 =>
  if r1.snd.snd.fst = 0 then
   monoid_Alike.l5 k u1 v2 ((↑[u1, v2].length : Int)) 0 d0.fst d0.snd.fst d0.snd.snd.fst d0.snd.snd.snd.fst r1.fst r1.snd.fst ([u1, v2]) r1.snd.snd.snd.fst r1.snd.snd.snd.snd
  else
   some ([], [], false, r1.snd.snd.fst)

noncomputable def monoid_Alike.body : Code := fnBody Try.f71
def monoid_Alike.ti : Tm := ⟨[(0, .p (.pair (.int .i64) (.pair (.int .i64) (.pair (.slice (.slice (.int .i64))) (.pair (.slice (.int .i64)) .unit))))), (1, .p (.slice (.int .i64))), (2, .p (.slice (.int .i64)))], []⟩
def monoid_Alike.to : Tm := ⟨[(0, .p (.slice (.int .i64))), (1, .p (.slice (.int .i64))), (2, .p .bool), (3, .p (.int .i64))], [.gone, .gone]⟩
def monoid_Alike.rs (r : (List Int) × (List Int) × Bool × Int) : List Dat := [⟨(.slice (.int .i64)), r.1⟩, ⟨(.slice (.int .i64)), r.2.1⟩, ⟨.bool, r.2.2.1⟩, ⟨(.int .i64), r.2.2.2⟩]
def monoid_Alike.out (ds : List Dat) : Option ((List Int) × (List Int) × Bool × Int) := pop (.slice (.int .i64)) ds fun x0 ds => pop (.slice (.int .i64)) ds fun x1 ds => pop .bool ds fun x2 ds => pop (.int .i64) ds fun x3 ds => popN ds (some (x0, x1, x2, x3))
def monoid_Alike.c (k : Nat) (ds : List Dat) : Option ((List Int) × (List Int) × Bool × Int) := pop (.pair (.int .i64) (.pair (.int .i64) (.pair (.slice (.slice (.int .i64))) (.pair (.slice (.int .i64)) .unit)))) ds fun x0 ds => pop (.slice (.int .i64)) ds fun x1 ds => pop (.slice (.int .i64)) ds fun x2 ds => popN ds (monoid_Alike.f k x0 x1 x2)
def monoid_Alike.g : Nat → List Dat → Option ((List Int) × (List Int) × Bool × Int)
 | 0, _ => none
 | k + 1, ds => monoid_Alike.c k ds
def monoid_Alike.env (k : Nat) : Nat → List SV → List Chunk → KT ((List Int) × (List Int) × Bool × Int) → Option ((List Int) × (List Int) × Bool × Int) := (envC 140 2 word_May.ti word_May.to (fun ds K => pop (.int .i64) ds fun x0 ds => pop (.slice (.int .i64)) ds fun x1 ds => popN ds ((word_May.f k x0 x1).bind fun r => K (word_May.rs r))) (envC 132 1 monoid_elements.ti monoid_elements.to (fun ds K => pop (.pair (.int .i64) (.pair (.int .i64) (.pair (.slice (.slice (.int .i64))) (.pair (.slice (.int .i64)) .unit)))) ds fun x0 ds => popN ds ((monoid_elements.f k x0).bind fun r => K (monoid_elements.rs r))) (envC 141 3 det_After.ti det_After.to (fun ds K => pop (.pair (.int .i64) (.pair (.int .i64) (.pair (.slice (.slice (.int .i64))) (.pair (.slice (.int .i64)) .unit)))) ds fun x0 ds => pop (.int .i64) ds fun x1 ds => pop (.slice (.int .i64)) ds fun x2 ds => popN ds ((det_After.f k x0 x1 x2).bind fun r => K (det_After.rs r))) (envC 43 3 det_Apart.ti det_Apart.to (fun ds K => pop (.pair (.int .i64) (.pair (.int .i64) (.pair (.slice (.slice (.int .i64))) (.pair (.slice (.int .i64)) .unit)))) ds fun x0 ds => pop (.int .i64) ds fun x1 ds => pop (.int .i64) ds fun x2 ds => popN ds ((det_Apart.f k x0 x1 x2).bind fun r => K (det_Apart.rs r))) (envC 131 1 monoid_small.ti monoid_small.to (fun ds K => pop (.pair (.int .i64) (.pair (.int .i64) (.pair (.slice (.slice (.int .i64))) (.pair (.slice (.int .i64)) .unit)))) ds fun x0 ds => popN ds ((monoid_small.f k x0).bind fun r => K (monoid_small.rs r))) env0)))))
def monoid_Alike.t11 : Tm := ⟨[(1, .p (.slice (.int .i64))), (2, .p (.slice (.int .i64))), (3, .ptr 0 0), (10, .ptr 1 0), (30, .own 2), (31, .p (.int .i64)), (32, .p (.int .i64))], [.box [.p (.int .i64), .p (.int .i64), .p (.slice (.slice (.int .i64))), .p (.slice (.int .i64))] 58, .box [.p (.int .i64), .p (.int .i64), .own 3, .own 4] 58, .own (.slice (.int .i64)), .own (.slice (.int .i64)), .own (.int .i64)]⟩
def monoid_Alike.c11 (k : Nat) (ds : List Dat) : Option ((List Int) × (List Int) × Bool × Int) := pop (.slice (.int .i64)) ds fun x0 ds => pop (.slice (.int .i64)) ds fun x1 ds => pop (.int .i64) ds fun x2 ds => pop (.int .i64) ds fun x3 ds => pop (.int .i64) ds fun x4 ds => pop (.int .i64) ds fun x5 ds => pop (.slice (.slice (.int .i64))) ds fun x6 ds => pop (.slice (.int .i64)) ds fun x7 ds => pop (.int .i64) ds fun x8 ds => pop (.int .i64) ds fun x9 ds => pop (.slice (.slice (.int .i64))) ds fun x10 ds => pop (.slice (.slice (.int .i64))) ds fun x11 ds => pop (.slice (.int .i64)) ds fun x12 ds => popN ds (monoid_Alike.l5 k x0 x1 x2 x3 x4 x5 x6 x7 x8 x9 x10 x11 x12)
def monoid_Alike.t25 : Tm := ⟨[(1, .p (.slice (.int .i64))), (2, .p (.slice (.int .i64))), (10, .ptr 0 0), (45, .own 1), (46, .p (.int .i64)), (47, .p (.int .i64))], [.box [.p (.int .i64), .p (.int .i64), .p (.slice (.slice (.int .i64))), .p (.slice (.int .i64))] 58, .own (.pair (.slice (.int .i64)) (.pair (.slice (.int .i64)) .unit))]⟩
def monoid_Alike.c25 (k : Nat) (ds : List Dat) : Option ((List Int) × (List Int) × Bool × Int) := pop (.slice (.int .i64)) ds fun x0 ds => pop (.slice (.int .i64)) ds fun x1 ds => pop (.int .i64) ds fun x2 ds => pop (.int .i64) ds fun x3 ds => pop (.int .i64) ds fun x4 ds => pop (.int .i64) ds fun x5 ds => pop (.slice (.slice (.int .i64))) ds fun x6 ds => pop (.slice (.int .i64)) ds fun x7 ds => pop (.slice (.pair (.slice (.int .i64)) (.pair (.slice (.int .i64)) .unit))) ds fun x8 ds => popN ds (monoid_Alike.l12 k x0 x1 x2 x3 x4 x5 x6 x7 x8)
def monoid_Alike.tbl : List (Nat × Tm × (Nat → List Dat → Option ((List Int) × (List Int) × Bool × Int))) := [(11, monoid_Alike.t11, monoid_Alike.c11), (25, monoid_Alike.t25, monoid_Alike.c25)]
noncomputable abbrev monoid_Alike.R (k : Nat) := run T (monoid_Alike.env k) Try.f71.ntmps (cutE 0 monoid_Alike.tbl k) (finE 0 monoid_Alike.to monoid_Alike.out) (fnRes Try.f71) [] 100000 true
theorem monoid_Alike.e11 (k : Nat) (x0 : (List Int)) (x1 : (List Int)) (x2 : Int) (x3 : Int) (x4 : Int) (x5 : Int) (x6 : (List (List Int))) (x7 : (List Int)) (x8 : Int) (x9 : Int) (x10 : (List (List Int))) (x11 : (List (List Int))) (x12 : (List Int)) : monoid_Alike.l5 (k + 1) x0 x1 x2 x3 x4 x5 x6 x7 x8 x9 x10 x11 x12 = monoid_Alike.R k (start (stackOf 11 monoid_Alike.body)) (monoid_Alike.t11.fill [⟨(.slice (.int .i64)), x0⟩, ⟨(.slice (.int .i64)), x1⟩, ⟨(.int .i64), x2⟩, ⟨(.int .i64), x3⟩, ⟨(.int .i64), x4⟩, ⟨(.int .i64), x5⟩, ⟨(.slice (.slice (.int .i64))), x6⟩, ⟨(.slice (.int .i64)), x7⟩, ⟨(.int .i64), x8⟩, ⟨(.int .i64), x9⟩, ⟨(.slice (.slice (.int .i64))), x10⟩, ⟨(.slice (.slice (.int .i64))), x11⟩, ⟨(.slice (.int .i64)), x12⟩]) := by kernel_rfl
theorem monoid_Alike.s11 : stackAt 11 monoid_Alike.body [] = some (stackOf 11 monoid_Alike.body) := by kernel_rfl
theorem monoid_Alike.h11 (k : Nat) (ds : List Dat) (r : (List Int) × (List Int) × Bool × Int) (h : monoid_Alike.c11 k ds = some r) : ∃ k', k' < k ∧ ∃ s, stackAt 11 monoid_Alike.body [] = some s ∧ monoid_Alike.R k' (start s) (monoid_Alike.t11.fill ds) = some r := by
  unfold monoid_Alike.c11 at h
  obtain ⟨x0, d0, rfl, h0⟩ := pop_some h
  obtain ⟨x1, d1, rfl, h1⟩ := pop_some h0
  obtain ⟨x2, d2, rfl, h2⟩ := pop_some h1
  obtain ⟨x3, d3, rfl, h3⟩ := pop_some h2
  obtain ⟨x4, d4, rfl, h4⟩ := pop_some h3
  obtain ⟨x5, d5, rfl, h5⟩ := pop_some h4
  obtain ⟨x6, d6, rfl, h6⟩ := pop_some h5
  obtain ⟨x7, d7, rfl, h7⟩ := pop_some h6
  obtain ⟨x8, d8, rfl, h8⟩ := pop_some h7
  obtain ⟨x9, d9, rfl, h9⟩ := pop_some h8
  obtain ⟨x10, d10, rfl, h10⟩ := pop_some h9
  obtain ⟨x11, d11, rfl, h11⟩ := pop_some h10
  obtain ⟨x12, d12, rfl, h12⟩ := pop_some h11
  obtain ⟨rfl, g⟩ := popN_some h12
  cases k with
  | zero => cases (show none = some r from g)
  | succ k => exact ⟨k, Nat.lt_succ_self k, _, monoid_Alike.s11, (monoid_Alike.e11 k x0 x1 x2 x3 x4 x5 x6 x7 x8 x9 x10 x11 x12).symm.trans g⟩
theorem monoid_Alike.e25 (k : Nat) (x0 : (List Int)) (x1 : (List Int)) (x2 : Int) (x3 : Int) (x4 : Int) (x5 : Int) (x6 : (List (List Int))) (x7 : (List Int)) (x8 : (List ((List Int) × ((List Int) × Unit)))) : monoid_Alike.l12 (k + 1) x0 x1 x2 x3 x4 x5 x6 x7 x8 = monoid_Alike.R k (start (stackOf 25 monoid_Alike.body)) (monoid_Alike.t25.fill [⟨(.slice (.int .i64)), x0⟩, ⟨(.slice (.int .i64)), x1⟩, ⟨(.int .i64), x2⟩, ⟨(.int .i64), x3⟩, ⟨(.int .i64), x4⟩, ⟨(.int .i64), x5⟩, ⟨(.slice (.slice (.int .i64))), x6⟩, ⟨(.slice (.int .i64)), x7⟩, ⟨(.slice (.pair (.slice (.int .i64)) (.pair (.slice (.int .i64)) .unit))), x8⟩]) := by kernel_rfl
theorem monoid_Alike.s25 : stackAt 25 monoid_Alike.body [] = some (stackOf 25 monoid_Alike.body) := by kernel_rfl
theorem monoid_Alike.h25 (k : Nat) (ds : List Dat) (r : (List Int) × (List Int) × Bool × Int) (h : monoid_Alike.c25 k ds = some r) : ∃ k', k' < k ∧ ∃ s, stackAt 25 monoid_Alike.body [] = some s ∧ monoid_Alike.R k' (start s) (monoid_Alike.t25.fill ds) = some r := by
  unfold monoid_Alike.c25 at h
  obtain ⟨x0, d0, rfl, h0⟩ := pop_some h
  obtain ⟨x1, d1, rfl, h1⟩ := pop_some h0
  obtain ⟨x2, d2, rfl, h2⟩ := pop_some h1
  obtain ⟨x3, d3, rfl, h3⟩ := pop_some h2
  obtain ⟨x4, d4, rfl, h4⟩ := pop_some h3
  obtain ⟨x5, d5, rfl, h5⟩ := pop_some h4
  obtain ⟨x6, d6, rfl, h6⟩ := pop_some h5
  obtain ⟨x7, d7, rfl, h7⟩ := pop_some h6
  obtain ⟨x8, d8, rfl, h8⟩ := pop_some h7
  obtain ⟨rfl, g⟩ := popN_some h8
  cases k with
  | zero => cases (show none = some r from g)
  | succ k => exact ⟨k, Nat.lt_succ_self k, _, monoid_Alike.s25, (monoid_Alike.e25 k x0 x1 x2 x3 x4 x5 x6 x7 x8).symm.trans g⟩
theorem monoid_Alike.e (k : Nat) (x0 : (Int × (Int × ((List (List Int)) × ((List Int) × Unit))))) (x1 : (List Int)) (x2 : (List Int)) : monoid_Alike.f k x0 x1 x2 = monoid_Alike.R k ([.code monoid_Alike.body]) (monoid_Alike.ti.fill [⟨(.pair (.int .i64) (.pair (.int .i64) (.pair (.slice (.slice (.int .i64))) (.pair (.slice (.int .i64)) .unit)))), x0⟩, ⟨(.slice (.int .i64)), x1⟩, ⟨(.slice (.int .i64)), x2⟩]) := by kernel_rfl
theorem monoid_Alike.h (k : Nat) (ds : List Dat) (r : (List Int) × (List Int) × Bool × Int) (h : monoid_Alike.g k ds = some r) : ∃ k', k' < k ∧ monoid_Alike.R k' ([.code monoid_Alike.body]) (monoid_Alike.ti.fill ds) = some r := by
  cases k with
  | zero => cases (show none = some r from h)
  | succ k =>
  replace h : monoid_Alike.c k ds = some r := h
  unfold monoid_Alike.c at h
  obtain ⟨x0, d0, rfl, h0⟩ := pop_some h
  obtain ⟨x1, d1, rfl, h1⟩ := pop_some h0
  obtain ⟨x2, d2, rfl, h2⟩ := pop_some h1
  obtain ⟨rfl, g⟩ := popN_some h2
  exact ⟨k, Nat.lt_succ_self k, (monoid_Alike.e k x0 x1 x2).symm.trans g⟩
theorem monoid_Alike.o (ds : List Dat) (r : (List Int) × (List Int) × Bool × Int) (h : monoid_Alike.out ds = some r) : ds = monoid_Alike.rs r := by
  unfold monoid_Alike.out at h
  obtain ⟨x0, d0, rfl, h0⟩ := pop_some h
  obtain ⟨x1, d1, rfl, h1⟩ := pop_some h0
  obtain ⟨x2, d2, rfl, h2⟩ := pop_some h1
  obtain ⟨x3, d3, rfl, h3⟩ := pop_some h2
  obtain ⟨rfl, g⟩ := popN_some h3
  cases g
  rfl
theorem monoid_Alike.fn : FnOk Try.prog 71 Try.f71 monoid_Alike.body Try.f71.ntmps 3 (fnRes Try.f71) :=
  fnOk_of (by kernel_rfl) (by kernel_rfl) (by kernel_rfl) (by kernel_rfl)
theorem monoid_Alike.con' : ∀ k ds r, monoid_Alike.g k ds = some r → Con Try.prog 71 3 monoid_Alike.ti monoid_Alike.to ds (monoid_Alike.rs r) :=
  fun_ok (T := T) T_ok mixed monoid_Alike.fn (env := monoid_Alike.env) (tbl := monoid_Alike.tbl) (gOut := monoid_Alike.out) (nin := 0) (cuts := []) (fuel := 100000) rfl (by kernel_rfl) (by kernel_rfl) (by kernel_rfl) (fun x hx => by
    simp only [monoid_Alike.tbl, List.mem_cons, List.not_mem_nil, or_false] at hx
    rcases hx with rfl | rfl
    · exact monoid_Alike.h11
    · exact monoid_Alike.h25
) monoid_Alike.o monoid_Alike.h (fun k _ => by unfold monoid_Alike.env; exact (envC_ok (fun ds K r h => by
    obtain ⟨x0, d0, rfl, h0⟩ := pop_some h
    obtain ⟨x1, d1, rfl, h1⟩ := pop_some h0
    obtain ⟨rfl, g⟩ := popN_some h1
    obtain ⟨r1, h1, h2⟩ := bind_some g
    exact ⟨_, h2, word_May.con k _ h1⟩) (envC_ok (fun ds K r h => by
    obtain ⟨x0, d0, rfl, h0⟩ := pop_some h
    obtain ⟨rfl, g⟩ := popN_some h0
    obtain ⟨r1, h1, h2⟩ := bind_some g
    exact ⟨_, h2, monoid_elements.con k _ h1⟩) (envC_ok (fun ds K r h => by
    obtain ⟨x0, d0, rfl, h0⟩ := pop_some h
    obtain ⟨x1, d1, rfl, h1⟩ := pop_some h0
    obtain ⟨x2, d2, rfl, h2⟩ := pop_some h1
    obtain ⟨rfl, g⟩ := popN_some h2
    obtain ⟨r1, h1, h2⟩ := bind_some g
    exact ⟨_, h2, det_After.con k _ h1⟩) (envC_ok (fun ds K r h => by
    obtain ⟨x0, d0, rfl, h0⟩ := pop_some h
    obtain ⟨x1, d1, rfl, h1⟩ := pop_some h0
    obtain ⟨x2, d2, rfl, h2⟩ := pop_some h1
    obtain ⟨rfl, g⟩ := popN_some h2
    obtain ⟨r1, h1, h2⟩ := bind_some g
    exact ⟨_, h2, det_Apart.con k _ h1⟩) (envC_ok (fun ds K r h => by
    obtain ⟨x0, d0, rfl, h0⟩ := pop_some h
    obtain ⟨rfl, g⟩ := popN_some h0
    obtain ⟨r1, h1, h2⟩ := bind_some g
    exact ⟨_, h2, monoid_small.con k _ h1⟩) env0_ok))))))
theorem monoid_Alike.con (k : Nat) {x0 : (Int × (Int × ((List (List Int)) × ((List Int) × Unit))))} {x1 : (List Int)} {x2 : (List Int)} (r : (List Int) × (List Int) × Bool × Int) (h : monoid_Alike.f k x0 x1 x2 = some r) : Con Try.prog 71 3 monoid_Alike.ti monoid_Alike.to [⟨(.pair (.int .i64) (.pair (.int .i64) (.pair (.slice (.slice (.int .i64))) (.pair (.slice (.int .i64)) .unit)))), x0⟩, ⟨(.slice (.int .i64)), x1⟩, ⟨(.slice (.int .i64)), x2⟩] (monoid_Alike.rs r) :=
  monoid_Alike.con' (k + 1) _ r (by show monoid_Alike.c k _ = some r; unfold monoid_Alike.c; simp only [pop_self, popN]; exact h)
mutual
def evermoreref3_Check.l9 : Nat → Int → Int → Int → Int → List (List (Int)) → List (Int) → Option (Int)
 | 0, _, _, _, _, _, _ => none
 | k + 1, n3, i4, d1_0, d1_1, d1_2, d1_3 =>
  if i4 < n3 then
   if 0 ≤ i4 then
   if i4 < (↑d1_2.length : Int) then
    if (↑(Go.Proofs.YtiiioobebeaafaaSx.rd [] d1_2 i4).length : Int) = d1_0 then
      evermoreref3_Check.l9 k n3 (Go.IntKind.i64.wrap (i4 + 1)) d1_0 d1_1 d1_2 d1_3
     else
      some (3)
    else none
   else none
  else
   if d1_1 < 0 then
    some (2)
   else
    if n3 ≤ d1_1 then
     some (2)
    else
     evermoreref3_Check.l16 k n3 0 d1_0 d1_1 d1_2 d1_3
def evermoreref3_Check.l16 : Nat → Int → Int → Int → Int → List (List (Int)) → List (Int) → Option (Int)
 | 0, _, _, _, _, _, _ => none
 | k + 1, n3, i5, d1_0, d1_1, d1_2, d1_3 =>
  if i5 < n3 then
   evermoreref3_Check.l19 k n3 i5 0 d1_0 d1_1 d1_2 d1_3
  else
   evermoreref3_Check.l24 k n3 0 d1_0 d1_1 d1_2 d1_3
def evermoreref3_Check.l19 : Nat → Int → Int → Int → Int → Int → List (List (Int)) → List (Int) → Option (Int)
 | 0, _, _, _, _, _, _, _ => none
 | k + 1, n3, i5, k6, d1_0, d1_1, d1_2, d1_3 =>
  if k6 < d1_0 then
   if 0 ≤ i5 then
   if i5 < (↑d1_2.length : Int) then
    if 0 ≤ k6 then
     if k6 < (↑(Go.Proofs.YtiiioobebeaafaaSx.rd [] d1_2 i5).length : Int) then
      if Go.Proofs.YtiiioobebeaafaaSx.rd (Int.ofNat 0) (Go.Proofs.YtiiioobebeaafaaSx.rd [] d1_2 i5) k6 < 0 then
        some (2)
       else
        if 0 ≤ i5 then
        if i5 < (↑d1_2.length : Int) then
         if 0 ≤ k6 then
          if k6 < (↑(Go.Proofs.YtiiioobebeaafaaSx.rd [] d1_2 i5).length : Int) then
           if n3 ≤ Go.Proofs.YtiiioobebeaafaaSx.rd (Int.ofNat 0) (Go.Proofs.YtiiioobebeaafaaSx.rd [] d1_2 i5) k6 then
             some (2)
            else
             evermoreref3_Check.l19 k n3 i5 (Go.IntKind.i64.wrap (k6 + 1)) d1_0 d1_1 d1_2 d1_3
           else none
          else none
         else none
        else none
      else none
     else none
    else none
   else none
  else
   evermoreref3_Check.l16 k n3 (Go.IntKind.i64.wrap (i5 + 1)) d1_0 d1_1 d1_2 d1_3
def evermoreref3_Check.l24 : Nat → Int → Int → Int → Int → List (List (Int)) → List (Int) → Option (Int)
 | 0, _, _, _, _, _, _ => none
 | k + 1, n3, i7, d1_0, d1_1, d1_2, d1_3 =>
  if i7 < n3 then
   if 0 ≤ i7 then
   if i7 < (↑d1_3.length : Int) then
    if Go.Proofs.YtiiioobebeaafaaSx.rd (Int.ofNat 0) d1_3 i7 = 0 then
      evermoreref3_Check.l24 k n3 (Go.IntKind.i64.wrap (i7 + 1)) d1_0 d1_1 d1_2 d1_3
     else
      if 0 ≤ i7 then
      if i7 < (↑d1_3.length : Int) then
       if Go.Proofs.YtiiioobebeaafaaSx.rd (Int.ofNat 0) d1_3 i7 = 1 then
         evermoreref3_Check.l24 k n3 (Go.IntKind.i64.wrap (i7 + 1)) d1_0 d1_1 d1_2 d1_3
        else
         some (2)
       else none
      else none
    else none
   else none
  else
   some (0)
end
def evermoreref3_Check.f (k : Nat) (d0 : (Int × (Int × (List (List (Int)) × (List (Int) × Unit))))) : Option (Int) :=
 if d0.fst < 1 then
  some (2)
 else
  if 4 < d0.fst then
   some (2)
  else
   if (↑d0.snd.snd.fst.length : Int) < 1 then
    some (1)
   else
    if 3000 < (↑d0.snd.snd.fst.length : Int) then
     some (1)
    else
     if (↑d0.snd.snd.snd.fst.length : Int) = (↑d0.snd.snd.fst.length : Int) then
      evermoreref3_Check.l9 k ((↑d0.snd.snd.fst.length : Int)) 0 d0.fst d0.snd.fst d0.snd.snd.fst d0.snd.snd.snd.fst
     else
      some (3)

noncomputable def evermoreref3_Check.body : Code := fnBody Try.f45
def evermoreref3_Check.ti : Tm := ⟨[(0, .p (.pair (.int .i64) (.pair (.int .i64) (.pair (.slice (.slice (.int .i64))) (.pair (.slice (.int .i64)) .unit)))))], []⟩
def evermoreref3_Check.to : Tm := ⟨[(0, .p (.int .i64))], []⟩
def evermoreref3_Check.rs (r : Int) : List Dat := [⟨(.int .i64), r⟩]
def evermoreref3_Check.out (ds : List Dat) : Option (Int) := pop (.int .i64) ds fun x0 ds => popN ds (some (x0))
def evermoreref3_Check.c (k : Nat) (ds : List Dat) : Option (Int) := pop (.pair (.int .i64) (.pair (.int .i64) (.pair (.slice (.slice (.int .i64))) (.pair (.slice (.int .i64)) .unit)))) ds fun x0 ds => popN ds (evermoreref3_Check.f k x0)
def evermoreref3_Check.g : Nat → List Dat → Option (Int)
 | 0, _ => none
 | k + 1, ds => evermoreref3_Check.c k ds
def evermoreref3_Check.env (k : Nat) : Nat → List SV → List Chunk → KT (Int) → Option (Int) := env0
def evermoreref3_Check.t19 : Tm := ⟨[(1, .ptr 0 0), (3, .p (.int .i64)), (4, .p (.int .i64))], [.box [.p (.int .i64), .p (.int .i64), .p (.slice (.slice (.int .i64))), .p (.slice (.int .i64))] 58]⟩
def evermoreref3_Check.c19 (k : Nat) (ds : List Dat) : Option (Int) := pop (.int .i64) ds fun x0 ds => pop (.int .i64) ds fun x1 ds => pop (.int .i64) ds fun x2 ds => pop (.int .i64) ds fun x3 ds => pop (.slice (.slice (.int .i64))) ds fun x4 ds => pop (.slice (.int .i64)) ds fun x5 ds => popN ds (evermoreref3_Check.l9 k x0 x1 x2 x3 x4 x5)
def evermoreref3_Check.t33 : Tm := ⟨[(1, .ptr 0 0), (3, .p (.int .i64)), (5, .p (.int .i64))], [.box [.p (.int .i64), .p (.int .i64), .p (.slice (.slice (.int .i64))), .p (.slice (.int .i64))] 58]⟩
def evermoreref3_Check.c33 (k : Nat) (ds : List Dat) : Option (Int) := pop (.int .i64) ds fun x0 ds => pop (.int .i64) ds fun x1 ds => pop (.int .i64) ds fun x2 ds => pop (.int .i64) ds fun x3 ds => pop (.slice (.slice (.int .i64))) ds fun x4 ds => pop (.slice (.int .i64)) ds fun x5 ds => popN ds (evermoreref3_Check.l16 k x0 x1 x2 x3 x4 x5)
def evermoreref3_Check.t39 : Tm := ⟨[(1, .ptr 0 0), (3, .p (.int .i64)), (5, .p (.int .i64)), (6, .p (.int .i64))], [.box [.p (.int .i64), .p (.int .i64), .p (.slice (.slice (.int .i64))), .p (.slice (.int .i64))] 58]⟩
def evermoreref3_Check.c39 (k : Nat) (ds : List Dat) : Option (Int) := pop (.int .i64) ds fun x0 ds => pop (.int .i64) ds fun x1 ds => pop (.int .i64) ds fun x2 ds => pop (.int .i64) ds fun x3 ds => pop (.int .i64) ds fun x4 ds => pop (.slice (.slice (.int .i64))) ds fun x5 ds => pop (.slice (.int .i64)) ds fun x6 ds => popN ds (evermoreref3_Check.l19 k x0 x1 x2 x3 x4 x5 x6)
def evermoreref3_Check.t49 : Tm := ⟨[(1, .ptr 0 0), (3, .p (.int .i64)), (7, .p (.int .i64))], [.box [.p (.int .i64), .p (.int .i64), .p (.slice (.slice (.int .i64))), .p (.slice (.int .i64))] 58]⟩
def evermoreref3_Check.c49 (k : Nat) (ds : List Dat) : Option (Int) := pop (.int .i64) ds fun x0 ds => pop (.int .i64) ds fun x1 ds => pop (.int .i64) ds fun x2 ds => pop (.int .i64) ds fun x3 ds => pop (.slice (.slice (.int .i64))) ds fun x4 ds => pop (.slice (.int .i64)) ds fun x5 ds => popN ds (evermoreref3_Check.l24 k x0 x1 x2 x3 x4 x5)
def evermoreref3_Check.tbl : List (Nat × Tm × (Nat → List Dat → Option (Int))) := [(19, evermoreref3_Check.t19, evermoreref3_Check.c19), (33, evermoreref3_Check.t33, evermoreref3_Check.c33), (39, evermoreref3_Check.t39, evermoreref3_Check.c39), (49, evermoreref3_Check.t49, evermoreref3_Check.c49)]
noncomputable abbrev evermoreref3_Check.R (k : Nat) := run T (evermoreref3_Check.env k) Try.f45.ntmps (cutE 0 evermoreref3_Check.tbl k) (finE 0 evermoreref3_Check.to evermoreref3_Check.out) (fnRes Try.f45) [] 100000 true
theorem evermoreref3_Check.e19 (k : Nat) (x0 : Int) (x1 : Int) (x2 : Int) (x3 : Int) (x4 : (List (List Int))) (x5 : (List Int)) : evermoreref3_Check.l9 (k + 1) x0 x1 x2 x3 x4 x5 = evermoreref3_Check.R k (start (stackOf 19 evermoreref3_Check.body)) (evermoreref3_Check.t19.fill [⟨(.int .i64), x0⟩, ⟨(.int .i64), x1⟩, ⟨(.int .i64), x2⟩, ⟨(.int .i64), x3⟩, ⟨(.slice (.slice (.int .i64))), x4⟩, ⟨(.slice (.int .i64)), x5⟩]) := by kernel_rfl
theorem evermoreref3_Check.s19 : stackAt 19 evermoreref3_Check.body [] = some (stackOf 19 evermoreref3_Check.body) := by kernel_rfl
theorem evermoreref3_Check.h19 (k : Nat) (ds : List Dat) (r : Int) (h : evermoreref3_Check.c19 k ds = some r) : ∃ k', k' < k ∧ ∃ s, stackAt 19 evermoreref3_Check.body [] = some s ∧ evermoreref3_Check.R k' (start s) (evermoreref3_Check.t19.fill ds) = some r := by
  unfold evermoreref3_Check.c19 at h
  obtain ⟨x0, d0, rfl, h0⟩ := pop_some h
  obtain ⟨x1, d1, rfl, h1⟩ := pop_some h0
  obtain ⟨x2, d2, rfl, h2⟩ := pop_some h1
  obtain ⟨x3, d3, rfl, h3⟩ := pop_some h2
  obtain ⟨x4, d4, rfl, h4⟩ := pop_some h3
  obtain ⟨x5, d5, rfl, h5⟩ := pop_some h4
  obtain ⟨rfl, g⟩ := popN_some h5
  cases k with
  | zero => cases (show none = some r from g)
  | succ k => exact ⟨k, Nat.lt_succ_self k, _, evermoreref3_Check.s19, (evermoreref3_Check.e19 k x0 x1 x2 x3 x4 x5).symm.trans g⟩
theorem evermoreref3_Check.e33 (k : Nat) (x0 : Int) (x1 : Int) (x2 : Int) (x3 : Int) (x4 : (List (List Int))) (x5 : (List Int)) : evermoreref3_Check.l16 (k + 1) x0 x1 x2 x3 x4 x5 = evermoreref3_Check.R k (start (stackOf 33 evermoreref3_Check.body)) (evermoreref3_Check.t33.fill [⟨(.int .i64), x0⟩, ⟨(.int .i64), x1⟩, ⟨(.int .i64), x2⟩, ⟨(.int .i64), x3⟩, ⟨(.slice (.slice (.int .i64))), x4⟩, ⟨(.slice (.int .i64)), x5⟩]) := by kernel_rfl
theorem evermoreref3_Check.s33 : stackAt 33 evermoreref3_Check.body [] = some (stackOf 33 evermoreref3_Check.body) := by kernel_rfl
theorem evermoreref3_Check.h33 (k : Nat) (ds : List Dat) (r : Int) (h : evermoreref3_Check.c33 k ds = some r) : ∃ k', k' < k ∧ ∃ s, stackAt 33 evermoreref3_Check.body [] = some s ∧ evermoreref3_Check.R k' (start s) (evermoreref3_Check.t33.fill ds) = some r := by
  unfold evermoreref3_Check.c33 at h
  obtain ⟨x0, d0, rfl, h0⟩ := pop_some h
  obtain ⟨x1, d1, rfl, h1⟩ := pop_some h0
  obtain ⟨x2, d2, rfl, h2⟩ := pop_some h1
  obtain ⟨x3, d3, rfl, h3⟩ := pop_some h2
  obtain ⟨x4, d4, rfl, h4⟩ := pop_some h3
  obtain ⟨x5, d5, rfl, h5⟩ := pop_some h4
  obtain ⟨rfl, g⟩ := popN_some h5
  cases k with
  | zero => cases (show none = some r from g)
  | succ k => exact ⟨k, Nat.lt_succ_self k, _, evermoreref3_Check.s33, (evermoreref3_Check.e33 k x0 x1 x2 x3 x4 x5).symm.trans g⟩
theorem evermoreref3_Check.e39 (k : Nat) (x0 : Int) (x1 : Int) (x2 : Int) (x3 : Int) (x4 : Int) (x5 : (List (List Int))) (x6 : (List Int)) : evermoreref3_Check.l19 (k + 1) x0 x1 x2 x3 x4 x5 x6 = evermoreref3_Check.R k (start (stackOf 39 evermoreref3_Check.body)) (evermoreref3_Check.t39.fill [⟨(.int .i64), x0⟩, ⟨(.int .i64), x1⟩, ⟨(.int .i64), x2⟩, ⟨(.int .i64), x3⟩, ⟨(.int .i64), x4⟩, ⟨(.slice (.slice (.int .i64))), x5⟩, ⟨(.slice (.int .i64)), x6⟩]) := by kernel_rfl
theorem evermoreref3_Check.s39 : stackAt 39 evermoreref3_Check.body [] = some (stackOf 39 evermoreref3_Check.body) := by kernel_rfl
theorem evermoreref3_Check.h39 (k : Nat) (ds : List Dat) (r : Int) (h : evermoreref3_Check.c39 k ds = some r) : ∃ k', k' < k ∧ ∃ s, stackAt 39 evermoreref3_Check.body [] = some s ∧ evermoreref3_Check.R k' (start s) (evermoreref3_Check.t39.fill ds) = some r := by
  unfold evermoreref3_Check.c39 at h
  obtain ⟨x0, d0, rfl, h0⟩ := pop_some h
  obtain ⟨x1, d1, rfl, h1⟩ := pop_some h0
  obtain ⟨x2, d2, rfl, h2⟩ := pop_some h1
  obtain ⟨x3, d3, rfl, h3⟩ := pop_some h2
  obtain ⟨x4, d4, rfl, h4⟩ := pop_some h3
  obtain ⟨x5, d5, rfl, h5⟩ := pop_some h4
  obtain ⟨x6, d6, rfl, h6⟩ := pop_some h5
  obtain ⟨rfl, g⟩ := popN_some h6
  cases k with
  | zero => cases (show none = some r from g)
  | succ k => exact ⟨k, Nat.lt_succ_self k, _, evermoreref3_Check.s39, (evermoreref3_Check.e39 k x0 x1 x2 x3 x4 x5 x6).symm.trans g⟩
theorem evermoreref3_Check.e49 (k : Nat) (x0 : Int) (x1 : Int) (x2 : Int) (x3 : Int) (x4 : (List (List Int))) (x5 : (List Int)) : evermoreref3_Check.l24 (k + 1) x0 x1 x2 x3 x4 x5 = evermoreref3_Check.R k (start (stackOf 49 evermoreref3_Check.body)) (evermoreref3_Check.t49.fill [⟨(.int .i64), x0⟩, ⟨(.int .i64), x1⟩, ⟨(.int .i64), x2⟩, ⟨(.int .i64), x3⟩, ⟨(.slice (.slice (.int .i64))), x4⟩, ⟨(.slice (.int .i64)), x5⟩]) := by kernel_rfl
theorem evermoreref3_Check.s49 : stackAt 49 evermoreref3_Check.body [] = some (stackOf 49 evermoreref3_Check.body) := by kernel_rfl
theorem evermoreref3_Check.h49 (k : Nat) (ds : List Dat) (r : Int) (h : evermoreref3_Check.c49 k ds = some r) : ∃ k', k' < k ∧ ∃ s, stackAt 49 evermoreref3_Check.body [] = some s ∧ evermoreref3_Check.R k' (start s) (evermoreref3_Check.t49.fill ds) = some r := by
  unfold evermoreref3_Check.c49 at h
  obtain ⟨x0, d0, rfl, h0⟩ := pop_some h
  obtain ⟨x1, d1, rfl, h1⟩ := pop_some h0
  obtain ⟨x2, d2, rfl, h2⟩ := pop_some h1
  obtain ⟨x3, d3, rfl, h3⟩ := pop_some h2
  obtain ⟨x4, d4, rfl, h4⟩ := pop_some h3
  obtain ⟨x5, d5, rfl, h5⟩ := pop_some h4
  obtain ⟨rfl, g⟩ := popN_some h5
  cases k with
  | zero => cases (show none = some r from g)
  | succ k => exact ⟨k, Nat.lt_succ_self k, _, evermoreref3_Check.s49, (evermoreref3_Check.e49 k x0 x1 x2 x3 x4 x5).symm.trans g⟩
theorem evermoreref3_Check.e (k : Nat) (x0 : (Int × (Int × ((List (List Int)) × ((List Int) × Unit))))) : evermoreref3_Check.f k x0 = evermoreref3_Check.R k ([.code evermoreref3_Check.body]) (evermoreref3_Check.ti.fill [⟨(.pair (.int .i64) (.pair (.int .i64) (.pair (.slice (.slice (.int .i64))) (.pair (.slice (.int .i64)) .unit)))), x0⟩]) := by kernel_rfl
theorem evermoreref3_Check.h (k : Nat) (ds : List Dat) (r : Int) (h : evermoreref3_Check.g k ds = some r) : ∃ k', k' < k ∧ evermoreref3_Check.R k' ([.code evermoreref3_Check.body]) (evermoreref3_Check.ti.fill ds) = some r := by
  cases k with
  | zero => cases (show none = some r from h)
  | succ k =>
  replace h : evermoreref3_Check.c k ds = some r := h
  unfold evermoreref3_Check.c at h
  obtain ⟨x0, d0, rfl, h0⟩ := pop_some h
  obtain ⟨rfl, g⟩ := popN_some h0
  exact ⟨k, Nat.lt_succ_self k, (evermoreref3_Check.e k x0).symm.trans g⟩
theorem evermoreref3_Check.o (ds : List Dat) (r : Int) (h : evermoreref3_Check.out ds = some r) : ds = evermoreref3_Check.rs r := by
  unfold evermoreref3_Check.out at h
  obtain ⟨x0, d0, rfl, h0⟩ := pop_some h
  obtain ⟨rfl, g⟩ := popN_some h0
  cases g
  rfl
theorem evermoreref3_Check.fn : FnOk Try.prog 45 Try.f45 evermoreref3_Check.body Try.f45.ntmps 1 (fnRes Try.f45) :=
  fnOk_of (by kernel_rfl) (by kernel_rfl) (by kernel_rfl) (by kernel_rfl)
theorem evermoreref3_Check.con' : ∀ k ds r, evermoreref3_Check.g k ds = some r → Con Try.prog 45 1 evermoreref3_Check.ti evermoreref3_Check.to ds (evermoreref3_Check.rs r) :=
  fun_ok (T := T) T_ok mixed evermoreref3_Check.fn (env := evermoreref3_Check.env) (tbl := evermoreref3_Check.tbl) (gOut := evermoreref3_Check.out) (nin := 0) (cuts := []) (fuel := 100000) rfl (by kernel_rfl) (by kernel_rfl) (by kernel_rfl) (fun x hx => by
    simp only [evermoreref3_Check.tbl, List.mem_cons, List.not_mem_nil, or_false] at hx
    rcases hx with rfl | rfl | rfl | rfl
    · exact evermoreref3_Check.h19
    · exact evermoreref3_Check.h33
    · exact evermoreref3_Check.h39
    · exact evermoreref3_Check.h49
) evermoreref3_Check.o evermoreref3_Check.h (fun k _ => by unfold evermoreref3_Check.env; exact env0_ok)
theorem evermoreref3_Check.con (k : Nat) {x0 : (Int × (Int × ((List (List Int)) × ((List Int) × Unit))))} (r : Int) (h : evermoreref3_Check.f k x0 = some r) : Con Try.prog 45 1 evermoreref3_Check.ti evermoreref3_Check.to [⟨(.pair (.int .i64) (.pair (.int .i64) (.pair (.slice (.slice (.int .i64))) (.pair (.slice (.int .i64)) .unit)))), x0⟩] (evermoreref3_Check.rs r) :=
  evermoreref3_Check.con' (k + 1) _ r (by show evermoreref3_Check.c k _ = some r; unfold evermoreref3_Check.c; simp only [pop_self, popN]; exact h)
end Go.Proofs.YtiiioobebeaafaaSx
