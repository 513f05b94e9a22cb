import Derived.Test.YtiiioobebeaafaaSxT
import Derived.Test.YtiiioobebeaafaaSxQ
import Derived.Test.YtiiioobebeaafaaSxV2
import Derived.Test.YtiiioobebeaafaaSxW
import Derived.KernelRfl
import Derived.Test.YtiiioobebeaafaaProg
set_option linter.unusedVariables false
set_option maxRecDepth 100000
namespace Go.Proofs.YtiiioobebeaafaaSx
open Go Go.Proofs
theorem T_check : T.check Try.prog = true := by kernel_rfl
theorem T_ok : TOk Try.prog T := TT.check_ok T_check
theorem mixed : Try.prog.follows .mixedOrders = true := by kernel_rfl
def two_Check_1.f (k : Nat) (r0 : List ((Int × (Int × Unit)))) (x1_0 : Int) (x1_1 : Int) (x1_2 : List (List ((Int × (Int × Unit))))) (x1_3 : List (Int)) : Option (Bool × Int × Int × List (List (Int × Int × Unit)) × List Int) :=
 some (!decide ((↑r0.length : Int) = Go.IntKind.i64.wrap (x1_0 + 2)), x1_0, x1_1, x1_2, x1_3)

noncomputable def two_Check_1.body : Code := fnBody Try.f165
def two_Check_1.ti : Tm := ⟨[(0, .p (.slice (.pair (.int .i64) (.pair (.int .i64) .unit)))), (1, .ptr 0 0)], [.box [.p (.int .i64), .p (.int .i64), .p (.slice (.slice (.pair (.int .i64) (.pair (.int .i64) .unit)))), .p (.slice (.int .i64))] 76]⟩
def two_Check_1.to : Tm := ⟨[(0, .p .bool)], [.box [.p (.int .i64), .p (.int .i64), .p (.slice (.slice (.pair (.int .i64) (.pair (.int .i64) .unit)))), .p (.slice (.int .i64))] 76]⟩
def two_Check_1.rs (r : Bool × Int × Int × (List (List (Int × (Int × Unit)))) × (List Int)) : List Dat := [⟨.bool, r.1⟩, ⟨(.int .i64), r.2.1⟩, ⟨(.int .i64), r.2.2.1⟩, ⟨(.slice (.slice (.pair (.int .i64) (.pair (.int .i64) .unit)))), r.2.2.2.1⟩, ⟨(.slice (.int .i64)), r.2.2.2.2⟩]
def two_Check_1.out (ds : List Dat) : Option (Bool × Int × Int × (List (List (Int × (Int × Unit)))) × (List Int)) := pop .bool ds fun x0 ds => pop (.int .i64) ds fun x1 ds => pop (.int .i64) ds fun x2 ds => pop (.slice (.slice (.pair (.int .i64) (.pair (.int .i64) .unit)))) ds fun x3 ds => pop (.slice (.int .i64)) ds fun x4 ds => popN ds (some (x0, x1, x2, x3, x4))
def two_Check_1.c (k : Nat) (ds : List Dat) : Option (Bool × Int × Int × (List (List (Int × (Int × Unit)))) × (List Int)) := pop (.slice (.pair (.int .i64) (.pair (.int .i64) .unit))) ds fun x0 ds => pop (.int .i64) ds fun x1 ds => pop (.int .i64) ds fun x2 ds => pop (.slice (.slice (.pair (.int .i64) (.pair (.int .i64) .unit)))) ds fun x3 ds => pop (.slice (.int .i64)) ds fun x4 ds => popN ds (two_Check_1.f k x0 x1 x2 x3 x4)
def two_Check_1.g : Nat → List Dat → Option (Bool × Int × Int × (List (List (Int × (Int × Unit)))) × (List Int))
 | 0, _ => none
 | k + 1, ds => two_Check_1.c k ds
def two_Check_1.env (k : Nat) : Nat → List SV → List Chunk → KT (Bool × Int × Int × (List (List (Int × (Int × Unit)))) × (List Int)) → Option (Bool × Int × Int × (List (List (Int × (Int × Unit)))) × (List Int)) := env0
def two_Check_1.tbl : List (Nat × Tm × (Nat → List Dat → Option (Bool × Int × Int × (List (List (Int × (Int × Unit)))) × (List Int)))) := []
noncomputable abbrev two_Check_1.R (k : Nat) := run T (two_Check_1.env k) Try.f165.ntmps (cutE 1 two_Check_1.tbl k) (finE 1 two_Check_1.to two_Check_1.out) (fnRes Try.f165) [] 100000 true
theorem two_Check_1.e (k : Nat) (x0 : (List (Int × (Int × Unit)))) (x1 : Int) (x2 : Int) (x3 : (List (List (Int × (Int × Unit))))) (x4 : (List Int)) : two_Check_1.f k x0 x1 x2 x3 x4 = two_Check_1.R k ([.code two_Check_1.body]) (two_Check_1.ti.fill [⟨(.slice (.pair (.int .i64) (.pair (.int .i64) .unit))), x0⟩, ⟨(.int .i64), x1⟩, ⟨(.int .i64), x2⟩, ⟨(.slice (.slice (.pair (.int .i64) (.pair (.int .i64) .unit)))), x3⟩, ⟨(.slice (.int .i64)), x4⟩]) := by kernel_rfl
theorem two_Check_1.h (k : Nat) (ds : List Dat) (r : Bool × Int × Int × (List (List (Int × (Int × Unit)))) × (List Int)) (h : two_Check_1.g k ds = some r) : ∃ k', k' < k ∧ two_Check_1.R k' ([.code two_Check_1.body]) (two_Check_1.ti.fill ds) = some r := by
  cases k with
  | zero => cases (show none = some r from h)
  | succ k =>
  replace h : two_Check_1.c k ds = some r := h
  unfold two_Check_1.c at h
  obtain ⟨x0, d0, rfl, h0⟩ := pop_some h
  obtain ⟨x1, d1, rfl, h1⟩ := pop_some h0
  obtain ⟨x2, d2, rfl, h2⟩ := pop_some h1
  obtain ⟨x3, d3, rfl, h3⟩ := pop_some h2
  obtain ⟨x4, d4, rfl, h4⟩ := pop_some h3
  obtain ⟨rfl, g⟩ := popN_some h4
  exact ⟨k, Nat.lt_succ_self k, (two_Check_1.e k x0 x1 x2 x3 x4).symm.trans g⟩
theorem two_Check_1.o (ds : List Dat) (r : Bool × Int × Int × (List (List (Int × (Int × Unit)))) × (List Int)) (h : two_Check_1.out ds = some r) : ds = two_Check_1.rs r := by
  unfold two_Check_1.out at h
  obtain ⟨x0, d0, rfl, h0⟩ := pop_some h
  obtain ⟨x1, d1, rfl, h1⟩ := pop_some h0
  obtain ⟨x2, d2, rfl, h2⟩ := pop_some h1
  obtain ⟨x3, d3, rfl, h3⟩ := pop_some h2
  obtain ⟨x4, d4, rfl, h4⟩ := pop_some h3
  obtain ⟨rfl, g⟩ := popN_some h4
  cases g
  rfl
theorem two_Check_1.fn : FnOk Try.prog 165 Try.f165 two_Check_1.body Try.f165.ntmps 2 (fnRes Try.f165) :=
  fnOk_of (by kernel_rfl) (by kernel_rfl) (by kernel_rfl) (by kernel_rfl)
theorem two_Check_1.con' : ∀ k ds r, two_Check_1.g k ds = some r → Con Try.prog 165 2 two_Check_1.ti two_Check_1.to ds (two_Check_1.rs r) :=
  fun_ok (T := T) T_ok mixed two_Check_1.fn (env := two_Check_1.env) (tbl := two_Check_1.tbl) (gOut := two_Check_1.out) (nin := 1) (cuts := []) (fuel := 100000) rfl (by kernel_rfl) (by kernel_rfl) (by kernel_rfl) (fun x hx => by simp [two_Check_1.tbl] at hx) two_Check_1.o two_Check_1.h (fun k _ => by unfold two_Check_1.env; exact env0_ok)
theorem two_Check_1.con (k : Nat) {x0 : (List (Int × (Int × Unit)))} {x1 : Int} {x2 : Int} {x3 : (List (List (Int × (Int × Unit))))} {x4 : (List Int)} (r : Bool × Int × Int × (List (List (Int × (Int × Unit)))) × (List Int)) (h : two_Check_1.f k x0 x1 x2 x3 x4 = some r) : Con Try.prog 165 2 two_Check_1.ti two_Check_1.to [⟨(.slice (.pair (.int .i64) (.pair (.int .i64) .unit))), x0⟩, ⟨(.int .i64), x1⟩, ⟨(.int .i64), x2⟩, ⟨(.slice (.slice (.pair (.int .i64) (.pair (.int .i64) .unit)))), x3⟩, ⟨(.slice (.int .i64)), x4⟩] (two_Check_1.rs r) :=
  two_Check_1.con' (k + 1) _ r (by show two_Check_1.c k _ = some r; unfold two_Check_1.c; simp only [pop_self, popN]; exact h)
mutual
def slices_IndexFunc______2_int____2_int_.l2 : Nat → List (List ((Int × (Int × Unit)))) → Int → Int → Int → Int → List (List ((Int × (Int × Unit)))) → List (Int) → Option (Int × Int × Int × List (List (Int × Int × Unit)) × List Int)
 | 0, _, _, _, _, _, _, _ => none
 | k + 1, s0, x7, x8, c0_0, c0_1, c0_2, c0_3 =>
  if x8 < x7 then
   if 0 ≤ x8 then
   if x8 < (↑s0.length : Int) then
    (two_Check_1.f k (Go.Proofs.YtiiioobebeaafaaSx.rd [] s0 x8) c0_0 c0_1 c0_2 c0_3).bind fun r5 =>
      if r5.fst = true then
       some (x8, r5.snd.fst, r5.snd.snd.fst, r5.snd.snd.snd.fst, r5.snd.snd.snd.snd)
      else
       slices_IndexFunc______2_int____2_int_.l2 k s0 x7 (Go.IntKind.i64.wrap (x8 + 1)) r5.snd.fst r5.snd.snd.fst r5.snd.snd.snd.fst r5.snd.snd.snd.snd
    else none
   else none
  else
   some (-1, c0_0, c0_1, c0_2, c0_3)
end
def slices_IndexFunc______2_int____2_int_.f (k : Nat) (s0 : List (List ((Int × (Int × Unit))))) (c0_0 : Int) (c0_1 : Int) (c0_2 : List (List ((Int × (Int × Unit))))) (c0_3 : List (Int)) : Option (Int × Int × Int × List (List (Int × Int × Unit)) × List Int) :=
 slices_IndexFunc______2_int____2_int_.l2 k s0 ((↑s0.length : Int)) 0 c0_0 c0_1 c0_2 c0_3

noncomputable def slices_IndexFunc______2_int____2_int_.body : Code := fnBody Try.f181
def slices_IndexFunc______2_int____2_int_.ti : Tm := ⟨[(0, .p (.slice (.slice (.pair (.int .i64) (.pair (.int .i64) .unit))))), (1, .fn 165 [.ptr 0 0])], [.box [.p (.int .i64), .p (.int .i64), .p (.slice (.slice (.pair (.int .i64) (.pair (.int .i64) .unit)))), .p (.slice (.int .i64))] 76]⟩
def slices_IndexFunc______2_int____2_int_.to : Tm := ⟨[(0, .p (.int .i64))], [.box [.p (.int .i64), .p (.int .i64), .p (.slice (.slice (.pair (.int .i64) (.pair (.int .i64) .unit)))), .p (.slice (.int .i64))] 76]⟩
def slices_IndexFunc______2_int____2_int_.rs (r : Int × Int × Int × (List (List (Int × (Int × Unit)))) × (List Int)) : List Dat := [⟨(.int .i64), r.1⟩, ⟨(.int .i64), r.2.1⟩, ⟨(.int .i64), r.2.2.1⟩, ⟨(.slice (.slice (.pair (.int .i64) (.pair (.int .i64) .unit)))), r.2.2.2.1⟩, ⟨(.slice (.int .i64)), r.2.2.2.2⟩]
def slices_IndexFunc______2_int____2_int_.out (ds : List Dat) : Option (Int × Int × Int × (List (List (Int × (Int × Unit)))) × (List Int)) := pop (.int .i64) ds fun x0 ds => pop (.int .i64) ds fun x1 ds => pop (.int .i64) ds fun x2 ds => pop (.slice (.slice (.pair (.int .i64) (.pair (.int .i64) .unit)))) ds fun x3 ds => pop (.slice (.int .i64)) ds fun x4 ds => popN ds (some (x0, x1, x2, x3, x4))
def slices_IndexFunc______2_int____2_int_.c (k : Nat) (ds : List Dat) : Option (Int × Int × Int × (List (List (Int × (Int × Unit)))) × (List Int)) := pop (.slice (.slice (.pair (.int .i64) (.pair (.int .i64) .unit)))) ds fun x0 ds => pop (.int .i64) ds fun x1 ds => pop (.int .i64) ds fun x2 ds => pop (.slice (.slice (.pair (.int .i64) (.pair (.int .i64) .unit)))) ds fun x3 ds => pop (.slice (.int .i64)) ds fun x4 ds => popN ds (slices_IndexFunc______2_int____2_int_.f k x0 x1 x2 x3 x4)
def slices_IndexFunc______2_int____2_int_.g : Nat → List Dat → Option (Int × Int × Int × (List (List (Int × (Int × Unit)))) × (List Int))
 | 0, _ => none
 | k + 1, ds => slices_IndexFunc______2_int____2_int_.c k ds
def slices_IndexFunc______2_int____2_int_.env (k : Nat) : Nat → List SV → List Chunk → KT (Int × Int × Int × (List (List (Int × (Int × Unit)))) × (List Int)) → Option (Int × Int × Int × (List (List (Int × (Int × Unit)))) × (List Int)) := (envC 165 2 two_Check_1.ti two_Check_1.to (fun ds K => pop (.slice (.pair (.int .i64) (.pair (.int .i64) .unit))) ds fun x0 ds => pop (.int .i64) ds fun x1 ds => pop (.int .i64) ds fun x2 ds => pop (.slice (.slice (.pair (.int .i64) (.pair (.int .i64) .unit)))) ds fun x3 ds => pop (.slice (.int .i64)) ds fun x4 ds => popN ds ((two_Check_1.f k x0 x1 x2 x3 x4).bind fun r => K (two_Check_1.rs r))) env0)
def slices_IndexFunc______2_int____2_int_.t5 : Tm := ⟨[(0, .p (.slice (.slice (.pair (.int .i64) (.pair (.int .i64) .unit))))), (1, .fn 165 [.ptr 0 0]), (7, .p (.int .i64)), (8, .p (.int .i64))], [.box [.p (.int .i64), .p (.int .i64), .p (.slice (.slice (.pair (.int .i64) (.pair (.int .i64) .unit)))), .p (.slice (.int .i64))] 76]⟩
def slices_IndexFunc______2_int____2_int_.c5 (k : Nat) (ds : List Dat) : Option (Int × Int × Int × (List (List (Int × (Int × Unit)))) × (List Int)) := pop (.slice (.slice (.pair (.int .i64) (.pair (.int .i64) .unit)))) ds fun x0 ds => pop (.int .i64) ds fun x1 ds => pop (.int .i64) ds fun x2 ds => pop (.int .i64) ds fun x3 ds => pop (.int .i64) ds fun x4 ds => pop (.slice (.slice (.pair (.int .i64) (.pair (.int .i64) .unit)))) ds fun x5 ds => pop (.slice (.int .i64)) ds fun x6 ds => popN ds (slices_IndexFunc______2_int____2_int_.l2 k x0 x1 x2 x3 x4 x5 x6)
def slices_IndexFunc______2_int____2_int_.tbl : List (Nat × Tm × (Nat → List Dat → Option (Int × Int × Int × (List (List (Int × (Int × Unit)))) × (List Int)))) := [(5, slices_IndexFunc______2_int____2_int_.t5, slices_IndexFunc______2_int____2_int_.c5)]
noncomputable abbrev slices_IndexFunc______2_int____2_int_.R (k : Nat) := run T (slices_IndexFunc______2_int____2_int_.env k) Try.f181.ntmps (cutE 1 slices_IndexFunc______2_int____2_int_.tbl k) (finE 1 slices_IndexFunc______2_int____2_int_.to slices_IndexFunc______2_int____2_int_.out) (fnRes Try.f181) [] 100000 true
theorem slices_IndexFunc______2_int____2_int_.e5 (k : Nat) (x0 : (List (List (Int × (Int × Unit))))) (x1 : Int) (x2 : Int) (x3 : Int) (x4 : Int) (x5 : (List (List (Int × (Int × Unit))))) (x6 : (List Int)) : slices_IndexFunc______2_int____2_int_.l2 (k + 1) x0 x1 x2 x3 x4 x5 x6 = slices_IndexFunc______2_int____2_int_.R k (start (stackOf 5 slices_IndexFunc______2_int____2_int_.body)) (slices_IndexFunc______2_int____2_int_.t5.fill [⟨(.slice (.slice (.pair (.int .i64) (.pair (.int .i64) .unit)))), x0⟩, ⟨(.int .i64), x1⟩, ⟨(.int .i64), x2⟩, ⟨(.int .i64), x3⟩, ⟨(.int .i64), x4⟩, ⟨(.slice (.slice (.pair (.int .i64) (.pair (.int .i64) .unit)))), x5⟩, ⟨(.slice (.int .i64)), x6⟩]) := by kernel_rfl
theorem slices_IndexFunc______2_int____2_int_.s5 : stackAt 5 slices_IndexFunc______2_int____2_int_.body [] = some (stackOf 5 slices_IndexFunc______2_int____2_int_.body) := by kernel_rfl
theorem slices_IndexFunc______2_int____2_int_.h5 (k : Nat) (ds : List Dat) (r : Int × Int × Int × (List (List (Int × (Int × Unit)))) × (List Int)) (h : slices_IndexFunc______2_int____2_int_.c5 k ds = some r) : ∃ k', k' < k ∧ ∃ s, stackAt 5 slices_IndexFunc______2_int____2_int_.body [] = some s ∧ slices_IndexFunc______2_int____2_int_.R k' (start s) (slices_IndexFunc______2_int____2_int_.t5.fill ds) = some r := by
  unfold slices_IndexFunc______2_int____2_int_.c5 at h
  obtain ⟨x0, d0, rfl, h0⟩ := pop_some h
  obtain ⟨x1, d1, rfl, h1⟩ := pop_some h0
  obtain ⟨x2, d2, rfl, h2⟩ := pop_some h1
  obtain ⟨x3, d3, rfl, h3⟩ := pop_some h2
  obtain ⟨x4, d4, rfl, h4⟩ := pop_some h3
  obtain ⟨x5, d5, rfl, h5⟩ := pop_some h4
  obtain ⟨x6, d6, rfl, h6⟩ := pop_some h5
  obtain ⟨rfl, g⟩ := popN_some h6
  cases k with
  | zero => cases (show none = some r from g)
  | succ k => exact ⟨k, Nat.lt_succ_self k, _, slices_IndexFunc______2_int____2_int_.s5, (slices_IndexFunc______2_int____2_int_.e5 k x0 x1 x2 x3 x4 x5 x6).symm.trans g⟩
theorem slices_IndexFunc______2_int____2_int_.e (k : Nat) (x0 : (List (List (Int × (Int × Unit))))) (x1 : Int) (x2 : Int) (x3 : (List (List (Int × (Int × Unit))))) (x4 : (List Int)) : slices_IndexFunc______2_int____2_int_.f k x0 x1 x2 x3 x4 = slices_IndexFunc______2_int____2_int_.R k ([.code slices_IndexFunc______2_int____2_int_.body]) (slices_IndexFunc______2_int____2_int_.ti.fill [⟨(.slice (.slice (.pair (.int .i64) (.pair (.int .i64) .unit)))), x0⟩, ⟨(.int .i64), x1⟩, ⟨(.int .i64), x2⟩, ⟨(.slice (.slice (.pair (.int .i64) (.pair (.int .i64) .unit)))), x3⟩, ⟨(.slice (.int .i64)), x4⟩]) := by kernel_rfl
theorem slices_IndexFunc______2_int____2_int_.h (k : Nat) (ds : List Dat) (r : Int × Int × Int × (List (List (Int × (Int × Unit)))) × (List Int)) (h : slices_IndexFunc______2_int____2_int_.g k ds = some r) : ∃ k', k' < k ∧ slices_IndexFunc______2_int____2_int_.R k' ([.code slices_IndexFunc______2_int____2_int_.body]) (slices_IndexFunc______2_int____2_int_.ti.fill ds) = some r := by
  cases k with
  | zero => cases (show none = some r from h)
  | succ k =>
  replace h : slices_IndexFunc______2_int____2_int_.c k ds = some r := h
  unfold slices_IndexFunc______2_int____2_int_.c at h
  obtain ⟨x0, d0, rfl, h0⟩ := pop_some h
  obtain ⟨x1, d1, rfl, h1⟩ := pop_some h0
  obtain ⟨x2, d2, rfl, h2⟩ := pop_some h1
  obtain ⟨x3, d3, rfl, h3⟩ := pop_some h2
  obtain ⟨x4, d4, rfl, h4⟩ := pop_some h3
  obtain ⟨rfl, g⟩ := popN_some h4
  exact ⟨k, Nat.lt_succ_self k, (slices_IndexFunc______2_int____2_int_.e k x0 x1 x2 x3 x4).symm.trans g⟩
theorem slices_IndexFunc______2_int____2_int_.o (ds : List Dat) (r : Int × Int × Int × (List (List (Int × (Int × Unit)))) × (List Int)) (h : slices_IndexFunc______2_int____2_int_.out ds = some r) : ds = slices_IndexFunc______2_int____2_int_.rs r := by
  unfold slices_IndexFunc______2_int____2_int_.out at h
  obtain ⟨x0, d0, rfl, h0⟩ := pop_some h
  obtain ⟨x1, d1, rfl, h1⟩ := pop_some h0
  obtain ⟨x2, d2, rfl, h2⟩ := pop_some h1
  obtain ⟨x3, d3, rfl, h3⟩ := pop_some h2
  obtain ⟨x4, d4, rfl, h4⟩ := pop_some h3
  obtain ⟨rfl, g⟩ := popN_some h4
  cases g
  rfl
theorem slices_IndexFunc______2_int____2_int_.fn : FnOk Try.prog 181 Try.f181 slices_IndexFunc______2_int____2_int_.body Try.f181.ntmps 2 (fnRes Try.f181) :=
  fnOk_of (by kernel_rfl) (by kernel_rfl) (by kernel_rfl) (by kernel_rfl)
theorem slices_IndexFunc______2_int____2_int_.con' : ∀ k ds r, slices_IndexFunc______2_int____2_int_.g k ds = some r → Con Try.prog 181 2 slices_IndexFunc______2_int____2_int_.ti slices_IndexFunc______2_int____2_int_.to ds (slices_IndexFunc______2_int____2_int_.rs r) :=
  fun_ok (T := T) T_ok mixed slices_IndexFunc______2_int____2_int_.fn (env := slices_IndexFunc______2_int____2_int_.env) (tbl := slices_IndexFunc______2_int____2_int_.tbl) (gOut := slices_IndexFunc______2_int____2_int_.out) (nin := 1) (cuts := []) (fuel := 100000) rfl (by kernel_rfl) (by kernel_rfl) (by kernel_rfl) (fun x hx => by
    simp only [slices_IndexFunc______2_int____2_int_.tbl, List.mem_cons, List.not_mem_nil, or_false] at hx
    subst hx
    · exact slices_IndexFunc______2_int____2_int_.h5
) slices_IndexFunc______2_int____2_int_.o slices_IndexFunc______2_int____2_int_.h (fun k _ => by unfold slices_IndexFunc______2_int____2_int_.env; exact (envC_ok (fun ds K r h => by
    obtain ⟨x0, d0, rfl, h0⟩ := pop_some h
    obtain ⟨x1, d1, rfl, h1⟩ := pop_some h0
    obtain ⟨x2, d2, rfl, h2⟩ := pop_some h1
    obtain ⟨x3, d3, rfl, h3⟩ := pop_some h2
    obtain ⟨x4, d4, rfl, h4⟩ := pop_some h3
    obtain ⟨rfl, g⟩ := popN_some h4
    obtain ⟨r1, h1, h2⟩ := bind_some g
    exact ⟨_, h2, two_Check_1.con k _ h1⟩) env0_ok))
theorem slices_IndexFunc______2_int____2_int_.con (k : Nat) {x0 : (List (List (Int × (Int × Unit))))} {x1 : Int} {x2 : Int} {x3 : (List (List (Int × (Int × Unit))))} {x4 : (List Int)} (r : Int × Int × Int × (List (List (Int × (Int × Unit)))) × (List Int)) (h : slices_IndexFunc______2_int____2_int_.f k x0 x1 x2 x3 x4 = some r) : Con Try.prog 181 2 slices_IndexFunc______2_int____2_int_.ti slices_IndexFunc______2_int____2_int_.to [⟨(.slice (.slice (.pair (.int .i64) (.pair (.int .i64) .unit)))), x0⟩, ⟨(.int .i64), x1⟩, ⟨(.int .i64), x2⟩, ⟨(.slice (.slice (.pair (.int .i64) (.pair (.int .i64) .unit)))), x3⟩, ⟨(.slice (.int .i64)), x4⟩] (slices_IndexFunc______2_int____2_int_.rs r) :=
  slices_IndexFunc______2_int____2_int_.con' (k + 1) _ r (by show slices_IndexFunc______2_int____2_int_.c k _ = some r; unfold slices_IndexFunc______2_int____2_int_.c; simp only [pop_self, popN]; exact h)
def slices_ContainsFunc______2_int____2_int_.f (k : Nat) (s0 : List (List ((Int × (Int × Unit))))) (c0_0 : Int) (c0_1 : Int) (c0_2 : List (List ((Int × (Int × Unit))))) (c0_3 : List (Int)) : Option (Bool × Int × Int × List (List (Int × Int × Unit)) × List Int) :=
 (slices_IndexFunc______2_int____2_int_.f k s0 c0_0 c0_1 c0_2 c0_3).bind fun r1 =>
  some (decide (0 ≤ r1.fst), r1.snd.fst, r1.snd.snd.fst, r1.snd.snd.snd.fst, r1.snd.snd.snd.snd)

noncomputable def slices_ContainsFunc______2_int____2_int_.body : Code := fnBody Try.f164
def slices_ContainsFunc______2_int____2_int_.ti : Tm := ⟨[(0, .p (.slice (.slice (.pair (.int .i64) (.pair (.int .i64) .unit))))), (1, .fn 165 [.ptr 0 0])], [.box [.p (.int .i64), .p (.int .i64), .p (.slice (.slice (.pair (.int .i64) (.pair (.int .i64) .unit)))), .p (.slice (.int .i64))] 76]⟩
def slices_ContainsFunc______2_int____2_int_.to : Tm := ⟨[(0, .p .bool)], [.box [.p (.int .i64), .p (.int .i64), .p (.slice (.slice (.pair (.int .i64) (.pair (.int .i64) .unit)))), .p (.slice (.int .i64))] 76]⟩
def slices_ContainsFunc______2_int____2_int_.rs (r : Bool × Int × Int × (List (List (Int × (Int × Unit)))) × (List Int)) : List Dat := [⟨.bool, r.1⟩, ⟨(.int .i64), r.2.1⟩, ⟨(.int .i64), r.2.2.1⟩, ⟨(.slice (.slice (.pair (.int .i64) (.pair (.int .i64) .unit)))), r.2.2.2.1⟩, ⟨(.slice (.int .i64)), r.2.2.2.2⟩]
def slices_ContainsFunc______2_int____2_int_.out (ds : List Dat) : Option (Bool × Int × Int × (List (List (Int × (Int × Unit)))) × (List Int)) := pop .bool ds fun x0 ds => pop (.int .i64) ds fun x1 ds => pop (.int .i64) ds fun x2 ds => pop (.slice (.slice (.pair (.int .i64) (.pair (.int .i64) .unit)))) ds fun x3 ds => pop (.slice (.int .i64)) ds fun x4 ds => popN ds (some (x0, x1, x2, x3, x4))
def slices_ContainsFunc______2_int____2_int_.c (k : Nat) (ds : List Dat) : Option (Bool × Int × Int × (List (List (Int × (Int × Unit)))) × (List Int)) := pop (.slice (.slice (.pair (.int .i64) (.pair (.int .i64) .unit)))) ds fun x0 ds => pop (.int .i64) ds fun x1 ds => pop (.int .i64) ds fun x2 ds => pop (.slice (.slice (.pair (.int .i64) (.pair (.int .i64) .unit)))) ds fun x3 ds => pop (.slice (.int .i64)) ds fun x4 ds => popN ds (slices_ContainsFunc______2_int____2_int_.f k x0 x1 x2 x3 x4)
def slices_ContainsFunc______2_int____2_int_.g : Nat → List Dat → Option (Bool × Int × Int × (List (List (Int × (Int × Unit)))) × (List Int))
 | 0, _ => none
 | k + 1, ds => slices_ContainsFunc______2_int____2_int_.c k ds
def slices_ContainsFunc______2_int____2_int_.env (k : Nat) : Nat → List SV → List Chunk → KT (Bool × Int × Int × (List (List (Int × (Int × Unit)))) × (List Int)) → Option (Bool × Int × Int × (List (List (Int × (Int × Unit)))) × (List Int)) := (envC 181 2 slices_IndexFunc______2_int____2_int_.ti slices_IndexFunc______2_int____2_int_.to (fun ds K => pop (.slice (.slice (.pair (.int .i64) (.pair (.int .i64) .unit)))) ds fun x0 ds => pop (.int .i64) ds fun x1 ds => pop (.int .i64) ds fun x2 ds => pop (.slice (.slice (.pair (.int .i64) (.pair (.int .i64) .unit)))) ds fun x3 ds => pop (.slice (.int .i64)) ds fun x4 ds => popN ds ((slices_IndexFunc______2_int____2_int_.f k x0 x1 x2 x3 x4).bind fun r => K (slices_IndexFunc______2_int____2_int_.rs r))) env0)
def slices_ContainsFunc______2_int____2_int_.tbl : List (Nat × Tm × (Nat → List Dat → Option (Bool × Int × Int × (List (List (Int × (Int × Unit)))) × (List Int)))) := []
noncomputable abbrev slices_ContainsFunc______2_int____2_int_.R (k : Nat) := run T (slices_ContainsFunc______2_int____2_int_.env k) Try.f164.ntmps (cutE 1 slices_ContainsFunc______2_int____2_int_.tbl k) (finE 1 slices_ContainsFunc______2_int____2_int_.to slices_ContainsFunc______2_int____2_int_.out) (fnRes Try.f164) [] 100000 true
theorem slices_ContainsFunc______2_int____2_int_.e (k : Nat) (x0 : (List (List (Int × (Int × Unit))))) (x1 : Int) (x2 : Int) (x3 : (List (List (Int × (Int × Unit))))) (x4 : (List Int)) : slices_ContainsFunc______2_int____2_int_.f k x0 x1 x2 x3 x4 = slices_ContainsFunc______2_int____2_int_.R k ([.code slices_ContainsFunc______2_int____2_int_.body]) (slices_ContainsFunc______2_int____2_int_.ti.fill [⟨(.slice (.slice (.pair (.int .i64) (.pair (.int .i64) .unit)))), x0⟩, ⟨(.int .i64), x1⟩, ⟨(.int .i64), x2⟩, ⟨(.slice (.slice (.pair (.int .i64) (.pair (.int .i64) .unit)))), x3⟩, ⟨(.slice (.int .i64)), x4⟩]) := by kernel_rfl
theorem slices_ContainsFunc______2_int____2_int_.h (k : Nat) (ds : List Dat) (r : Bool × Int × Int × (List (List (Int × (Int × Unit)))) × (List Int)) (h : slices_ContainsFunc______2_int____2_int_.g k ds = some r) : ∃ k', k' < k ∧ slices_ContainsFunc______2_int____2_int_.R k' ([.code slices_ContainsFunc______2_int____2_int_.body]) (slices_ContainsFunc______2_int____2_int_.ti.fill ds) = some r := by
  cases k with
  | zero => cases (show none = some r from h)
  | succ k =>
  replace h : slices_ContainsFunc______2_int____2_int_.c k ds = some r := h
  unfold slices_ContainsFunc______2_int____2_int_.c at h
  obtain ⟨x0, d0, rfl, h0⟩ := pop_some h
  obtain ⟨x1, d1, rfl, h1⟩ := pop_some h0
  obtain ⟨x2, d2, rfl, h2⟩ := pop_some h1
  obtain ⟨x3, d3, rfl, h3⟩ := pop_some h2
  obtain ⟨x4, d4, rfl, h4⟩ := pop_some h3
  obtain ⟨rfl, g⟩ := popN_some h4
  exact ⟨k, Nat.lt_succ_self k, (slices_ContainsFunc______2_int____2_int_.e k x0 x1 x2 x3 x4).symm.trans g⟩
theorem slices_ContainsFunc______2_int____2_int_.o (ds : List Dat) (r : Bool × Int × Int × (List (List (Int × (Int × Unit)))) × (List Int)) (h : slices_ContainsFunc______2_int____2_int_.out ds = some r) : ds = slices_ContainsFunc______2_int____2_int_.rs r := by
  unfold slices_ContainsFunc______2_int____2_int_.out at h
  obtain ⟨x0, d0, rfl, h0⟩ := pop_some h
  obtain ⟨x1, d1, rfl, h1⟩ := pop_some h0
  obtain ⟨x2, d2, rfl, h2⟩ := pop_some h1
  obtain ⟨x3, d3, rfl, h3⟩ := pop_some h2
  obtain ⟨x4, d4, rfl, h4⟩ := pop_some h3
  obtain ⟨rfl, g⟩ := popN_some h4
  cases g
  rfl
theorem slices_ContainsFunc______2_int____2_int_.fn : FnOk Try.prog 164 Try.f164 slices_ContainsFunc______2_int____2_int_.body Try.f164.ntmps 2 (fnRes Try.f164) :=
  fnOk_of (by kernel_rfl) (by kernel_rfl) (by kernel_rfl) (by kernel_rfl)
theorem slices_ContainsFunc______2_int____2_int_.con' : ∀ k ds r, slices_ContainsFunc______2_int____2_int_.g k ds = some r → Con Try.prog 164 2 slices_ContainsFunc______2_int____2_int_.ti slices_ContainsFunc______2_int____2_int_.to ds (slices_ContainsFunc______2_int____2_int_.rs r) :=
  fun_ok (T := T) T_ok mixed slices_ContainsFunc______2_int____2_int_.fn (env := slices_ContainsFunc______2_int____2_int_.env) (tbl := slices_ContainsFunc______2_int____2_int_.tbl) (gOut := slices_ContainsFunc______2_int____2_int_.out) (nin := 1) (cuts := []) (fuel := 100000) rfl (by kernel_rfl) (by kernel_rfl) (by kernel_rfl) (fun x hx => by simp [slices_ContainsFunc______2_int____2_int_.tbl] at hx) slices_ContainsFunc______2_int____2_int_.o slices_ContainsFunc______2_int____2_int_.h (fun k _ => by unfold slices_ContainsFunc______2_int____2_int_.env; exact (envC_ok (fun ds K r h => by
    obtain ⟨x0, d0, rfl, h0⟩ := pop_some h
    obtain ⟨x1, d1, rfl, h1⟩ := pop_some h0
    obtain ⟨x2, d2, rfl, h2⟩ := pop_some h1
    obtain ⟨x3, d3, rfl, h3⟩ := pop_some h2
    obtain ⟨x4, d4, rfl, h4⟩ := pop_some h3
    obtain ⟨rfl, g⟩ := popN_some h4
    obtain ⟨r1, h1, h2⟩ := bind_some g
    exact ⟨_, h2, slices_IndexFunc______2_int____2_int_.con k _ h1⟩) env0_ok))
theorem slices_ContainsFunc______2_int____2_int_.con (k : Nat) {x0 : (List (List (Int × (Int × Unit))))} {x1 : Int} {x2 : Int} {x3 : (List (List (Int × (Int × Unit))))} {x4 : (List Int)} (r : Bool × Int × Int × (List (List (Int × (Int × Unit)))) × (List Int)) (h : slices_ContainsFunc______2_int____2_int_.f k x0 x1 x2 x3 x4 = some r) : Con Try.prog 164 2 slices_ContainsFunc______2_int____2_int_.ti slices_ContainsFunc______2_int____2_int_.to [⟨(.slice (.slice (.pair (.int .i64) (.pair (.int .i64) .unit)))), x0⟩, ⟨(.int .i64), x1⟩, ⟨(.int .i64), x2⟩, ⟨(.slice (.slice (.pair (.int .i64) (.pair (.int .i64) .unit)))), x3⟩, ⟨(.slice (.int .i64)), x4⟩] (slices_ContainsFunc______2_int____2_int_.rs r) :=
  slices_ContainsFunc______2_int____2_int_.con' (k + 1) _ r (by show slices_ContainsFunc______2_int____2_int_.c k _ = some r; unfold slices_ContainsFunc______2_int____2_int_.c; simp only [pop_self, popN]; exact h)
def two_Check_2.f (k : Nat) (q0 : Int) (x1_0 : Int) : Option (Bool × Int) :=
 if q0 < 0 then
  some (true, x1_0)
 else
  some (decide (x1_0 ≤ q0), x1_0)

noncomputable def two_Check_2.body : Code := fnBody Try.f166
def two_Check_2.ti : Tm := ⟨[(0, .p (.int .i64)), (1, .ptr 0 0)], [.box [.p (.int .i64)] 3]⟩
def two_Check_2.to : Tm := ⟨[(0, .p .bool)], [.box [.p (.int .i64)] 3]⟩
def two_Check_2.rs (r : Bool × Int) : List Dat := [⟨.bool, r.1⟩, ⟨(.int .i64), r.2⟩]
def two_Check_2.out (ds : List Dat) : Option (Bool × Int) := pop .bool ds fun x0 ds => pop (.int .i64) ds fun x1 ds => popN ds (some (x0, x1))
def two_Check_2.c (k : Nat) (ds : List Dat) : Option (Bool × Int) := pop (.int .i64) ds fun x0 ds => pop (.int .i64) ds fun x1 ds => popN ds (two_Check_2.f k x0 x1)
def two_Check_2.g : Nat → List Dat → Option (Bool × Int)
 | 0, _ => none
 | k + 1, ds => two_Check_2.c k ds
def two_Check_2.env (k : Nat) : Nat → List SV → List Chunk → KT (Bool × Int) → Option (Bool × Int) := env0
def two_Check_2.tbl : List (Nat × Tm × (Nat → List Dat → Option (Bool × Int))) := []
noncomputable abbrev two_Check_2.R (k : Nat) := run T (two_Check_2.env k) Try.f166.ntmps (cutE 1 two_Check_2.tbl k) (finE 1 two_Check_2.to two_Check_2.out) (fnRes Try.f166) [] 100000 true
theorem two_Check_2.e (k : Nat) (x0 : Int) (x1 : Int) : two_Check_2.f k x0 x1 = two_Check_2.R k ([.code two_Check_2.body]) (two_Check_2.ti.fill [⟨(.int .i64), x0⟩, ⟨(.int .i64), x1⟩]) := by kernel_rfl
theorem two_Check_2.h (k : Nat) (ds : List Dat) (r : Bool × Int) (h : two_Check_2.g k ds = some r) : ∃ k', k' < k ∧ two_Check_2.R k' ([.code two_Check_2.body]) (two_Check_2.ti.fill ds) = some r := by
  cases k with
  | zero => cases (show none = some r from h)
  | succ k =>
  replace h : two_Check_2.c k ds = some r := h
  unfold two_Check_2.c at h
  obtain ⟨x0, d0, rfl, h0⟩ := pop_some h
  obtain ⟨x1, d1, rfl, h1⟩ := pop_some h0
  obtain ⟨rfl, g⟩ := popN_some h1
  exact ⟨k, Nat.lt_succ_self k, (two_Check_2.e k x0 x1).symm.trans g⟩
theorem two_Check_2.o (ds : List Dat) (r : Bool × Int) (h : two_Check_2.out ds = some r) : ds = two_Check_2.rs r := by
  unfold two_Check_2.out at h
  obtain ⟨x0, d0, rfl, h0⟩ := pop_some h
  obtain ⟨x1, d1, rfl, h1⟩ := pop_some h0
  obtain ⟨rfl, g⟩ := popN_some h1
  cases g
  rfl
theorem two_Check_2.fn : FnOk Try.prog 166 Try.f166 two_Check_2.body Try.f166.ntmps 2 (fnRes Try.f166) :=
  fnOk_of (by kernel_rfl) (by kernel_rfl) (by kernel_rfl) (by kernel_rfl)
theorem two_Check_2.con' : ∀ k ds r, two_Check_2.g k ds = some r → Con Try.prog 166 2 two_Check_2.ti two_Check_2.to ds (two_Check_2.rs r) :=
  fun_ok (T := T) T_ok mixed two_Check_2.fn (env := two_Check_2.env) (tbl := two_Check_2.tbl) (gOut := two_Check_2.out) (nin := 1) (cuts := []) (fuel := 100000) rfl (by kernel_rfl) (by kernel_rfl) (by kernel_rfl) (fun x hx => by simp [two_Check_2.tbl] at hx) two_Check_2.o two_Check_2.h (fun k _ => by unfold two_Check_2.env; exact env0_ok)
theorem two_Check_2.con (k : Nat) {x0 : Int} {x1 : Int} (r : Bool × Int) (h : two_Check_2.f k x0 x1 = some r) : Con Try.prog 166 2 two_Check_2.ti two_Check_2.to [⟨(.int .i64), x0⟩, ⟨(.int .i64), x1⟩] (two_Check_2.rs r) :=
  two_Check_2.con' (k + 1) _ r (by show two_Check_2.c k _ = some r; unfold two_Check_2.c; simp only [pop_self, popN]; exact h)
def two_Check_3_1.f (k : Nat) (x0 : (Int × (Int × Unit))) (c1_0 : Int) : Option (Bool × Int) :=
 (two_Check_2.f k x0.fst c1_0).bind fun r1 =>
  if r1.fst = true then
   some (true, r1.snd)
  else
   if x0.snd.fst = 1 then
    some (false, r1.snd)
   else
    some (!decide (x0.snd.fst = -1), r1.snd)

noncomputable def two_Check_3_1.body : Code := fnBody Try.f169
def two_Check_3_1.ti : Tm := ⟨[(0, .p (.pair (.int .i64) (.pair (.int .i64) .unit))), (1, .ptr 0 0)], [.box [.fn 166 [.ptr 1 0]] 113, .box [.p (.int .i64)] 3]⟩
def two_Check_3_1.to : Tm := ⟨[(0, .p .bool)], [.box [.fn 166 [.ptr 1 0]] 113, .box [.p (.int .i64)] 3]⟩
def two_Check_3_1.rs (r : Bool × Int) : List Dat := [⟨.bool, r.1⟩, ⟨(.int .i64), r.2⟩]
def two_Check_3_1.out (ds : List Dat) : Option (Bool × Int) := pop .bool ds fun x0 ds => pop (.int .i64) ds fun x1 ds => popN ds (some (x0, x1))
def two_Check_3_1.c (k : Nat) (ds : List Dat) : Option (Bool × Int) := pop (.pair (.int .i64) (.pair (.int .i64) .unit)) ds fun x0 ds => pop (.int .i64) ds fun x1 ds => popN ds (two_Check_3_1.f k x0 x1)
def two_Check_3_1.g : Nat → List Dat → Option (Bool × Int)
 | 0, _ => none
 | k + 1, ds => two_Check_3_1.c k ds
def two_Check_3_1.env (k : Nat) : Nat → List SV → List Chunk → KT (Bool × Int) → Option (Bool × Int) := (envC 166 2 two_Check_2.ti two_Check_2.to (fun ds K => pop (.int .i64) ds fun x0 ds => pop (.int .i64) ds fun x1 ds => popN ds ((two_Check_2.f k x0 x1).bind fun r => K (two_Check_2.rs r))) env0)
def two_Check_3_1.tbl : List (Nat × Tm × (Nat → List Dat → Option (Bool × Int))) := []
noncomputable abbrev two_Check_3_1.R (k : Nat) := run T (two_Check_3_1.env k) Try.f169.ntmps (cutE 2 two_Check_3_1.tbl k) (finE 2 two_Check_3_1.to two_Check_3_1.out) (fnRes Try.f169) [] 100000 true
theorem two_Check_3_1.e (k : Nat) (x0 : (Int × (Int × Unit))) (x1 : Int) : two_Check_3_1.f k x0 x1 = two_Check_3_1.R k ([.code two_Check_3_1.body]) (two_Check_3_1.ti.fill [⟨(.pair (.int .i64) (.pair (.int .i64) .unit)), x0⟩, ⟨(.int .i64), x1⟩]) := by kernel_rfl
theorem two_Check_3_1.h (k : Nat) (ds : List Dat) (r : Bool × Int) (h : two_Check_3_1.g k ds = some r) : ∃ k', k' < k ∧ two_Check_3_1.R k' ([.code two_Check_3_1.body]) (two_Check_3_1.ti.fill ds) = some r := by
  cases k with
  | zero => cases (show none = some r from h)
  | succ k =>
  replace h : two_Check_3_1.c k ds = some r := h
  unfold two_Check_3_1.c at h
  obtain ⟨x0, d0, rfl, h0⟩ := pop_some h
  obtain ⟨x1, d1, rfl, h1⟩ := pop_some h0
  obtain ⟨rfl, g⟩ := popN_some h1
  exact ⟨k, Nat.lt_succ_self k, (two_Check_3_1.e k x0 x1).symm.trans g⟩
theorem two_Check_3_1.o (ds : List Dat) (r : Bool × Int) (h : two_Check_3_1.out ds = some r) : ds = two_Check_3_1.rs r := by
  unfold two_Check_3_1.out at h
  obtain ⟨x0, d0, rfl, h0⟩ := pop_some h
  obtain ⟨x1, d1, rfl, h1⟩ := pop_some h0
  obtain ⟨rfl, g⟩ := popN_some h1
  cases g
  rfl
theorem two_Check_3_1.fn : FnOk Try.prog 169 Try.f169 two_Check_3_1.body Try.f169.ntmps 2 (fnRes Try.f169) :=
  fnOk_of (by kernel_rfl) (by kernel_rfl) (by kernel_rfl) (by kernel_rfl)
theorem two_Check_3_1.con' : ∀ k ds r, two_Check_3_1.g k ds = some r → Con Try.prog 169 2 two_Check_3_1.ti two_Check_3_1.to ds (two_Check_3_1.rs r) :=
  fun_ok (T := T) T_ok mixed two_Check_3_1.fn (env := two_Check_3_1.env) (tbl := two_Check_3_1.tbl) (gOut := two_Check_3_1.out) (nin := 2) (cuts := []) (fuel := 100000) rfl (by kernel_rfl) (by kernel_rfl) (by kernel_rfl) (fun x hx => by simp [two_Check_3_1.tbl] at hx) two_Check_3_1.o two_Check_3_1.h (fun k _ => by unfold two_Check_3_1.env; exact (envC_ok (fun ds K r h => by
    obtain ⟨x0, d0, rfl, h0⟩ := pop_some h
    obtain ⟨x1, d1, rfl, h1⟩ := pop_some h0
    obtain ⟨rfl, g⟩ := popN_some h1
    obtain ⟨r1, h1, h2⟩ := bind_some g
    exact ⟨_, h2, two_Check_2.con k _ h1⟩) env0_ok))
theorem two_Check_3_1.con (k : Nat) {x0 : (Int × (Int × Unit))} {x1 : Int} (r : Bool × Int) (h : two_Check_3_1.f k x0 x1 = some r) : Con Try.prog 169 2 two_Check_3_1.ti two_Check_3_1.to [⟨(.pair (.int .i64) (.pair (.int .i64) .unit)), x0⟩, ⟨(.int .i64), x1⟩] (two_Check_3_1.rs r) :=
  two_Check_3_1.con' (k + 1) _ r (by show two_Check_3_1.c k _ = some r; unfold two_Check_3_1.c; simp only [pop_self, popN]; exact h)
mutual
def slices_IndexFunc____2_int__2_int_.l2 : Nat → List ((Int × (Int × Unit))) → Int → Int → Int → Option (Int × Int)
 | 0, _, _, _, _ => none
 | k + 1, s0, x7, x8, c1_0 =>
  if x8 < x7 then
   if 0 ≤ x8 then
   if x8 < (↑s0.length : Int) then
    (two_Check_3_1.f k (Go.Proofs.YtiiioobebeaafaaSx.rd (Int.ofNat 0, Int.ofNat 0, ()) s0 x8) c1_0).bind fun r5 =>
      if r5.fst = true then
       some (x8, r5.snd)
      else
       slices_IndexFunc____2_int__2_int_.l2 k s0 x7 (Go.IntKind.i64.wrap (x8 + 1)) r5.snd
    else none
   else none
  else
   some (-1, c1_0)
end
def slices_IndexFunc____2_int__2_int_.f (k : Nat) (s0 : List ((Int × (Int × Unit)))) (c1_0 : Int) : Option (Int × Int) :=
 slices_IndexFunc____2_int__2_int_.l2 k s0 ((↑s0.length : Int)) 0 c1_0

noncomputable def slices_IndexFunc____2_int__2_int_.body : Code := fnBody Try.f182
def slices_IndexFunc____2_int__2_int_.ti : Tm := ⟨[(0, .p (.slice (.pair (.int .i64) (.pair (.int .i64) .unit)))), (1, .fn 169 [.ptr 0 0])], [.box [.fn 166 [.ptr 1 0]] 113, .box [.p (.int .i64)] 3]⟩
def slices_IndexFunc____2_int__2_int_.to : Tm := ⟨[(0, .p (.int .i64))], [.box [.fn 166 [.ptr 1 0]] 113, .box [.p (.int .i64)] 3]⟩
def slices_IndexFunc____2_int__2_int_.rs (r : Int × Int) : List Dat := [⟨(.int .i64), r.1⟩, ⟨(.int .i64), r.2⟩]
def slices_IndexFunc____2_int__2_int_.out (ds : List Dat) : Option (Int × Int) := pop (.int .i64) ds fun x0 ds => pop (.int .i64) ds fun x1 ds => popN ds (some (x0, x1))
def slices_IndexFunc____2_int__2_int_.c (k : Nat) (ds : List Dat) : Option (Int × Int) := pop (.slice (.pair (.int .i64) (.pair (.int .i64) .unit))) ds fun x0 ds => pop (.int .i64) ds fun x1 ds => popN ds (slices_IndexFunc____2_int__2_int_.f k x0 x1)
def slices_IndexFunc____2_int__2_int_.g : Nat → List Dat → Option (Int × Int)
 | 0, _ => none
 | k + 1, ds => slices_IndexFunc____2_int__2_int_.c k ds
def slices_IndexFunc____2_int__2_int_.env (k : Nat) : Nat → List SV → List Chunk → KT (Int × Int) → Option (Int × Int) := (envC 169 2 two_Check_3_1.ti two_Check_3_1.to (fun ds K => pop (.pair (.int .i64) (.pair (.int .i64) .unit)) ds fun x0 ds => pop (.int .i64) ds fun x1 ds => popN ds ((two_Check_3_1.f k x0 x1).bind fun r => K (two_Check_3_1.rs r))) env0)
def slices_IndexFunc____2_int__2_int_.t5 : Tm := ⟨[(0, .p (.slice (.pair (.int .i64) (.pair (.int .i64) .unit)))), (1, .fn 169 [.ptr 0 0]), (7, .p (.int .i64)), (8, .p (.int .i64))], [.box [.fn 166 [.ptr 1 0]] 113, .box [.p (.int .i64)] 3]⟩
def slices_IndexFunc____2_int__2_int_.c5 (k : Nat) (ds : List Dat) : Option (Int × Int) := pop (.slice (.pair (.int .i64) (.pair (.int .i64) .unit))) ds fun x0 ds => pop (.int .i64) ds fun x1 ds => pop (.int .i64) ds fun x2 ds => pop (.int .i64) ds fun x3 ds => popN ds (slices_IndexFunc____2_int__2_int_.l2 k x0 x1 x2 x3)
def slices_IndexFunc____2_int__2_int_.tbl : List (Nat × Tm × (Nat → List Dat → Option (Int × Int))) := [(5, slices_IndexFunc____2_int__2_int_.t5, slices_IndexFunc____2_int__2_int_.c5)]
noncomputable abbrev slices_IndexFunc____2_int__2_int_.R (k : Nat) := run T (slices_IndexFunc____2_int__2_int_.env k) Try.f182.ntmps (cutE 2 slices_IndexFunc____2_int__2_int_.tbl k) (finE 2 slices_IndexFunc____2_int__2_int_.to slices_IndexFunc____2_int__2_int_.out) (fnRes Try.f182) [] 100000 true
theorem slices_IndexFunc____2_int__2_int_.e5 (k : Nat) (x0 : (List (Int × (Int × Unit)))) (x1 : Int) (x2 : Int) (x3 : Int) : slices_IndexFunc____2_int__2_int_.l2 (k + 1) x0 x1 x2 x3 = slices_IndexFunc____2_int__2_int_.R k (start (stackOf 5 slices_IndexFunc____2_int__2_int_.body)) (slices_IndexFunc____2_int__2_int_.t5.fill [⟨(.slice (.pair (.int .i64) (.pair (.int .i64) .unit))), x0⟩, ⟨(.int .i64), x1⟩, ⟨(.int .i64), x2⟩, ⟨(.int .i64), x3⟩]) := by kernel_rfl
theorem slices_IndexFunc____2_int__2_int_.s5 : stackAt 5 slices_IndexFunc____2_int__2_int_.body [] = some (stackOf 5 slices_IndexFunc____2_int__2_int_.body) := by kernel_rfl
theorem slices_IndexFunc____2_int__2_int_.h5 (k : Nat) (ds : List Dat) (r : Int × Int) (h : slices_IndexFunc____2_int__2_int_.c5 k ds = some r) : ∃ k', k' < k ∧ ∃ s, stackAt 5 slices_IndexFunc____2_int__2_int_.body [] = some s ∧ slices_IndexFunc____2_int__2_int_.R k' (start s) (slices_IndexFunc____2_int__2_int_.t5.fill ds) = some r := by
  unfold slices_IndexFunc____2_int__2_int_.c5 at h
  obtain ⟨x0, d0, rfl, h0⟩ := pop_some h
  obtain ⟨x1, d1, rfl, h1⟩ := pop_some h0
  obtain ⟨x2, d2, rfl, h2⟩ := pop_some h1
  obtain ⟨x3, d3, rfl, h3⟩ := pop_some h2
  obtain ⟨rfl, g⟩ := popN_some h3
  cases k with
  | zero => cases (show none = some r from g)
  | succ k => exact ⟨k, Nat.lt_succ_self k, _, slices_IndexFunc____2_int__2_int_.s5, (slices_IndexFunc____2_int__2_int_.e5 k x0 x1 x2 x3).symm.trans g⟩
theorem slices_IndexFunc____2_int__2_int_.e (k : Nat) (x0 : (List (Int × (Int × Unit)))) (x1 : Int) : slices_IndexFunc____2_int__2_int_.f k x0 x1 = slices_IndexFunc____2_int__2_int_.R k ([.code slices_IndexFunc____2_int__2_int_.body]) (slices_IndexFunc____2_int__2_int_.ti.fill [⟨(.slice (.pair (.int .i64) (.pair (.int .i64) .unit))), x0⟩, ⟨(.int .i64), x1⟩]) := by kernel_rfl
theorem slices_IndexFunc____2_int__2_int_.h (k : Nat) (ds : List Dat) (r : Int × Int) (h : slices_IndexFunc____2_int__2_int_.g k ds = some r) : ∃ k', k' < k ∧ slices_IndexFunc____2_int__2_int_.R k' ([.code slices_IndexFunc____2_int__2_int_.body]) (slices_IndexFunc____2_int__2_int_.ti.fill ds) = some r := by
  cases k with
  | zero => cases (show none = some r from h)
  | succ k =>
  replace h : slices_IndexFunc____2_int__2_int_.c k ds = some r := h
  unfold slices_IndexFunc____2_int__2_int_.c at h
  obtain ⟨x0, d0, rfl, h0⟩ := pop_some h
  obtain ⟨x1, d1, rfl, h1⟩ := pop_some h0
  obtain ⟨rfl, g⟩ := popN_some h1
  exact ⟨k, Nat.lt_succ_self k, (slices_IndexFunc____2_int__2_int_.e k x0 x1).symm.trans g⟩
theorem slices_IndexFunc____2_int__2_int_.o (ds : List Dat) (r : Int × Int) (h : slices_IndexFunc____2_int__2_int_.out ds = some r) : ds = slices_IndexFunc____2_int__2_int_.rs r := by
  unfold slices_IndexFunc____2_int__2_int_.out at h
  obtain ⟨x0, d0, rfl, h0⟩ := pop_some h
  obtain ⟨x1, d1, rfl, h1⟩ := pop_some h0
  obtain ⟨rfl, g⟩ := popN_some h1
  cases g
  rfl
theorem slices_IndexFunc____2_int__2_int_.fn : FnOk Try.prog 182 Try.f182 slices_IndexFunc____2_int__2_int_.body Try.f182.ntmps 2 (fnRes Try.f182) :=
  fnOk_of (by kernel_rfl) (by kernel_rfl) (by kernel_rfl) (by kernel_rfl)
theorem slices_IndexFunc____2_int__2_int_.con' : ∀ k ds r, slices_IndexFunc____2_int__2_int_.g k ds = some r → Con Try.prog 182 2 slices_IndexFunc____2_int__2_int_.ti slices_IndexFunc____2_int__2_int_.to ds (slices_IndexFunc____2_int__2_int_.rs r) :=
  fun_ok (T := T) T_ok mixed slices_IndexFunc____2_int__2_int_.fn (env := slices_IndexFunc____2_int__2_int_.env) (tbl := slices_IndexFunc____2_int__2_int_.tbl) (gOut := slices_IndexFunc____2_int__2_int_.out) (nin := 2) (cuts := []) (fuel := 100000) rfl (by kernel_rfl) (by kernel_rfl) (by kernel_rfl) (fun x hx => by
    simp only [slices_IndexFunc____2_int__2_int_.tbl, List.mem_cons, List.not_mem_nil, or_false] at hx
    subst hx
    · exact slices_IndexFunc____2_int__2_int_.h5
) slices_IndexFunc____2_int__2_int_.o slices_IndexFunc____2_int__2_int_.h (fun k _ => by unfold slices_IndexFunc____2_int__2_int_.env; exact (envC_ok (fun ds K r h => by
    obtain ⟨x0, d0, rfl, h0⟩ := pop_some h
    obtain ⟨x1, d1, rfl, h1⟩ := pop_some h0
    obtain ⟨rfl, g⟩ := popN_some h1
    obtain ⟨r1, h1, h2⟩ := bind_some g
    exact ⟨_, h2, two_Check_3_1.con k _ h1⟩) env0_ok))
theorem slices_IndexFunc____2_int__2_int_.con (k : Nat) {x0 : (List (Int × (Int × Unit)))} {x1 : Int} (r : Int × Int) (h : slices_IndexFunc____2_int__2_int_.f k x0 x1 = some r) : Con Try.prog 182 2 slices_IndexFunc____2_int__2_int_.ti slices_IndexFunc____2_int__2_int_.to [⟨(.slice (.pair (.int .i64) (.pair (.int .i64) .unit))), x0⟩, ⟨(.int .i64), x1⟩] (slices_IndexFunc____2_int__2_int_.rs r) :=
  slices_IndexFunc____2_int__2_int_.con' (k + 1) _ r (by show slices_IndexFunc____2_int__2_int_.c k _ = some r; unfold slices_IndexFunc____2_int__2_int_.c; simp only [pop_self, popN]; exact h)
def slices_ContainsFunc____2_int__2_int_.f (k : Nat) (s0 : List ((Int × (Int × Unit)))) (c1_0 : Int) : Option (Bool × Int) :=
 (slices_IndexFunc____2_int__2_int_.f k s0 c1_0).bind fun r1 =>
  some (decide (0 ≤ r1.fst), r1.snd)

noncomputable def slices_ContainsFunc____2_int__2_int_.body : Code := fnBody Try.f168
def slices_ContainsFunc____2_int__2_int_.ti : Tm := ⟨[(0, .p (.slice (.pair (.int .i64) (.pair (.int .i64) .unit)))), (1, .fn 169 [.ptr 0 0])], [.box [.fn 166 [.ptr 1 0]] 113, .box [.p (.int .i64)] 3]⟩
def slices_ContainsFunc____2_int__2_int_.to : Tm := ⟨[(0, .p .bool)], [.box [.fn 166 [.ptr 1 0]] 113, .box [.p (.int .i64)] 3]⟩
def slices_ContainsFunc____2_int__2_int_.rs (r : Bool × Int) : List Dat := [⟨.bool, r.1⟩, ⟨(.int .i64), r.2⟩]
def slices_ContainsFunc____2_int__2_int_.out (ds : List Dat) : Option (Bool × Int) := pop .bool ds fun x0 ds => pop (.int .i64) ds fun x1 ds => popN ds (some (x0, x1))
def slices_ContainsFunc____2_int__2_int_.c (k : Nat) (ds : List Dat) : Option (Bool × Int) := pop (.slice (.pair (.int .i64) (.pair (.int .i64) .unit))) ds fun x0 ds => pop (.int .i64) ds fun x1 ds => popN ds (slices_ContainsFunc____2_int__2_int_.f k x0 x1)
def slices_ContainsFunc____2_int__2_int_.g : Nat → List Dat → Option (Bool × Int)
 | 0, _ => none
 | k + 1, ds => slices_ContainsFunc____2_int__2_int_.c k ds
def slices_ContainsFunc____2_int__2_int_.env (k : Nat) : Nat → List SV → List Chunk → KT (Bool × Int) → Option (Bool × Int) := (envC 182 2 slices_IndexFunc____2_int__2_int_.ti slices_IndexFunc____2_int__2_int_.to (fun ds K => pop (.slice (.pair (.int .i64) (.pair (.int .i64) .unit))) ds fun x0 ds => pop (.int .i64) ds fun x1 ds => popN ds ((slices_IndexFunc____2_int__2_int_.f k x0 x1).bind fun r => K (slices_IndexFunc____2_int__2_int_.rs r))) env0)
def slices_ContainsFunc____2_int__2_int_.tbl : List (Nat × Tm × (Nat → List Dat → Option (Bool × Int))) := []
noncomputable abbrev slices_ContainsFunc____2_int__2_int_.R (k : Nat) := run T (slices_ContainsFunc____2_int__2_int_.env k) Try.f168.ntmps (cutE 2 slices_ContainsFunc____2_int__2_int_.tbl k) (finE 2 slices_ContainsFunc____2_int__2_int_.to slices_ContainsFunc____2_int__2_int_.out) (fnRes Try.f168) [] 100000 true
theorem slices_ContainsFunc____2_int__2_int_.e (k : Nat) (x0 : (List (Int × (Int × Unit)))) (x1 : Int) : slices_ContainsFunc____2_int__2_int_.f k x0 x1 = slices_ContainsFunc____2_int__2_int_.R k ([.code slices_ContainsFunc____2_int__2_int_.body]) (slices_ContainsFunc____2_int__2_int_.ti.fill [⟨(.slice (.pair (.int .i64) (.pair (.int .i64) .unit))), x0⟩, ⟨(.int .i64), x1⟩]) := by kernel_rfl
theorem slices_ContainsFunc____2_int__2_int_.h (k : Nat) (ds : List Dat) (r : Bool × Int) (h : slices_ContainsFunc____2_int__2_int_.g k ds = some r) : ∃ k', k' < k ∧ slices_ContainsFunc____2_int__2_int_.R k' ([.code slices_ContainsFunc____2_int__2_int_.body]) (slices_ContainsFunc____2_int__2_int_.ti.fill ds) = some r := by
  cases k with
  | zero => cases (show none = some r from h)
  | succ k =>
  replace h : slices_ContainsFunc____2_int__2_int_.c k ds = some r := h
  unfold slices_ContainsFunc____2_int__2_int_.c at h
  obtain ⟨x0, d0, rfl, h0⟩ := pop_some h
  obtain ⟨x1, d1, rfl, h1⟩ := pop_some h0
  obtain ⟨rfl, g⟩ := popN_some h1
  exact ⟨k, Nat.lt_succ_self k, (slices_ContainsFunc____2_int__2_int_.e k x0 x1).symm.trans g⟩
theorem slices_ContainsFunc____2_int__2_int_.o (ds : List Dat) (r : Bool × Int) (h : slices_ContainsFunc____2_int__2_int_.out ds = some r) : ds = slices_ContainsFunc____2_int__2_int_.rs r := by
  unfold slices_ContainsFunc____2_int__2_int_.out at h
  obtain ⟨x0, d0, rfl, h0⟩ := pop_some h
  obtain ⟨x1, d1, rfl, h1⟩ := pop_some h0
  obtain ⟨rfl, g⟩ := popN_some h1
  cases g
  rfl
theorem slices_ContainsFunc____2_int__2_int_.fn : FnOk Try.prog 168 Try.f168 slices_ContainsFunc____2_int__2_int_.body Try.f168.ntmps 2 (fnRes Try.f168) :=
  fnOk_of (by kernel_rfl) (by kernel_rfl) (by kernel_rfl) (by kernel_rfl)
theorem slices_ContainsFunc____2_int__2_int_.con' : ∀ k ds r, slices_ContainsFunc____2_int__2_int_.g k ds = some r → Con Try.prog 168 2 slices_ContainsFunc____2_int__2_int_.ti slices_ContainsFunc____2_int__2_int_.to ds (slices_ContainsFunc____2_int__2_int_.rs r) :=
  fun_ok (T := T) T_ok mixed slices_ContainsFunc____2_int__2_int_.fn (env := slices_ContainsFunc____2_int__2_int_.env) (tbl := slices_ContainsFunc____2_int__2_int_.tbl) (gOut := slices_ContainsFunc____2_int__2_int_.out) (nin := 2) (cuts := []) (fuel := 100000) rfl (by kernel_rfl) (by kernel_rfl) (by kernel_rfl) (fun x hx => by simp [slices_ContainsFunc____2_int__2_int_.tbl] at hx) slices_ContainsFunc____2_int__2_int_.o slices_ContainsFunc____2_int__2_int_.h (fun k _ => by unfold slices_ContainsFunc____2_int__2_int_.env; exact (envC_ok (fun ds K r h => by
    obtain ⟨x0, d0, rfl, h0⟩ := pop_some h
    obtain ⟨x1, d1, rfl, h1⟩ := pop_some h0
    obtain ⟨rfl, g⟩ := popN_some h1
    obtain ⟨r1, h1, h2⟩ := bind_some g
    exact ⟨_, h2, slices_IndexFunc____2_int__2_int_.con k _ h1⟩) env0_ok))
theorem slices_ContainsFunc____2_int__2_int_.con (k : Nat) {x0 : (List (Int × (Int × Unit)))} {x1 : Int} (r : Bool × Int) (h : slices_ContainsFunc____2_int__2_int_.f k x0 x1 = some r) : Con Try.prog 168 2 slices_ContainsFunc____2_int__2_int_.ti slices_ContainsFunc____2_int__2_int_.to [⟨(.slice (.pair (.int .i64) (.pair (.int .i64) .unit))), x0⟩, ⟨(.int .i64), x1⟩] (slices_ContainsFunc____2_int__2_int_.rs r) :=
  slices_ContainsFunc____2_int__2_int_.con' (k + 1) _ r (by show slices_ContainsFunc____2_int__2_int_.c k _ = some r; unfold slices_ContainsFunc____2_int__2_int_.c; simp only [pop_self, popN]; exact h)
def two_Check_3.f (k : Nat) (r0 : List ((Int × (Int × Unit)))) (c1_0 : Int) : Option (Bool × Int) :=
 (slices_ContainsFunc____2_int__2_int_.f k r0 c1_0).bind fun r1 =>
  some (r1.fst, r1.snd)

noncomputable def two_Check_3.body : Code := fnBody Try.f167
def two_Check_3.ti : Tm := ⟨[(0, .p (.slice (.pair (.int .i64) (.pair (.int .i64) .unit)))), (1, .ptr 0 0)], [.box [.fn 166 [.ptr 1 0]] 113, .box [.p (.int .i64)] 3]⟩
def two_Check_3.to : Tm := ⟨[(0, .p .bool)], [.box [.fn 166 [.ptr 1 0]] 113, .box [.p (.int .i64)] 3]⟩
def two_Check_3.rs (r : Bool × Int) : List Dat := [⟨.bool, r.1⟩, ⟨(.int .i64), r.2⟩]
def two_Check_3.out (ds : List Dat) : Option (Bool × Int) := pop .bool ds fun x0 ds => pop (.int .i64) ds fun x1 ds => popN ds (some (x0, x1))
def two_Check_3.c (k : Nat) (ds : List Dat) : Option (Bool × Int) := pop (.slice (.pair (.int .i64) (.pair (.int .i64) .unit))) ds fun x0 ds => pop (.int .i64) ds fun x1 ds => popN ds (two_Check_3.f k x0 x1)
def two_Check_3.g : Nat → List Dat → Option (Bool × Int)
 | 0, _ => none
 | k + 1, ds => two_Check_3.c k ds
def two_Check_3.env (k : Nat) : Nat → List SV → List Chunk → KT (Bool × Int) → Option (Bool × Int) := (envC 168 2 slices_ContainsFunc____2_int__2_int_.ti slices_ContainsFunc____2_int__2_int_.to (fun ds K => pop (.slice (.pair (.int .i64) (.pair (.int .i64) .unit))) ds fun x0 ds => pop (.int .i64) ds fun x1 ds => popN ds ((slices_ContainsFunc____2_int__2_int_.f k x0 x1).bind fun r => K (slices_ContainsFunc____2_int__2_int_.rs r))) env0)
def two_Check_3.tbl : List (Nat × Tm × (Nat → List Dat → Option (Bool × Int))) := []
noncomputable abbrev two_Check_3.R (k : Nat) := run T (two_Check_3.env k) Try.f167.ntmps (cutE 2 two_Check_3.tbl k) (finE 2 two_Check_3.to two_Check_3.out) (fnRes Try.f167) [] 100000 true
theorem two_Check_3.e (k : Nat) (x0 : (List (Int × (Int × Unit)))) (x1 : Int) : two_Check_3.f k x0 x1 = two_Check_3.R k ([.code two_Check_3.body]) (two_Check_3.ti.fill [⟨(.slice (.pair (.int .i64) (.pair (.int .i64) .unit))), x0⟩, ⟨(.int .i64), x1⟩]) := by kernel_rfl
theorem two_Check_3.h (k : Nat) (ds : List Dat) (r : Bool × Int) (h : two_Check_3.g k ds = some r) : ∃ k', k' < k ∧ two_Check_3.R k' ([.code two_Check_3.body]) (two_Check_3.ti.fill ds) = some r := by
  cases k with
  | zero => cases (show none = some r from h)
  | succ k =>
  replace h : two_Check_3.c k ds = some r := h
  unfold two_Check_3.c at h
  obtain ⟨x0, d0, rfl, h0⟩ := pop_some h
  obtain ⟨x1, d1, rfl, h1⟩ := pop_some h0
  obtain ⟨rfl, g⟩ := popN_some h1
  exact ⟨k, Nat.lt_succ_self k, (two_Check_3.e k x0 x1).symm.trans g⟩
theorem two_Check_3.o (ds : List Dat) (r : Bool × Int) (h : two_Check_3.out ds = some r) : ds = two_Check_3.rs r := by
  unfold two_Check_3.out at h
  obtain ⟨x0, d0, rfl, h0⟩ := pop_some h
  obtain ⟨x1, d1, rfl, h1⟩ := pop_some h0
  obtain ⟨rfl, g⟩ := popN_some h1
  cases g
  rfl
theorem two_Check_3.fn : FnOk Try.prog 167 Try.f167 two_Check_3.body Try.f167.ntmps 2 (fnRes Try.f167) :=
  fnOk_of (by kernel_rfl) (by kernel_rfl) (by kernel_rfl) (by kernel_rfl)
theorem two_Check_3.con' : ∀ k ds r, two_Check_3.g k ds = some r → Con Try.prog 167 2 two_Check_3.ti two_Check_3.to ds (two_Check_3.rs r) :=
  fun_ok (T := T) T_ok mixed two_Check_3.fn (env := two_Check_3.env) (tbl := two_Check_3.tbl) (gOut := two_Check_3.out) (nin := 2) (cuts := []) (fuel := 100000) rfl (by kernel_rfl) (by kernel_rfl) (by kernel_rfl) (fun x hx => by simp [two_Check_3.tbl] at hx) two_Check_3.o two_Check_3.h (fun k _ => by unfold two_Check_3.env; exact (envC_ok (fun ds K r h => by
    obtain ⟨x0, d0, rfl, h0⟩ := pop_some h
    obtain ⟨x1, d1, rfl, h1⟩ := pop_some h0
    obtain ⟨rfl, g⟩ := popN_some h1
    obtain ⟨r1, h1, h2⟩ := bind_some g
    exact ⟨_, h2, slices_ContainsFunc____2_int__2_int_.con k _ h1⟩) env0_ok))
theorem two_Check_3.con (k : Nat) {x0 : (List (Int × (Int × Unit)))} {x1 : Int} (r : Bool × Int) (h : two_Check_3.f k x0 x1 = some r) : Con Try.prog 167 2 two_Check_3.ti two_Check_3.to [⟨(.slice (.pair (.int .i64) (.pair (.int .i64) .unit))), x0⟩, ⟨(.int .i64), x1⟩] (two_Check_3.rs r) :=
  two_Check_3.con' (k + 1) _ r (by show two_Check_3.c k _ = some r; unfold two_Check_3.c; simp only [pop_self, popN]; exact h)
mutual
def slices_IndexFunc______2_int____2_int__2.l2 : Nat → List (List ((Int × (Int × Unit)))) → Int → Int → Int → Option (Int × Int)
 | 0, _, _, _, _ => none
 | k + 1, s0, x7, x8, c1_0 =>
  if x8 < x7 then
   if 0 ≤ x8 then
   if x8 < (↑s0.length : Int) then
    (two_Check_3.f k (Go.Proofs.YtiiioobebeaafaaSx.rd [] s0 x8) c1_0).bind fun r5 =>
      if r5.fst = true then
       some (x8, r5.snd)
      else
       slices_IndexFunc______2_int____2_int__2.l2 k s0 x7 (Go.IntKind.i64.wrap (x8 + 1)) r5.snd
    else none
   else none
  else
   some (-1, c1_0)
end
def slices_IndexFunc______2_int____2_int__2.f (k : Nat) (s0 : List (List ((Int × (Int × Unit))))) (c1_0 : Int) : Option (Int × Int) :=
 slices_IndexFunc______2_int____2_int__2.l2 k s0 ((↑s0.length : Int)) 0 c1_0

noncomputable def slices_IndexFunc______2_int____2_int__2.body : Code := fnBody Try.f181
def slices_IndexFunc______2_int____2_int__2.ti : Tm := ⟨[(0, .p (.slice (.slice (.pair (.int .i64) (.pair (.int .i64) .unit))))), (1, .fn 167 [.ptr 0 0])], [.box [.fn 166 [.ptr 1 0]] 113, .box [.p (.int .i64)] 3]⟩
def slices_IndexFunc______2_int____2_int__2.to : Tm := ⟨[(0, .p (.int .i64))], [.box [.fn 166 [.ptr 1 0]] 113, .box [.p (.int .i64)] 3]⟩
def slices_IndexFunc______2_int____2_int__2.rs (r : Int × Int) : List Dat := [⟨(.int .i64), r.1⟩, ⟨(.int .i64), r.2⟩]
def slices_IndexFunc______2_int____2_int__2.out (ds : List Dat) : Option (Int × Int) := pop (.int .i64) ds fun x0 ds => pop (.int .i64) ds fun x1 ds => popN ds (some (x0, x1))
def slices_IndexFunc______2_int____2_int__2.c (k : Nat) (ds : List Dat) : Option (Int × Int) := pop (.slice (.slice (.pair (.int .i64) (.pair (.int .i64) .unit)))) ds fun x0 ds => pop (.int .i64) ds fun x1 ds => popN ds (slices_IndexFunc______2_int____2_int__2.f k x0 x1)
def slices_IndexFunc______2_int____2_int__2.g : Nat → List Dat → Option (Int × Int)
 | 0, _ => none
 | k + 1, ds => slices_IndexFunc______2_int____2_int__2.c k ds
def slices_IndexFunc______2_int____2_int__2.env (k : Nat) : Nat → List SV → List Chunk → KT (Int × Int) → Option (Int × Int) := (envC 167 2 two_Check_3.ti two_Check_3.to (fun ds K => pop (.slice (.pair (.int .i64) (.pair (.int .i64) .unit))) ds fun x0 ds => pop (.int .i64) ds fun x1 ds => popN ds ((two_Check_3.f k x0 x1).bind fun r => K (two_Check_3.rs r))) env0)
def slices_IndexFunc______2_int____2_int__2.t5 : Tm := ⟨[(0, .p (.slice (.slice (.pair (.int .i64) (.pair (.int .i64) .unit))))), (1, .fn 167 [.ptr 0 0]), (7, .p (.int .i64)), (8, .p (.int .i64))], [.box [.fn 166 [.ptr 1 0]] 113, .box [.p (.int .i64)] 3]⟩
def slices_IndexFunc______2_int____2_int__2.c5 (k : Nat) (ds : List Dat) : Option (Int × Int) := pop (.slice (.slice (.pair (.int .i64) (.pair (.int .i64) .unit)))) ds fun x0 ds => pop (.int .i64) ds fun x1 ds => pop (.int .i64) ds fun x2 ds => pop (.int .i64) ds fun x3 ds => popN ds (slices_IndexFunc______2_int____2_int__2.l2 k x0 x1 x2 x3)
def slices_IndexFunc______2_int____2_int__2.tbl : List (Nat × Tm × (Nat → List Dat → Option (Int × Int))) := [(5, slices_IndexFunc______2_int____2_int__2.t5, slices_IndexFunc______2_int____2_int__2.c5)]
noncomputable abbrev slices_IndexFunc______2_int____2_int__2.R (k : Nat) := run T (slices_IndexFunc______2_int____2_int__2.env k) Try.f181.ntmps (cutE 2 slices_IndexFunc______2_int____2_int__2.tbl k) (finE 2 slices_IndexFunc______2_int____2_int__2.to slices_IndexFunc______2_int____2_int__2.out) (fnRes Try.f181) [] 100000 true
theorem slices_IndexFunc______2_int____2_int__2.e5 (k : Nat) (x0 : (List (List (Int × (Int × Unit))))) (x1 : Int) (x2 : Int) (x3 : Int) : slices_IndexFunc______2_int____2_int__2.l2 (k + 1) x0 x1 x2 x3 = slices_IndexFunc______2_int____2_int__2.R k (start (stackOf 5 slices_IndexFunc______2_int____2_int__2.body)) (slices_IndexFunc______2_int____2_int__2.t5.fill [⟨(.slice (.slice (.pair (.int .i64) (.pair (.int .i64) .unit)))), x0⟩, ⟨(.int .i64), x1⟩, ⟨(.int .i64), x2⟩, ⟨(.int .i64), x3⟩]) := by kernel_rfl
theorem slices_IndexFunc______2_int____2_int__2.s5 : stackAt 5 slices_IndexFunc______2_int____2_int__2.body [] = some (stackOf 5 slices_IndexFunc______2_int____2_int__2.body) := by kernel_rfl
theorem slices_IndexFunc______2_int____2_int__2.h5 (k : Nat) (ds : List Dat) (r : Int × Int) (h : slices_IndexFunc______2_int____2_int__2.c5 k ds = some r) : ∃ k', k' < k ∧ ∃ s, stackAt 5 slices_IndexFunc______2_int____2_int__2.body [] = some s ∧ slices_IndexFunc______2_int____2_int__2.R k' (start s) (slices_IndexFunc______2_int____2_int__2.t5.fill ds) = some r := by
  unfold slices_IndexFunc______2_int____2_int__2.c5 at h
  obtain ⟨x0, d0, rfl, h0⟩ := pop_some h
  obtain ⟨x1, d1, rfl, h1⟩ := pop_some h0
  obtain ⟨x2, d2, rfl, h2⟩ := pop_some h1
  obtain ⟨x3, d3, rfl, h3⟩ := pop_some h2
  obtain ⟨rfl, g⟩ := popN_some h3
  cases k with
  | zero => cases (show none = some r from g)
  | succ k => exact ⟨k, Nat.lt_succ_self k, _, slices_IndexFunc______2_int____2_int__2.s5, (slices_IndexFunc______2_int____2_int__2.e5 k x0 x1 x2 x3).symm.trans g⟩
theorem slices_IndexFunc______2_int____2_int__2.e (k : Nat) (x0 : (List (List (Int × (Int × Unit))))) (x1 : Int) : slices_IndexFunc______2_int____2_int__2.f k x0 x1 = slices_IndexFunc______2_int____2_int__2.R k ([.code slices_IndexFunc______2_int____2_int__2.body]) (slices_IndexFunc______2_int____2_int__2.ti.fill [⟨(.slice (.slice (.pair (.int .i64) (.pair (.int .i64) .unit)))), x0⟩, ⟨(.int .i64), x1⟩]) := by kernel_rfl
theorem slices_IndexFunc______2_int____2_int__2.h (k : Nat) (ds : List Dat) (r : Int × Int) (h : slices_IndexFunc______2_int____2_int__2.g k ds = some r) : ∃ k', k' < k ∧ slices_IndexFunc______2_int____2_int__2.R k' ([.code slices_IndexFunc______2_int____2_int__2.body]) (slices_IndexFunc______2_int____2_int__2.ti.fill ds) = some r := by
  cases k with
  | zero => cases (show none = some r from h)
  | succ k =>
  replace h : slices_IndexFunc______2_int____2_int__2.c k ds = some r := h
  unfold slices_IndexFunc______2_int____2_int__2.c at h
  obtain ⟨x0, d0, rfl, h0⟩ := pop_some h
  obtain ⟨x1, d1, rfl, h1⟩ := pop_some h0
  obtain ⟨rfl, g⟩ := popN_some h1
  exact ⟨k, Nat.lt_succ_self k, (slices_IndexFunc______2_int____2_int__2.e k x0 x1).symm.trans g⟩
theorem slices_IndexFunc______2_int____2_int__2.o (ds : List Dat) (r : Int × Int) (h : slices_IndexFunc______2_int____2_int__2.out ds = some r) : ds = slices_IndexFunc______2_int____2_int__2.rs r := by
  unfold slices_IndexFunc______2_int____2_int__2.out at h
  obtain ⟨x0, d0, rfl, h0⟩ := pop_some h
  obtain ⟨x1, d1, rfl, h1⟩ := pop_some h0
  obtain ⟨rfl, g⟩ := popN_some h1
  cases g
  rfl
theorem slices_IndexFunc______2_int____2_int__2.fn : FnOk Try.prog 181 Try.f181 slices_IndexFunc______2_int____2_int__2.body Try.f181.ntmps 2 (fnRes Try.f181) :=
  fnOk_of (by kernel_rfl) (by kernel_rfl) (by kernel_rfl) (by kernel_rfl)
theorem slices_IndexFunc______2_int____2_int__2.con' : ∀ k ds r, slices_IndexFunc______2_int____2_int__2.g k ds = some r → Con Try.prog 181 2 slices_IndexFunc______2_int____2_int__2.ti slices_IndexFunc______2_int____2_int__2.to ds (slices_IndexFunc______2_int____2_int__2.rs r) :=
  fun_ok (T := T) T_ok mixed slices_IndexFunc______2_int____2_int__2.fn (env := slices_IndexFunc______2_int____2_int__2.env) (tbl := slices_IndexFunc______2_int____2_int__2.tbl) (gOut := slices_IndexFunc______2_int____2_int__2.out) (nin := 2) (cuts := []) (fuel := 100000) rfl (by kernel_rfl) (by kernel_rfl) (by kernel_rfl) (fun x hx => by
    simp only [slices_IndexFunc______2_int____2_int__2.tbl, List.mem_cons, List.not_mem_nil, or_false] at hx
    subst hx
    · exact slices_IndexFunc______2_int____2_int__2.h5
) slices_IndexFunc______2_int____2_int__2.o slices_IndexFunc______2_int____2_int__2.h (fun k _ => by unfold slices_IndexFunc______2_int____2_int__2.env; exact (envC_ok (fun ds K r h => by
    obtain ⟨x0, d0, rfl, h0⟩ := pop_some h
    obtain ⟨x1, d1, rfl, h1⟩ := pop_some h0
    obtain ⟨rfl, g⟩ := popN_some h1
    obtain ⟨r1, h1, h2⟩ := bind_some g
    exact ⟨_, h2, two_Check_3.con k _ h1⟩) env0_ok))
theorem slices_IndexFunc______2_int____2_int__2.con (k : Nat) {x0 : (List (List (Int × (Int × Unit))))} {x1 : Int} (r : Int × Int) (h : slices_IndexFunc______2_int____2_int__2.f k x0 x1 = some r) : Con Try.prog 181 2 slices_IndexFunc______2_int____2_int__2.ti slices_IndexFunc______2_int____2_int__2.to [⟨(.slice (.slice (.pair (.int .i64) (.pair (.int .i64) .unit)))), x0⟩, ⟨(.int .i64), x1⟩] (slices_IndexFunc______2_int____2_int__2.rs r) :=
  slices_IndexFunc______2_int____2_int__2.con' (k + 1) _ r (by show slices_IndexFunc______2_int____2_int__2.c k _ = some r; unfold slices_IndexFunc______2_int____2_int__2.c; simp only [pop_self, popN]; exact h)
def slices_ContainsFunc______2_int____2_int__2.f (k : Nat) (s0 : List (List ((Int × (Int × Unit))))) (c1_0 : Int) : Option (Bool × Int) :=
 (slices_IndexFunc______2_int____2_int__2.f k s0 c1_0).bind fun r1 =>
  some (decide (0 ≤ r1.fst), r1.snd)

noncomputable def slices_ContainsFunc______2_int____2_int__2.body : Code := fnBody Try.f164
def slices_ContainsFunc______2_int____2_int__2.ti : Tm := ⟨[(0, .p (.slice (.slice (.pair (.int .i64) (.pair (.int .i64) .unit))))), (1, .fn 167 [.ptr 0 0])], [.box [.fn 166 [.ptr 1 0]] 113, .box [.p (.int .i64)] 3]⟩
def slices_ContainsFunc______2_int____2_int__2.to : Tm := ⟨[(0, .p .bool)], [.box [.fn 166 [.ptr 1 0]] 113, .box [.p (.int .i64)] 3]⟩
def slices_ContainsFunc______2_int____2_int__2.rs (r : Bool × Int) : List Dat := [⟨.bool, r.1⟩, ⟨(.int .i64), r.2⟩]
def slices_ContainsFunc______2_int____2_int__2.out (ds : List Dat) : Option (Bool × Int) := pop .bool ds fun x0 ds => pop (.int .i64) ds fun x1 ds => popN ds (some (x0, x1))
def slices_ContainsFunc______2_int____2_int__2.c (k : Nat) (ds : List Dat) : Option (Bool × Int) := pop (.slice (.slice (.pair (.int .i64) (.pair (.int .i64) .unit)))) ds fun x0 ds => pop (.int .i64) ds fun x1 ds => popN ds (slices_ContainsFunc______2_int____2_int__2.f k x0 x1)
def slices_ContainsFunc______2_int____2_int__2.g : Nat → List Dat → Option (Bool × Int)
 | 0, _ => none
 | k + 1, ds => slices_ContainsFunc______2_int____2_int__2.c k ds
def slices_ContainsFunc______2_int____2_int__2.env (k : Nat) : Nat → List SV → List Chunk → KT (Bool × Int) → Option (Bool × Int) := (envC 181 2 slices_IndexFunc______2_int____2_int__2.ti slices_IndexFunc______2_int____2_int__2.to (fun ds K => pop (.slice (.slice (.pair (.int .i64) (.pair (.int .i64) .unit)))) ds fun x0 ds => pop (.int .i64) ds fun x1 ds => popN ds ((slices_IndexFunc______2_int____2_int__2.f k x0 x1).bind fun r => K (slices_IndexFunc______2_int____2_int__2.rs r))) env0)
def slices_ContainsFunc______2_int____2_int__2.tbl : List (Nat × Tm × (Nat → List Dat → Option (Bool × Int))) := []
noncomputable abbrev slices_ContainsFunc______2_int____2_int__2.R (k : Nat) := run T (slices_ContainsFunc______2_int____2_int__2.env k) Try.f164.ntmps (cutE 2 slices_ContainsFunc______2_int____2_int__2.tbl k) (finE 2 slices_ContainsFunc______2_int____2_int__2.to slices_ContainsFunc______2_int____2_int__2.out) (fnRes Try.f164) [] 100000 true
theorem slices_ContainsFunc______2_int____2_int__2.e (k : Nat) (x0 : (List (List (Int × (Int × Unit))))) (x1 : Int) : slices_ContainsFunc______2_int____2_int__2.f k x0 x1 = slices_ContainsFunc______2_int____2_int__2.R k ([.code slices_ContainsFunc______2_int____2_int__2.body]) (slices_ContainsFunc______2_int____2_int__2.ti.fill [⟨(.slice (.slice (.pair (.int .i64) (.pair (.int .i64) .unit)))), x0⟩, ⟨(.int .i64), x1⟩]) := by kernel_rfl
theorem slices_ContainsFunc______2_int____2_int__2.h (k : Nat) (ds : List Dat) (r : Bool × Int) (h : slices_ContainsFunc______2_int____2_int__2.g k ds = some r) : ∃ k', k' < k ∧ slices_ContainsFunc______2_int____2_int__2.R k' ([.code slices_ContainsFunc______2_int____2_int__2.body]) (slices_ContainsFunc______2_int____2_int__2.ti.fill ds) = some r := by
  cases k with
  | zero => cases (show none = some r from h)
  | succ k =>
  replace h : slices_ContainsFunc______2_int____2_int__2.c k ds = some r := h
  unfold slices_ContainsFunc______2_int____2_int__2.c at h
  obtain ⟨x0, d0, rfl, h0⟩ := pop_some h
  obtain ⟨x1, d1, rfl, h1⟩ := pop_some h0
  obtain ⟨rfl, g⟩ := popN_some h1
  exact ⟨k, Nat.lt_succ_self k, (slices_ContainsFunc______2_int____2_int__2.e k x0 x1).symm.trans g⟩
theorem slices_ContainsFunc______2_int____2_int__2.o (ds : List Dat) (r : Bool × Int) (h : slices_ContainsFunc______2_int____2_int__2.out ds = some r) : ds = slices_ContainsFunc______2_int____2_int__2.rs r := by
  unfold slices_ContainsFunc______2_int____2_int__2.out at h
  obtain ⟨x0, d0, rfl, h0⟩ := pop_some h
  obtain ⟨x1, d1, rfl, h1⟩ := pop_some h0
  obtain ⟨rfl, g⟩ := popN_some h1
  cases g
  rfl
theorem slices_ContainsFunc______2_int____2_int__2.fn : FnOk Try.prog 164 Try.f164 slices_ContainsFunc______2_int____2_int__2.body Try.f164.ntmps 2 (fnRes Try.f164) :=
  fnOk_of (by kernel_rfl) (by kernel_rfl) (by kernel_rfl) (by kernel_rfl)
theorem slices_ContainsFunc______2_int____2_int__2.con' : ∀ k ds r, slices_ContainsFunc______2_int____2_int__2.g k ds = some r → Con Try.prog 164 2 slices_ContainsFunc______2_int____2_int__2.ti slices_ContainsFunc______2_int____2_int__2.to ds (slices_ContainsFunc______2_int____2_int__2.rs r) :=
  fun_ok (T := T) T_ok mixed slices_ContainsFunc______2_int____2_int__2.fn (env := slices_ContainsFunc______2_int____2_int__2.env) (tbl := slices_ContainsFunc______2_int____2_int__2.tbl) (gOut := slices_ContainsFunc______2_int____2_int__2.out) (nin := 2) (cuts := []) (fuel := 100000) rfl (by kernel_rfl) (by kernel_rfl) (by kernel_rfl) (fun x hx => by simp [slices_ContainsFunc______2_int____2_int__2.tbl] at hx) slices_ContainsFunc______2_int____2_int__2.o slices_ContainsFunc______2_int____2_int__2.h (fun k _ => by unfold slices_ContainsFunc______2_int____2_int__2.env; exact (envC_ok (fun ds K r h => by
    obtain ⟨x0, d0, rfl, h0⟩ := pop_some h
    obtain ⟨x1, d1, rfl, h1⟩ := pop_some h0
    obtain ⟨rfl, g⟩ := popN_some h1
    obtain ⟨r1, h1, h2⟩ := bind_some g
    exact ⟨_, h2, slices_IndexFunc______2_int____2_int__2.con k _ h1⟩) env0_ok))
theorem slices_ContainsFunc______2_int____2_int__2.con (k : Nat) {x0 : (List (List (Int × (Int × Unit))))} {x1 : Int} (r : Bool × Int) (h : slices_ContainsFunc______2_int____2_int__2.f k x0 x1 = some r) : Con Try.prog 164 2 slices_ContainsFunc______2_int____2_int__2.ti slices_ContainsFunc______2_int____2_int__2.to [⟨(.slice (.slice (.pair (.int .i64) (.pair (.int .i64) .unit)))), x0⟩, ⟨(.int .i64), x1⟩] (slices_ContainsFunc______2_int____2_int__2.rs r) :=
  slices_ContainsFunc______2_int____2_int__2.con' (k + 1) _ r (by show slices_ContainsFunc______2_int____2_int__2.c k _ = some r; unfold slices_ContainsFunc______2_int____2_int__2.c; simp only [pop_self, popN]; exact h)
def two_Check_4.f (k : Nat) (m0 : Int) : Option (Bool) :=
 if m0 = 0 then
  some (false)
 else
  some (!decide (m0 = 1))

noncomputable def two_Check_4.body : Code := fnBody Try.f170
def two_Check_4.ti : Tm := ⟨[(0, .p (.int .i64))], []⟩
def two_Check_4.to : Tm := ⟨[(0, .p .bool)], []⟩
def two_Check_4.rs (r : Bool) : List Dat := [⟨.bool, r⟩]
def two_Check_4.out (ds : List Dat) : Option (Bool) := pop .bool ds fun x0 ds => popN ds (some (x0))
def two_Check_4.c (k : Nat) (ds : List Dat) : Option (Bool) := pop (.int .i64) ds fun x0 ds => popN ds (two_Check_4.f k x0)
def two_Check_4.g : Nat → List Dat → Option (Bool)
 | 0, _ => none
 | k + 1, ds => two_Check_4.c k ds
def two_Check_4.env (k : Nat) : Nat → List SV → List Chunk → KT (Bool) → Option (Bool) := env0
def two_Check_4.tbl : List (Nat × Tm × (Nat → List Dat → Option (Bool))) := []
noncomputable abbrev two_Check_4.R (k : Nat) := run T (two_Check_4.env k) Try.f170.ntmps (cutE 0 two_Check_4.tbl k) (finE 0 two_Check_4.to two_Check_4.out) (fnRes Try.f170) [] 100000 true
theorem two_Check_4.e (k : Nat) (x0 : Int) : two_Check_4.f k x0 = two_Check_4.R k ([.code two_Check_4.body]) (two_Check_4.ti.fill [⟨(.int .i64), x0⟩]) := by kernel_rfl
theorem two_Check_4.h (k : Nat) (ds : List Dat) (r : Bool) (h : two_Check_4.g k ds = some r) : ∃ k', k' < k ∧ two_Check_4.R k' ([.code two_Check_4.body]) (two_Check_4.ti.fill ds) = some r := by
  cases k with
  | zero => cases (show none = some r from h)
  | succ k =>
  replace h : two_Check_4.c k ds = some r := h
  unfold two_Check_4.c at h
  obtain ⟨x0, d0, rfl, h0⟩ := pop_some h
  obtain ⟨rfl, g⟩ := popN_some h0
  exact ⟨k, Nat.lt_succ_self k, (two_Check_4.e k x0).symm.trans g⟩
theorem two_Check_4.o (ds : List Dat) (r : Bool) (h : two_Check_4.out ds = some r) : ds = two_Check_4.rs r := by
  unfold two_Check_4.out at h
  obtain ⟨x0, d0, rfl, h0⟩ := pop_some h
  obtain ⟨rfl, g⟩ := popN_some h0
  cases g
  rfl
theorem two_Check_4.fn : FnOk Try.prog 170 Try.f170 two_Check_4.body Try.f170.ntmps 1 (fnRes Try.f170) :=
  fnOk_of (by kernel_rfl) (by kernel_rfl) (by kernel_rfl) (by kernel_rfl)
theorem two_Check_4.con' : ∀ k ds r, two_Check_4.g k ds = some r → Con Try.prog 170 1 two_Check_4.ti two_Check_4.to ds (two_Check_4.rs r) :=
  fun_ok (T := T) T_ok mixed two_Check_4.fn (env := two_Check_4.env) (tbl := two_Check_4.tbl) (gOut := two_Check_4.out) (nin := 0) (cuts := []) (fuel := 100000) rfl (by kernel_rfl) (by kernel_rfl) (by kernel_rfl) (fun x hx => by simp [two_Check_4.tbl] at hx) two_Check_4.o two_Check_4.h (fun k _ => by unfold two_Check_4.env; exact env0_ok)
theorem two_Check_4.con (k : Nat) {x0 : Int} (r : Bool) (h : two_Check_4.f k x0 = some r) : Con Try.prog 170 1 two_Check_4.ti two_Check_4.to [⟨(.int .i64), x0⟩] (two_Check_4.rs r) :=
  two_Check_4.con' (k + 1) _ r (by show two_Check_4.c k _ = some r; unfold two_Check_4.c; simp only [pop_self, popN]; exact h)
mutual
def slices_IndexFunc___int_int_.l2 : Nat → List (Int) → Int → Int → Option (Int)
 | 0, _, _, _ => none
 | k + 1, s0, x7, x8 =>
  if x8 < x7 then
   if 0 ≤ x8 then
   if x8 < (↑s0.length : Int) then
    (two_Check_4.f k (Go.Proofs.YtiiioobebeaafaaSx.rd (Int.ofNat 0) s0 x8)).bind fun r5 =>
      if r5 = true then
       some (x8)
      else
       slices_IndexFunc___int_int_.l2 k s0 x7 (Go.IntKind.i64.wrap (x8 + 1))
    else none
   else none
  else
   some (-1)
end
def slices_IndexFunc___int_int_.f (k : Nat) (s0 : List (Int)) : Option (Int) :=
 slices_IndexFunc___int_int_.l2 k s0 ((↑s0.length : Int)) 0

noncomputable def slices_IndexFunc___int_int_.body : Code := fnBody Try.f149
def slices_IndexFunc___int_int_.ti : Tm := ⟨[(0, .p (.slice (.int .i64))), (1, .fn 170 [])], []⟩
def slices_IndexFunc___int_int_.to : Tm := ⟨[(0, .p (.int .i64))], []⟩
def slices_IndexFunc___int_int_.rs (r : Int) : List Dat := [⟨(.int .i64), r⟩]
def slices_IndexFunc___int_int_.out (ds : List Dat) : Option (Int) := pop (.int .i64) ds fun x0 ds => popN ds (some (x0))
def slices_IndexFunc___int_int_.c (k : Nat) (ds : List Dat) : Option (Int) := pop (.slice (.int .i64)) ds fun x0 ds => popN ds (slices_IndexFunc___int_int_.f k x0)
def slices_IndexFunc___int_int_.g : Nat → List Dat → Option (Int)
 | 0, _ => none
 | k + 1, ds => slices_IndexFunc___int_int_.c k ds
def slices_IndexFunc___int_int_.env (k : Nat) : Nat → List SV → List Chunk → KT (Int) → Option (Int) := (envC 170 1 two_Check_4.ti two_Check_4.to (fun ds K => pop (.int .i64) ds fun x0 ds => popN ds ((two_Check_4.f k x0).bind fun r => K (two_Check_4.rs r))) env0)
def slices_IndexFunc___int_int_.t5 : Tm := ⟨[(0, .p (.slice (.int .i64))), (1, .fn 170 []), (7, .p (.int .i64)), (8, .p (.int .i64))], []⟩
def slices_IndexFunc___int_int_.c5 (k : Nat) (ds : List Dat) : Option (Int) := pop (.slice (.int .i64)) ds fun x0 ds => pop (.int .i64) ds fun x1 ds => pop (.int .i64) ds fun x2 ds => popN ds (slices_IndexFunc___int_int_.l2 k x0 x1 x2)
def slices_IndexFunc___int_int_.tbl : List (Nat × Tm × (Nat → List Dat → Option (Int))) := [(5, slices_IndexFunc___int_int_.t5, slices_IndexFunc___int_int_.c5)]
noncomputable abbrev slices_IndexFunc___int_int_.R (k : Nat) := run T (slices_IndexFunc___int_int_.env k) Try.f149.ntmps (cutE 0 slices_IndexFunc___int_int_.tbl k) (finE 0 slices_IndexFunc___int_int_.to slices_IndexFunc___int_int_.out) (fnRes Try.f149) [] 100000 true
theorem slices_IndexFunc___int_int_.e5 (k : Nat) (x0 : (List Int)) (x1 : Int) (x2 : Int) : slices_IndexFunc___int_int_.l2 (k + 1) x0 x1 x2 = slices_IndexFunc___int_int_.R k (start (stackOf 5 slices_IndexFunc___int_int_.body)) (slices_IndexFunc___int_int_.t5.fill [⟨(.slice (.int .i64)), x0⟩, ⟨(.int .i64), x1⟩, ⟨(.int .i64), x2⟩]) := by kernel_rfl
theorem slices_IndexFunc___int_int_.s5 : stackAt 5 slices_IndexFunc___int_int_.body [] = some (stackOf 5 slices_IndexFunc___int_int_.body) := by kernel_rfl
theorem slices_IndexFunc___int_int_.h5 (k : Nat) (ds : List Dat) (r : Int) (h : slices_IndexFunc___int_int_.c5 k ds = some r) : ∃ k', k' < k ∧ ∃ s, stackAt 5 slices_IndexFunc___int_int_.body [] = some s ∧ slices_IndexFunc___int_int_.R k' (start s) (slices_IndexFunc___int_int_.t5.fill ds) = some r := by
  unfold slices_IndexFunc___int_int_.c5 at h
  obtain ⟨x0, d0, rfl, h0⟩ := pop_some h
  obtain ⟨x1, d1, rfl, h1⟩ := pop_some h0
  obtain ⟨x2, d2, rfl, h2⟩ := pop_some h1
  obtain ⟨rfl, g⟩ := popN_some h2
  cases k with
  | zero => cases (show none = some r from g)
  | succ k => exact ⟨k, Nat.lt_succ_self k, _, slices_IndexFunc___int_int_.s5, (slices_IndexFunc___int_int_.e5 k x0 x1 x2).symm.trans g⟩
theorem slices_IndexFunc___int_int_.e (k : Nat) (x0 : (List Int)) : slices_IndexFunc___int_int_.f k x0 = slices_IndexFunc___int_int_.R k ([.code slices_IndexFunc___int_int_.body]) (slices_IndexFunc___int_int_.ti.fill [⟨(.slice (.int .i64)), x0⟩]) := by kernel_rfl
theorem slices_IndexFunc___int_int_.h (k : Nat) (ds : List Dat) (r : Int) (h : slices_IndexFunc___int_int_.g k ds = some r) : ∃ k', k' < k ∧ slices_IndexFunc___int_int_.R k' ([.code slices_IndexFunc___int_int_.body]) (slices_IndexFunc___int_int_.ti.fill ds) = some r := by
  cases k with
  | zero => cases (show none = some r from h)
  | succ k =>
  replace h : slices_IndexFunc___int_int_.c k ds = some r := h
  unfold slices_IndexFunc___int_int_.c at h
  obtain ⟨x0, d0, rfl, h0⟩ := pop_some h
  obtain ⟨rfl, g⟩ := popN_some h0
  exact ⟨k, Nat.lt_succ_self k, (slices_IndexFunc___int_int_.e k x0).symm.trans g⟩
theorem slices_IndexFunc___int_int_.o (ds : List Dat) (r : Int) (h : slices_IndexFunc___int_int_.out ds = some r) : ds = slices_IndexFunc___int_int_.rs r := by
  unfold slices_IndexFunc___int_int_.out at h
  obtain ⟨x0, d0, rfl, h0⟩ := pop_some h
  obtain ⟨rfl, g⟩ := popN_some h0
  cases g
  rfl
theorem slices_IndexFunc___int_int_.fn : FnOk Try.prog 149 Try.f149 slices_IndexFunc___int_int_.body Try.f149.ntmps 2 (fnRes Try.f149) :=
  fnOk_of (by kernel_rfl) (by kernel_rfl) (by kernel_rfl) (by kernel_rfl)
theorem slices_IndexFunc___int_int_.con' : ∀ k ds r, slices_IndexFunc___int_int_.g k ds = some r → Con Try.prog 149 2 slices_IndexFunc___int_int_.ti slices_IndexFunc___int_int_.to ds (slices_IndexFunc___int_int_.rs r) :=
  fun_ok (T := T) T_ok mixed slices_IndexFunc___int_int_.fn (env := slices_IndexFunc___int_int_.env) (tbl := slices_IndexFunc___int_int_.tbl) (gOut := slices_IndexFunc___int_int_.out) (nin := 0) (cuts := []) (fuel := 100000) rfl (by kernel_rfl) (by kernel_rfl) (by kernel_rfl) (fun x hx => by
    simp only [slices_IndexFunc___int_int_.tbl, List.mem_cons, List.not_mem_nil, or_false] at hx
    subst hx
    · exact slices_IndexFunc___int_int_.h5
) slices_IndexFunc___int_int_.o slices_IndexFunc___int_int_.h (fun k _ => by unfold slices_IndexFunc___int_int_.env; exact (envC_ok (fun ds K r h => by
    obtain ⟨x0, d0, rfl, h0⟩ := pop_some h
    obtain ⟨rfl, g⟩ := popN_some h0
    obtain ⟨r1, h1, h2⟩ := bind_some g
    exact ⟨_, h2, two_Check_4.con k _ h1⟩) env0_ok))
theorem slices_IndexFunc___int_int_.con (k : Nat) {x0 : (List Int)} (r : Int) (h : slices_IndexFunc___int_int_.f k x0 = some r) : Con Try.prog 149 2 slices_IndexFunc___int_int_.ti slices_IndexFunc___int_int_.to [⟨(.slice (.int .i64)), x0⟩] (slices_IndexFunc___int_int_.rs r) :=
  slices_IndexFunc___int_int_.con' (k + 1) _ r (by show slices_IndexFunc___int_int_.c k _ = some r; unfold slices_IndexFunc___int_int_.c; simp only [pop_self, popN]; exact h)
def slices_ContainsFunc___int_int_.f (k : Nat) (s0 : List (Int)) : Option (Bool) :=
 (slices_IndexFunc___int_int_.f k s0).bind fun r1 =>
  some (decide (0 ≤ r1))

noncomputable def slices_ContainsFunc___int_int_.body : Code := fnBody Try.f77
def slices_ContainsFunc___int_int_.ti : Tm := ⟨[(0, .p (.slice (.int .i64))), (1, .fn 170 [])], []⟩
def slices_ContainsFunc___int_int_.to : Tm := ⟨[(0, .p .bool)], []⟩
def slices_ContainsFunc___int_int_.rs (r : Bool) : List Dat := [⟨.bool, r⟩]
def slices_ContainsFunc___int_int_.out (ds : List Dat) : Option (Bool) := pop .bool ds fun x0 ds => popN ds (some (x0))
def slices_ContainsFunc___int_int_.c (k : Nat) (ds : List Dat) : Option (Bool) := pop (.slice (.int .i64)) ds fun x0 ds => popN ds (slices_ContainsFunc___int_int_.f k x0)
def slices_ContainsFunc___int_int_.g : Nat → List Dat → Option (Bool)
 | 0, _ => none
 | k + 1, ds => slices_ContainsFunc___int_int_.c k ds
def slices_ContainsFunc___int_int_.env (k : Nat) : Nat → List SV → List Chunk → KT (Bool) → Option (Bool) := (envC 149 2 slices_IndexFunc___int_int_.ti slices_IndexFunc___int_int_.to (fun ds K => pop (.slice (.int .i64)) ds fun x0 ds => popN ds ((slices_IndexFunc___int_int_.f k x0).bind fun r => K (slices_IndexFunc___int_int_.rs r))) env0)
def slices_ContainsFunc___int_int_.tbl : List (Nat × Tm × (Nat → List Dat → Option (Bool))) := []
noncomputable abbrev slices_ContainsFunc___int_int_.R (k : Nat) := run T (slices_ContainsFunc___int_int_.env k) Try.f77.ntmps (cutE 0 slices_ContainsFunc___int_int_.tbl k) (finE 0 slices_ContainsFunc___int_int_.to slices_ContainsFunc___int_int_.out) (fnRes Try.f77) [] 100000 true
theorem slices_ContainsFunc___int_int_.e (k : Nat) (x0 : (List Int)) : slices_ContainsFunc___int_int_.f k x0 = slices_ContainsFunc___int_int_.R k ([.code slices_ContainsFunc___int_int_.body]) (slices_ContainsFunc___int_int_.ti.fill [⟨(.slice (.int .i64)), x0⟩]) := by kernel_rfl
theorem slices_ContainsFunc___int_int_.h (k : Nat) (ds : List Dat) (r : Bool) (h : slices_ContainsFunc___int_int_.g k ds = some r) : ∃ k', k' < k ∧ slices_ContainsFunc___int_int_.R k' ([.code slices_ContainsFunc___int_int_.body]) (slices_ContainsFunc___int_int_.ti.fill ds) = some r := by
  cases k with
  | zero => cases (show none = some r from h)
  | succ k =>
  replace h : slices_ContainsFunc___int_int_.c k ds = some r := h
  unfold slices_ContainsFunc___int_int_.c at h
  obtain ⟨x0, d0, rfl, h0⟩ := pop_some h
  obtain ⟨rfl, g⟩ := popN_some h0
  exact ⟨k, Nat.lt_succ_self k, (slices_ContainsFunc___int_int_.e k x0).symm.trans g⟩
theorem slices_ContainsFunc___int_int_.o (ds : List Dat) (r : Bool) (h : slices_ContainsFunc___int_int_.out ds = some r) : ds = slices_ContainsFunc___int_int_.rs r := by
  unfold slices_ContainsFunc___int_int_.out at h
  obtain ⟨x0, d0, rfl, h0⟩ := pop_some h
  obtain ⟨rfl, g⟩ := popN_some h0
  cases g
  rfl
theorem slices_ContainsFunc___int_int_.fn : FnOk Try.prog 77 Try.f77 slices_ContainsFunc___int_int_.body Try.f77.ntmps 2 (fnRes Try.f77) :=
  fnOk_of (by kernel_rfl) (by kernel_rfl) (by kernel_rfl) (by kernel_rfl)
theorem slices_ContainsFunc___int_int_.con' : ∀ k ds r, slices_ContainsFunc___int_int_.g k ds = some r → Con Try.prog 77 2 slices_ContainsFunc___int_int_.ti slices_ContainsFunc___int_int_.to ds (slices_ContainsFunc___int_int_.rs r) :=
  fun_ok (T := T) T_ok mixed slices_ContainsFunc___int_int_.fn (env := slices_ContainsFunc___int_int_.env) (tbl := slices_ContainsFunc___int_int_.tbl) (gOut := slices_ContainsFunc___int_int_.out) (nin := 0) (cuts := []) (fuel := 100000) rfl (by kernel_rfl) (by kernel_rfl) (by kernel_rfl) (fun x hx => by simp [slices_ContainsFunc___int_int_.tbl] at hx) slices_ContainsFunc___int_int_.o slices_ContainsFunc___int_int_.h (fun k _ => by unfold slices_ContainsFunc___int_int_.env; exact (envC_ok (fun ds K r h => by
    obtain ⟨x0, d0, rfl, h0⟩ := pop_some h
    obtain ⟨rfl, g⟩ := popN_some h0
    obtain ⟨r1, h1, h2⟩ := bind_some g
    exact ⟨_, h2, slices_IndexFunc___int_int_.con k _ h1⟩) env0_ok))
theorem slices_ContainsFunc___int_int_.con (k : Nat) {x0 : (List Int)} (r : Bool) (h : slices_ContainsFunc___int_int_.f k x0 = some r) : Con Try.prog 77 2 slices_ContainsFunc___int_int_.ti slices_ContainsFunc___int_int_.to [⟨(.slice (.int .i64)), x0⟩] (slices_ContainsFunc___int_int_.rs r) :=
  slices_ContainsFunc___int_int_.con' (k + 1) _ r (by show slices_ContainsFunc___int_int_.c k _ = some r; unfold slices_ContainsFunc___int_int_.c; simp only [pop_self, popN]; exact h)
def two_Check.f (k : Nat) (t0 : (Int × (Int × (List (List ((Int × (Int × Unit)))) × (List (Int) × Unit))))) : Option (Int) :=
 if t0.fst < 1 then
  some (2)
 else
  if 4 < t0.fst then
   some (2)
  else
   if (↑t0.snd.snd.fst.length : Int) < 1 then
    some (1)
   else
    if 4 < (↑t0.snd.snd.fst.length : Int) then
     some (1)
    else
     if (↑t0.snd.snd.snd.fst.length : Int) = (↑t0.snd.snd.fst.length : Int) then
      (slices_ContainsFunc______2_int____2_int_.f k t0.snd.snd.fst t0.fst t0.snd.fst t0.snd.snd.fst t0.snd.snd.snd.fst).bind fun r6 =>
       if r6.fst = true then
        some (3)
       else
        (two_Check_2.f k r6.snd.snd.fst (↑t0.snd.snd.fst.length : Int)).bind fun r8 =>
         if r8.fst = true then
          some (2)
         else
          (slices_ContainsFunc______2_int____2_int__2.f k r6.snd.snd.snd.fst r8.snd).bind fun r10 =>
           if r10.fst = true then
            some (2)
           else
            (slices_ContainsFunc___int_int_.f k r6.snd.snd.snd.snd).bind fun r12 =>
             if r12 = true then
              some (2)
             else
              some (0)
     else
      some (3)

noncomputable def two_Check.body : Code := fnBody Try.f106
def two_Check.ti : Tm := ⟨[(0, .p (.pair (.int .i64) (.pair (.int .i64) (.pair (.slice (.slice (.pair (.int .i64) (.pair (.int .i64) .unit)))) (.pair (.slice (.int .i64)) .unit)))))], []⟩
def two_Check.to : Tm := ⟨[(0, .p (.int .i64))], []⟩
def two_Check.rs (r : Int) : List Dat := [⟨(.int .i64), r⟩]
def two_Check.out (ds : List Dat) : Option (Int) := pop (.int .i64) ds fun x0 ds => popN ds (some (x0))
def two_Check.c (k : Nat) (ds : List Dat) : Option (Int) := pop (.pair (.int .i64) (.pair (.int .i64) (.pair (.slice (.slice (.pair (.int .i64) (.pair (.int .i64) .unit)))) (.pair (.slice (.int .i64)) .unit)))) ds fun x0 ds => popN ds (two_Check.f k x0)
def two_Check.g : Nat → List Dat → Option (Int)
 | 0, _ => none
 | k + 1, ds => two_Check.c k ds
def two_Check.env (k : Nat) : Nat → List SV → List Chunk → KT (Int) → Option (Int) := (envC 164 2 slices_ContainsFunc______2_int____2_int_.ti slices_ContainsFunc______2_int____2_int_.to (fun ds K => pop (.slice (.slice (.pair (.int .i64) (.pair (.int .i64) .unit)))) ds fun x0 ds => pop (.int .i64) ds fun x1 ds => pop (.int .i64) ds fun x2 ds => pop (.slice (.slice (.pair (.int .i64) (.pair (.int .i64) .unit)))) ds fun x3 ds => pop (.slice (.int .i64)) ds fun x4 ds => popN ds ((slices_ContainsFunc______2_int____2_int_.f k x0 x1 x2 x3 x4).bind fun r => K (slices_ContainsFunc______2_int____2_int_.rs r))) (envC 166 2 two_Check_2.ti two_Check_2.to (fun ds K => pop (.int .i64) ds fun x0 ds => pop (.int .i64) ds fun x1 ds => popN ds ((two_Check_2.f k x0 x1).bind fun r => K (two_Check_2.rs r))) (envC 164 2 slices_ContainsFunc______2_int____2_int__2.ti slices_ContainsFunc______2_int____2_int__2.to (fun ds K => pop (.slice (.slice (.pair (.int .i64) (.pair (.int .i64) .unit)))) ds fun x0 ds => pop (.int .i64) ds fun x1 ds => popN ds ((slices_ContainsFunc______2_int____2_int__2.f k x0 x1).bind fun r => K (slices_ContainsFunc______2_int____2_int__2.rs r))) (envC 77 2 slices_ContainsFunc___int_int_.ti slices_ContainsFunc___int_int_.to (fun ds K => pop (.slice (.int .i64)) ds fun x0 ds => popN ds ((slices_ContainsFunc___int_int_.f k x0).bind fun r => K (slices_ContainsFunc___int_int_.rs r))) env0))))
def two_Check.tbl : List (Nat × Tm × (Nat → List Dat → Option (Int))) := []
noncomputable abbrev two_Check.R (k : Nat) := run T (two_Check.env k) Try.f106.ntmps (cutE 0 two_Check.tbl k) (finE 0 two_Check.to two_Check.out) (fnRes Try.f106) [] 100000 true
theorem two_Check.e (k : Nat) (x0 : (Int × (Int × ((List (List (Int × (Int × Unit)))) × ((List Int) × Unit))))) : two_Check.f k x0 = two_Check.R k ([.code two_Check.body]) (two_Check.ti.fill [⟨(.pair (.int .i64) (.pair (.int .i64) (.pair (.slice (.slice (.pair (.int .i64) (.pair (.int .i64) .unit)))) (.pair (.slice (.int .i64)) .unit)))), x0⟩]) := by kernel_rfl
theorem two_Check.h (k : Nat) (ds : List Dat) (r : Int) (h : two_Check.g k ds = some r) : ∃ k', k' < k ∧ two_Check.R k' ([.code two_Check.body]) (two_Check.ti.fill ds) = some r := by
  cases k with
  | zero => cases (show none = some r from h)
  | succ k =>
  replace h : two_Check.c k ds = some r := h
  unfold two_Check.c at h
  obtain ⟨x0, d0, rfl, h0⟩ := pop_some h
  obtain ⟨rfl, g⟩ := popN_some h0
  exact ⟨k, Nat.lt_succ_self k, (two_Check.e k x0).symm.trans g⟩
theorem two_Check.o (ds : List Dat) (r : Int) (h : two_Check.out ds = some r) : ds = two_Check.rs r := by
  unfold two_Check.out at h
  obtain ⟨x0, d0, rfl, h0⟩ := pop_some h
  obtain ⟨rfl, g⟩ := popN_some h0
  cases g
  rfl
theorem two_Check.fn : FnOk Try.prog 106 Try.f106 two_Check.body Try.f106.ntmps 1 (fnRes Try.f106) :=
  fnOk_of (by kernel_rfl) (by kernel_rfl) (by kernel_rfl) (by kernel_rfl)
theorem two_Check.con' : ∀ k ds r, two_Check.g k ds = some r → Con Try.prog 106 1 two_Check.ti two_Check.to ds (two_Check.rs r) :=
  fun_ok (T := T) T_ok mixed two_Check.fn (env := two_Check.env) (tbl := two_Check.tbl) (gOut := two_Check.out) (nin := 0) (cuts := []) (fuel := 100000) rfl (by kernel_rfl) (by kernel_rfl) (by kernel_rfl) (fun x hx => by simp [two_Check.tbl] at hx) two_Check.o two_Check.h (fun k _ => by unfold two_Check.env; exact (envC_ok (fun ds K r h => by
    obtain ⟨x0, d0, rfl, h0⟩ := pop_some h
    obtain ⟨x1, d1, rfl, h1⟩ := pop_some h0
    obtain ⟨x2, d2, rfl, h2⟩ := pop_some h1
    obtain ⟨x3, d3, rfl, h3⟩ := pop_some h2
    obtain ⟨x4, d4, rfl, h4⟩ := pop_some h3
    obtain ⟨rfl, g⟩ := popN_some h4
    obtain ⟨r1, h1, h2⟩ := bind_some g
    exact ⟨_, h2, slices_ContainsFunc______2_int____2_int_.con k _ h1⟩) (envC_ok (fun ds K r h => by
    obtain ⟨x0, d0, rfl, h0⟩ := pop_some h
    obtain ⟨x1, d1, rfl, h1⟩ := pop_some h0
    obtain ⟨rfl, g⟩ := popN_some h1
    obtain ⟨r1, h1, h2⟩ := bind_some g
    exact ⟨_, h2, two_Check_2.con k _ h1⟩) (envC_ok (fun ds K r h => by
    obtain ⟨x0, d0, rfl, h0⟩ := pop_some h
    obtain ⟨x1, d1, rfl, h1⟩ := pop_some h0
    obtain ⟨rfl, g⟩ := popN_some h1
    obtain ⟨r1, h1, h2⟩ := bind_some g
    exact ⟨_, h2, slices_ContainsFunc______2_int____2_int__2.con k _ h1⟩) (envC_ok (fun ds K r h => by
    obtain ⟨x0, d0, rfl, h0⟩ := pop_some h
    obtain ⟨rfl, g⟩ := popN_some h0
    obtain ⟨r1, h1, h2⟩ := bind_some g
    exact ⟨_, h2, slices_ContainsFunc___int_int_.con k _ h1⟩) env0_ok)))))
theorem two_Check.con (k : Nat) {x0 : (Int × (Int × ((List (List (Int × (Int × Unit)))) × ((List Int) × Unit))))} (r : Int) (h : two_Check.f k x0 = some r) : Con Try.prog 106 1 two_Check.ti two_Check.to [⟨(.pair (.int .i64) (.pair (.int .i64) (.pair (.slice (.slice (.pair (.int .i64) (.pair (.int .i64) .unit)))) (.pair (.slice (.int .i64)) .unit)))), x0⟩] (two_Check.rs r) :=
  two_Check.con' (k + 1) _ r (by show two_Check.c k _ = some r; unfold two_Check.c; simp only [pop_self, popN]; exact h)
mutual
def two_Det_1.l2 : Nat → Bool → Int → Int → Int → Int → Int → Int → Int → List (List ((Int × (Int × Unit)))) → List (Int) → Int → Int → Int → Int → Int → Option (Int × Int × Int × Int × List (List (Int × Int × Unit)) × List Int)
 | 0, _, _, _, _, _, _, _, _, _, _, _, _, _, _, _ => none
 | k + 1, first1, q2, letter3, x13, x14, c0_0, x5_0, x5_1, x5_2, x5_3, ahead6_0, ahead6_1, ahead6_2, ahead6_3, ahead6_4 =>
  if x14 < x13 then
   if 0 ≤ q2 then
   if q2 < (↑x5_2.length : Int) then
    if 0 ≤ letter3 then
     if letter3 < (↑(Go.Proofs.YtiiioobebeaafaaSx.rd [] x5_2 q2).length : Int) then
      if (Go.Proofs.YtiiioobebeaafaaSx.rd (Int.ofNat 0, Int.ofNat 0, ()) (Go.Proofs.YtiiioobebeaafaaSx.rd [] x5_2 q2) letter3).snd.fst = 1 then
        some ((Go.Proofs.YtiiioobebeaafaaSx.rd (Int.ofNat 0, Int.ofNat 0, ()) (Go.Proofs.YtiiioobebeaafaaSx.rd [] x5_2 q2) letter3).fst, c0_0, x5_0, x5_1, x5_2, x5_3)
       else
        if first1 = true then
         some (-1, c0_0, x5_0, x5_1, x5_2, x5_3)
        else
         if 0 ≤ (Go.Proofs.YtiiioobebeaafaaSx.rd (Int.ofNat 0, Int.ofNat 0, ()) (Go.Proofs.YtiiioobebeaafaaSx.rd [] x5_2 q2) letter3).fst then
         if (Go.Proofs.YtiiioobebeaafaaSx.rd (Int.ofNat 0, Int.ofNat 0, ()) (Go.Proofs.YtiiioobebeaafaaSx.rd [] x5_2 q2) letter3).fst < (↑5 : Int) then
          if [ahead6_0, ahead6_1, ahead6_2, ahead6_3, ahead6_4].getD (Go.Proofs.YtiiioobebeaafaaSx.rd (Int.ofNat 0, Int.ofNat 0, ()) (Go.Proofs.YtiiioobebeaafaaSx.rd [] x5_2 q2) letter3).fst.toNat (Int.ofNat 0) < 0 then
            some (-1, c0_0, x5_0, x5_1, x5_2, x5_3)
           else
            two_Det_1.l2 k first1 ([ahead6_0, ahead6_1, ahead6_2, ahead6_3, ahead6_4].getD (Go.Proofs.YtiiioobebeaafaaSx.rd (Int.ofNat 0, Int.ofNat 0, ()) (Go.Proofs.YtiiioobebeaafaaSx.rd [] x5_2 q2) letter3).fst.toNat (Int.ofNat 0)) letter3 x13 (Go.IntKind.i64.wrap (x14 + 1)) c0_0 x5_0 x5_1 x5_2 x5_3 ahead6_0 ahead6_1 ahead6_2 ahead6_3 ahead6_4
          else none
         else none
      else none
     else none
    else none
   else none
  else
   some (-1, c0_0, x5_0, x5_1, x5_2, x5_3)
end
def two_Det_1.f (k : Nat) (ahead0 : (Int × (Int × (Int × (Int × (Int × Unit)))))) (first1 : Bool) (q2 : Int) (letter3 : Int) (x4_0 : Int) (x5_0 : Int) (x5_1 : Int) (x5_2 : List (List ((Int × (Int × Unit))))) (x5_3 : List (Int)) : Option (Int × Int × Int × Int × List (List (Int × Int × Unit)) × List Int) :=
 two_Det_1.l2 k first1 q2 letter3 (Go.IntKind.i64.wrap (x4_0 + 1)) 0 x4_0 x5_0 x5_1 x5_2 x5_3 ahead0.fst ahead0.snd.fst ahead0.snd.snd.fst ahead0.snd.snd.snd.fst ahead0.snd.snd.snd.snd.fst

noncomputable def two_Det_1.body : Code := fnBody Try.f107
def two_Det_1.ti : Tm := ⟨[(0, .p (.pair (.int .i64) (.pair (.int .i64) (.pair (.int .i64) (.pair (.int .i64) (.pair (.int .i64) .unit)))))), (1, .p .bool), (2, .p (.int .i64)), (3, .p (.int .i64)), (4, .ptr 0 0), (5, .ptr 1 0)], [.box [.p (.int .i64)] 3, .box [.p (.int .i64), .p (.int .i64), .p (.slice (.slice (.pair (.int .i64) (.pair (.int .i64) .unit)))), .p (.slice (.int .i64))] 76]⟩
def two_Det_1.to : Tm := ⟨[(0, .p (.int .i64))], [.box [.p (.int .i64)] 3, .box [.p (.int .i64), .p (.int .i64), .p (.slice (.slice (.pair (.int .i64) (.pair (.int .i64) .unit)))), .p (.slice (.int .i64))] 76]⟩
def two_Det_1.rs (r : Int × Int × Int × Int × (List (List (Int × (Int × Unit)))) × (List Int)) : List Dat := [⟨(.int .i64), r.1⟩, ⟨(.int .i64), r.2.1⟩, ⟨(.int .i64), r.2.2.1⟩, ⟨(.int .i64), r.2.2.2.1⟩, ⟨(.slice (.slice (.pair (.int .i64) (.pair (.int .i64) .unit)))), r.2.2.2.2.1⟩, ⟨(.slice (.int .i64)), r.2.2.2.2.2⟩]
def two_Det_1.out (ds : List Dat) : Option (Int × Int × Int × Int × (List (List (Int × (Int × Unit)))) × (List Int)) := pop (.int .i64) ds fun x0 ds => pop (.int .i64) ds fun x1 ds => pop (.int .i64) ds fun x2 ds => pop (.int .i64) ds fun x3 ds => pop (.slice (.slice (.pair (.int .i64) (.pair (.int .i64) .unit)))) ds fun x4 ds => pop (.slice (.int .i64)) ds fun x5 ds => popN ds (some (x0, x1, x2, x3, x4, x5))
def two_Det_1.c (k : Nat) (ds : List Dat) : Option (Int × Int × Int × Int × (List (List (Int × (Int × Unit)))) × (List Int)) := pop (.pair (.int .i64) (.pair (.int .i64) (.pair (.int .i64) (.pair (.int .i64) (.pair (.int .i64) .unit))))) ds fun x0 ds => pop .bool ds fun x1 ds => pop (.int .i64) ds fun x2 ds => pop (.int .i64) ds fun x3 ds => pop (.int .i64) ds fun x4 ds => pop (.int .i64) ds fun x5 ds => pop (.int .i64) ds fun x6 ds => pop (.slice (.slice (.pair (.int .i64) (.pair (.int .i64) .unit)))) ds fun x7 ds => pop (.slice (.int .i64)) ds fun x8 ds => popN ds (two_Det_1.f k x0 x1 x2 x3 x4 x5 x6 x7 x8)
def two_Det_1.g : Nat → List Dat → Option (Int × Int × Int × Int × (List (List (Int × (Int × Unit)))) × (List Int))
 | 0, _ => none
 | k + 1, ds => two_Det_1.c k ds
def two_Det_1.env (k : Nat) : Nat → List SV → List Chunk → KT (Int × Int × Int × Int × (List (List (Int × (Int × Unit)))) × (List Int)) → Option (Int × Int × Int × Int × (List (List (Int × (Int × Unit)))) × (List Int)) := env0
def two_Det_1.t5 : Tm := ⟨[(1, .p .bool), (2, .p (.int .i64)), (3, .p (.int .i64)), (5, .ptr 1 0), (6, .ptr 2 0), (13, .p (.int .i64)), (14, .p (.int .i64))], [.box [.p (.int .i64)] 3, .box [.p (.int .i64), .p (.int .i64), .p (.slice (.slice (.pair (.int .i64) (.pair (.int .i64) .unit)))), .p (.slice (.int .i64))] 76, .box [.p (.int .i64), .p (.int .i64), .p (.int .i64), .p (.int .i64), .p (.int .i64)] 142]⟩
def two_Det_1.c5 (k : Nat) (ds : List Dat) : Option (Int × Int × Int × Int × (List (List (Int × (Int × Unit)))) × (List Int)) := pop .bool ds fun x0 ds => pop (.int .i64) ds fun x1 ds => pop (.int .i64) ds fun x2 ds => pop (.int .i64) ds fun x3 ds => pop (.int .i64) ds fun x4 ds => pop (.int .i64) ds fun x5 ds => pop (.int .i64) ds fun x6 ds => pop (.int .i64) ds fun x7 ds => pop (.slice (.slice (.pair (.int .i64) (.pair (.int .i64) .unit)))) ds fun x8 ds => pop (.slice (.int .i64)) ds fun x9 ds => pop (.int .i64) ds fun x10 ds => pop (.int .i64) ds fun x11 ds => pop (.int .i64) ds fun x12 ds => pop (.int .i64) ds fun x13 ds => pop (.int .i64) ds fun x14 ds => popN ds (two_Det_1.l2 k x0 x1 x2 x3 x4 x5 x6 x7 x8 x9 x10 x11 x12 x13 x14)
def two_Det_1.tbl : List (Nat × Tm × (Nat → List Dat → Option (Int × Int × Int × Int × (List (List (Int × (Int × Unit)))) × (List Int)))) := [(5, two_Det_1.t5, two_Det_1.c5)]
noncomputable abbrev two_Det_1.R (k : Nat) := run T (two_Det_1.env k) Try.f107.ntmps (cutE 2 two_Det_1.tbl k) (finE 2 two_Det_1.to two_Det_1.out) (fnRes Try.f107) [] 100000 true
theorem two_Det_1.e5 (k : Nat) (x0 : Bool) (x1 : Int) (x2 : Int) (x3 : Int) (x4 : Int) (x5 : Int) (x6 : Int) (x7 : Int) (x8 : (List (List (Int × (Int × Unit))))) (x9 : (List Int)) (x10 : Int) (x11 : Int) (x12 : Int) (x13 : Int) (x14 : Int) : two_Det_1.l2 (k + 1) x0 x1 x2 x3 x4 x5 x6 x7 x8 x9 x10 x11 x12 x13 x14 = two_Det_1.R k (start (stackOf 5 two_Det_1.body)) (two_Det_1.t5.fill [⟨.bool, x0⟩, ⟨(.int .i64), x1⟩, ⟨(.int .i64), x2⟩, ⟨(.int .i64), x3⟩, ⟨(.int .i64), x4⟩, ⟨(.int .i64), x5⟩, ⟨(.int .i64), x6⟩, ⟨(.int .i64), x7⟩, ⟨(.slice (.slice (.pair (.int .i64) (.pair (.int .i64) .unit)))), x8⟩, ⟨(.slice (.int .i64)), x9⟩, ⟨(.int .i64), x10⟩, ⟨(.int .i64), x11⟩, ⟨(.int .i64), x12⟩, ⟨(.int .i64), x13⟩, ⟨(.int .i64), x14⟩]) := by kernel_rfl
theorem two_Det_1.s5 : stackAt 5 two_Det_1.body [] = some (stackOf 5 two_Det_1.body) := by kernel_rfl
theorem two_Det_1.h5 (k : Nat) (ds : List Dat) (r : Int × Int × Int × Int × (List (List (Int × (Int × Unit)))) × (List Int)) (h : two_Det_1.c5 k ds = some r) : ∃ k', k' < k ∧ ∃ s, stackAt 5 two_Det_1.body [] = some s ∧ two_Det_1.R k' (start s) (two_Det_1.t5.fill ds) = some r := by
  unfold two_Det_1.c5 at h
  obtain ⟨x0, d0, rfl, h0⟩ := pop_some h
  obtain ⟨x1, d1, rfl, h1⟩ := pop_some h0
  obtain ⟨x2, d2, rfl, h2⟩ := pop_some h1
  obtain ⟨x3, d3, rfl, h3⟩ := pop_some h2
  obtain ⟨x4, d4, rfl, h4⟩ := pop_some h3
  obtain ⟨x5, d5, rfl, h5⟩ := pop_some h4
  obtain ⟨x6, d6, rfl, h6⟩ := pop_some h5
  obtain ⟨x7, d7, rfl, h7⟩ := pop_some h6
  obtain ⟨x8, d8, rfl, h8⟩ := pop_some h7
  obtain ⟨x9, d9, rfl, h9⟩ := pop_some h8
  obtain ⟨x10, d10, rfl, h10⟩ := pop_some h9
  obtain ⟨x11, d11, rfl, h11⟩ := pop_some h10
  obtain ⟨x12, d12, rfl, h12⟩ := pop_some h11
  obtain ⟨x13, d13, rfl, h13⟩ := pop_some h12
  obtain ⟨x14, d14, rfl, h14⟩ := pop_some h13
  obtain ⟨rfl, g⟩ := popN_some h14
  cases k with
  | zero => cases (show none = some r from g)
  | succ k => exact ⟨k, Nat.lt_succ_self k, _, two_Det_1.s5, (two_Det_1.e5 k x0 x1 x2 x3 x4 x5 x6 x7 x8 x9 x10 x11 x12 x13 x14).symm.trans g⟩
theorem two_Det_1.e (k : Nat) (x0 : (Int × (Int × (Int × (Int × (Int × Unit)))))) (x1 : Bool) (x2 : Int) (x3 : Int) (x4 : Int) (x5 : Int) (x6 : Int) (x7 : (List (List (Int × (Int × Unit))))) (x8 : (List Int)) : two_Det_1.f k x0 x1 x2 x3 x4 x5 x6 x7 x8 = two_Det_1.R k ([.code two_Det_1.body]) (two_Det_1.ti.fill [⟨(.pair (.int .i64) (.pair (.int .i64) (.pair (.int .i64) (.pair (.int .i64) (.pair (.int .i64) .unit))))), x0⟩, ⟨.bool, x1⟩, ⟨(.int .i64), x2⟩, ⟨(.int .i64), x3⟩, ⟨(.int .i64), x4⟩, ⟨(.int .i64), x5⟩, ⟨(.int .i64), x6⟩, ⟨(.slice (.slice (.pair (.int .i64) (.pair (.int .i64) .unit)))), x7⟩, ⟨(.slice (.int .i64)), x8⟩]) := by kernel_rfl
theorem two_Det_1.h (k : Nat) (ds : List Dat) (r : Int × Int × Int × Int × (List (List (Int × (Int × Unit)))) × (List Int)) (h : two_Det_1.g k ds = some r) : ∃ k', k' < k ∧ two_Det_1.R k' ([.code two_Det_1.body]) (two_Det_1.ti.fill ds) = some r := by
  cases k with
  | zero => cases (show none = some r from h)
  | succ k =>
  replace h : two_Det_1.c k ds = some r := h
  unfold two_Det_1.c at h
  obtain ⟨x0, d0, rfl, h0⟩ := pop_some h
  obtain ⟨x1, d1, rfl, h1⟩ := pop_some h0
  obtain ⟨x2, d2, rfl, h2⟩ := pop_some h1
  obtain ⟨x3, d3, rfl, h3⟩ := pop_some h2
  obtain ⟨x4, d4, rfl, h4⟩ := pop_some h3
  obtain ⟨x5, d5, rfl, h5⟩ := pop_some h4
  obtain ⟨x6, d6, rfl, h6⟩ := pop_some h5
  obtain ⟨x7, d7, rfl, h7⟩ := pop_some h6
  obtain ⟨x8, d8, rfl, h8⟩ := pop_some h7
  obtain ⟨rfl, g⟩ := popN_some h8
  exact ⟨k, Nat.lt_succ_self k, (two_Det_1.e k x0 x1 x2 x3 x4 x5 x6 x7 x8).symm.trans g⟩
theorem two_Det_1.o (ds : List Dat) (r : Int × Int × Int × Int × (List (List (Int × (Int × Unit)))) × (List Int)) (h : two_Det_1.out ds = some r) : ds = two_Det_1.rs r := by
  unfold two_Det_1.out at h
  obtain ⟨x0, d0, rfl, h0⟩ := pop_some h
  obtain ⟨x1, d1, rfl, h1⟩ := pop_some h0
  obtain ⟨x2, d2, rfl, h2⟩ := pop_some h1
  obtain ⟨x3, d3, rfl, h3⟩ := pop_some h2
  obtain ⟨x4, d4, rfl, h4⟩ := pop_some h3
  obtain ⟨x5, d5, rfl, h5⟩ := pop_some h4
  obtain ⟨rfl, g⟩ := popN_some h5
  cases g
  rfl
theorem two_Det_1.fn : FnOk Try.prog 107 Try.f107 two_Det_1.body Try.f107.ntmps 6 (fnRes Try.f107) :=
  fnOk_of (by kernel_rfl) (by kernel_rfl) (by kernel_rfl) (by kernel_rfl)
theorem two_Det_1.con' : ∀ k ds r, two_Det_1.g k ds = some r → Con Try.prog 107 6 two_Det_1.ti two_Det_1.to ds (two_Det_1.rs r) :=
  fun_ok (T := T) T_ok mixed two_Det_1.fn (env := two_Det_1.env) (tbl := two_Det_1.tbl) (gOut := two_Det_1.out) (nin := 2) (cuts := []) (fuel := 100000) rfl (by kernel_rfl) (by kernel_rfl) (by kernel_rfl) (fun x hx => by
    simp only [two_Det_1.tbl, List.mem_cons, List.not_mem_nil, or_false] at hx
    subst hx
    · exact two_Det_1.h5
) two_Det_1.o two_Det_1.h (fun k _ => by unfold two_Det_1.env; exact env0_ok)
theorem two_Det_1.con (k : Nat) {x0 : (Int × (Int × (Int × (Int × (Int × Unit)))))} {x1 : Bool} {x2 : Int} {x3 : Int} {x4 : Int} {x5 : Int} {x6 : Int} {x7 : (List (List (Int × (Int × Unit))))} {x8 : (List Int)} (r : Int × Int × Int × Int × (List (List (Int × (Int × Unit)))) × (List Int)) (h : two_Det_1.f k x0 x1 x2 x3 x4 x5 x6 x7 x8 = some r) : Con Try.prog 107 6 two_Det_1.ti two_Det_1.to [⟨(.pair (.int .i64) (.pair (.int .i64) (.pair (.int .i64) (.pair (.int .i64) (.pair (.int .i64) .unit))))), x0⟩, ⟨.bool, x1⟩, ⟨(.int .i64), x2⟩, ⟨(.int .i64), x3⟩, ⟨(.int .i64), x4⟩, ⟨(.int .i64), x5⟩, ⟨(.int .i64), x6⟩, ⟨(.slice (.slice (.pair (.int .i64) (.pair (.int .i64) .unit)))), x7⟩, ⟨(.slice (.int .i64)), x8⟩] (two_Det_1.rs r) :=
  two_Det_1.con' (k + 1) _ r (by show two_Det_1.c k _ = some r; unfold two_Det_1.c; simp only [pop_self, popN]; exact h)
mutual
def two_Det_2.l3 : Nat → Int → Int → Int → Int → Int → Int → List (List ((Int × (Int × Unit)))) → List (Int) → Int → Int → Int → Int → Int → Int → Int → Int → Int → Int → Int → Int → Int → Int → Int → Option ((Int × Int × Int × Int × Int × Unit) × Int × Int × Int × List (List (Int × Int × Unit)) × List Int)
 | 0, _, _, _, _, _, _, _, _, _, _, _, _, _, _, _, _, _, _, _, _, _, _, _ => none
 | k + 1, letter1, x10, x11, c0_0, c2_0, c2_1, c2_2, c2_3, s4_0, s4_1, s4_2, s4_3, s4_4, x6_0, x6_1, x6_2, x6_3, x6_4, next7_0, next7_1, next7_2, next7_3, next7_4 =>
  if x11 < x10 then
   (two_Det_1.f k (s4_0, s4_1, s4_2, s4_3, s4_4, ()) false x11 letter1 c0_0 c2_0 c2_1 c2_2 c2_3).bind fun r3 =>
    if 0 ≤ x11 then
    if x11 < (↑5 : Int) then
     two_Det_2.l3 k letter1 x10 (Go.IntKind.i64.wrap (x11 + 1)) r3.snd.fst r3.snd.snd.fst r3.snd.snd.snd.fst r3.snd.snd.snd.snd.fst r3.snd.snd.snd.snd.snd s4_0 s4_1 s4_2 s4_3 s4_4 x6_0 x6_1 x6_2 x6_3 x6_4 (if x11.toNat = 0 then r3.fst else next7_0) (if x11.toNat = 0 + 1 then r3.fst else next7_1) (if x11.toNat = 0 + 1 + 1 then r3.fst else next7_2) (if x11.toNat = 0 + 1 + 1 + 1 then r3.fst else next7_3) (if x11.toNat = 0 + 1 + 1 + 1 + 1 then r3.fst else next7_4)
     else none
    else none
  else
   if 0 ≤ s4_4 then
    (two_Det_1.f k (s4_0, s4_1, s4_2, s4_3, s4_4, ()) false s4_4 letter1 c0_0 c2_0 c2_1 c2_2 c2_3).bind fun r4 =>
     two_Det_2.j9 k r4.snd.fst r4.snd.snd.fst r4.snd.snd.snd.fst r4.snd.snd.snd.snd.fst r4.snd.snd.snd.snd.snd x6_0 x6_1 x6_2 x6_3 x6_4 next7_0 next7_1 next7_2 next7_3 r4.fst
   else
    two_Det_2.j9 k c0_0 c2_0 c2_1 c2_2 c2_3 x6_0 x6_1 x6_2 x6_3 x6_4 next7_0 next7_1 next7_2 next7_3 next7_4
def two_Det_2.j9 : Nat → Int → Int → Int → List (List ((Int × (Int × Unit)))) → List (Int) → Int → Int → Int → Int → Int → Int → Int → Int → Int → Int → Option ((Int × Int × Int × Int × Int × Unit) × Int × Int × Int × List (List (Int × Int × Unit)) × List Int)
 | 0, _, _, _, _, _, _, _, _, _, _, _, _, _, _, _ => none
 | k + 1, c0_0, c2_0, c2_1, c2_2, c2_3, x6_0, x6_1, x6_2, x6_3, x6_4, next7_0, next7_1, next7_2, next7_3, next7_4 =>
  some ((next7_0, next7_1, next7_2, next7_3, next7_4, ()), c0_0, c2_0, c2_1, c2_2, c2_3)
end
def two_Det_2.f (k : Nat) (s0 : (Int × (Int × (Int × (Int × (Int × Unit)))))) (letter1 : Int) (x2_0 : Int) (c2_0 : Int) (c2_1 : Int) (c2_2 : List (List ((Int × (Int × Unit))))) (c2_3 : List (Int)) : Option ((Int × Int × Int × Int × Int × Unit) × Int × Int × Int × List (List (Int × Int × Unit)) × List Int) :=
 two_Det_2.l3 k letter1 x2_0 0 x2_0 c2_0 c2_1 c2_2 c2_3 s0.fst s0.snd.fst s0.snd.snd.fst s0.snd.snd.snd.fst s0.snd.snd.snd.snd.fst 0 0 0 0 0 (Int.instNegInt.1 1) (Int.instNegInt.1 1) (Int.instNegInt.1 1) (Int.instNegInt.1 1) (Int.instNegInt.1 1)

noncomputable def two_Det_2.body : Code := fnBody Try.f109
def two_Det_2.ti : Tm := ⟨[(0, .p (.pair (.int .i64) (.pair (.int .i64) (.pair (.int .i64) (.pair (.int .i64) (.pair (.int .i64) .unit)))))), (1, .p (.int .i64)), (2, .ptr 0 0), (3, .ptr 1 0)], [.box [.p (.int .i64)] 3, .box [.fn 107 [.ptr 0 0, .ptr 2 0]] 143, .box [.p (.int .i64), .p (.int .i64), .p (.slice (.slice (.pair (.int .i64) (.pair (.int .i64) .unit)))), .p (.slice (.int .i64))] 76]⟩
def two_Det_2.to : Tm := ⟨[(0, .p (.pair (.int .i64) (.pair (.int .i64) (.pair (.int .i64) (.pair (.int .i64) (.pair (.int .i64) .unit))))))], [.box [.p (.int .i64)] 3, .box [.fn 107 [.ptr 0 0, .ptr 2 0]] 143, .box [.p (.int .i64), .p (.int .i64), .p (.slice (.slice (.pair (.int .i64) (.pair (.int .i64) .unit)))), .p (.slice (.int .i64))] 76]⟩
def two_Det_2.rs (r : (Int × (Int × (Int × (Int × (Int × Unit))))) × Int × Int × Int × (List (List (Int × (Int × Unit)))) × (List Int)) : List Dat := [⟨(.pair (.int .i64) (.pair (.int .i64) (.pair (.int .i64) (.pair (.int .i64) (.pair (.int .i64) .unit))))), r.1⟩, ⟨(.int .i64), r.2.1⟩, ⟨(.int .i64), r.2.2.1⟩, ⟨(.int .i64), r.2.2.2.1⟩, ⟨(.slice (.slice (.pair (.int .i64) (.pair (.int .i64) .unit)))), r.2.2.2.2.1⟩, ⟨(.slice (.int .i64)), r.2.2.2.2.2⟩]
def two_Det_2.out (ds : List Dat) : Option ((Int × (Int × (Int × (Int × (Int × Unit))))) × Int × Int × Int × (List (List (Int × (Int × Unit)))) × (List Int)) := pop (.pair (.int .i64) (.pair (.int .i64) (.pair (.int .i64) (.pair (.int .i64) (.pair (.int .i64) .unit))))) ds fun x0 ds => pop (.int .i64) ds fun x1 ds => pop (.int .i64) ds fun x2 ds => pop (.int .i64) ds fun x3 ds => pop (.slice (.slice (.pair (.int .i64) (.pair (.int .i64) .unit)))) ds fun x4 ds => pop (.slice (.int .i64)) ds fun x5 ds => popN ds (some (x0, x1, x2, x3, x4, x5))
def two_Det_2.c (k : Nat) (ds : List Dat) : Option ((Int × (Int × (Int × (Int × (Int × Unit))))) × Int × Int × Int × (List (List (Int × (Int × Unit)))) × (List Int)) := pop (.pair (.int .i64) (.pair (.int .i64) (.pair (.int .i64) (.pair (.int .i64) (.pair (.int .i64) .unit))))) ds fun x0 ds => pop (.int .i64) ds fun x1 ds => pop (.int .i64) ds fun x2 ds => pop (.int .i64) ds fun x3 ds => pop (.int .i64) ds fun x4 ds => pop (.slice (.slice (.pair (.int .i64) (.pair (.int .i64) .unit)))) ds fun x5 ds => pop (.slice (.int .i64)) ds fun x6 ds => popN ds (two_Det_2.f k x0 x1 x2 x3 x4 x5 x6)
def two_Det_2.g : Nat → List Dat → Option ((Int × (Int × (Int × (Int × (Int × Unit))))) × Int × Int × Int × (List (List (Int × (Int × Unit)))) × (List Int))
 | 0, _ => none
 | k + 1, ds => two_Det_2.c k ds
def two_Det_2.env (k : Nat) : Nat → List SV → List Chunk → KT ((Int × (Int × (Int × (Int × (Int × Unit))))) × Int × Int × Int × (List (List (Int × (Int × Unit)))) × (List Int)) → Option ((Int × (Int × (Int × (Int × (Int × Unit))))) × Int × Int × Int × (List (List (Int × (Int × Unit)))) × (List Int)) := (envC 107 6 two_Det_1.ti two_Det_1.to (fun ds K => pop (.pair (.int .i64) (.pair (.int .i64) (.pair (.int .i64) (.pair (.int .i64) (.pair (.int .i64) .unit))))) ds fun x0 ds => pop .bool ds fun x1 ds => pop (.int .i64) ds fun x2 ds => pop (.int .i64) ds fun x3 ds => pop (.int .i64) ds fun x4 ds => pop (.int .i64) ds fun x5 ds => pop (.int .i64) ds fun x6 ds => pop (.slice (.slice (.pair (.int .i64) (.pair (.int .i64) .unit)))) ds fun x7 ds => pop (.slice (.int .i64)) ds fun x8 ds => popN ds ((two_Det_1.f k x0 x1 x2 x3 x4 x5 x6 x7 x8).bind fun r => K (two_Det_1.rs r))) env0)
def two_Det_2.t7 : Tm := ⟨[(1, .p (.int .i64)), (3, .ptr 1 0), (4, .ptr 3 0), (6, .ptr 4 0), (7, .ptr 5 0), (10, .p (.int .i64)), (11, .p (.int .i64))], [.box [.p (.int .i64)] 3, .box [.fn 107 [.ptr 0 0, .ptr 2 0]] 143, .box [.p (.int .i64), .p (.int .i64), .p (.slice (.slice (.pair (.int .i64) (.pair (.int .i64) .unit)))), .p (.slice (.int .i64))] 76, .box [.p (.int .i64), .p (.int .i64), .p (.int .i64), .p (.int .i64), .p (.int .i64)] 142, .box [.p (.int .i64), .p (.int .i64), .p (.int .i64), .p (.int .i64), .p (.int .i64)] 142, .box [.p (.int .i64), .p (.int .i64), .p (.int .i64), .p (.int .i64), .p (.int .i64)] 142]⟩
def two_Det_2.c7 (k : Nat) (ds : List Dat) : Option ((Int × (Int × (Int × (Int × (Int × Unit))))) × Int × Int × Int × (List (List (Int × (Int × Unit)))) × (List Int)) := pop (.int .i64) ds fun x0 ds => pop (.int .i64) ds fun x1 ds => pop (.int .i64) ds fun x2 ds => pop (.int .i64) ds fun x3 ds => pop (.int .i64) ds fun x4 ds => pop (.int .i64) ds fun x5 ds => pop (.slice (.slice (.pair (.int .i64) (.pair (.int .i64) .unit)))) ds fun x6 ds => pop (.slice (.int .i64)) ds fun x7 ds => pop (.int .i64) ds fun x8 ds => pop (.int .i64) ds fun x9 ds => pop (.int .i64) ds fun x10 ds => pop (.int .i64) ds fun x11 ds => pop (.int .i64) ds fun x12 ds => pop (.int .i64) ds fun x13 ds => pop (.int .i64) ds fun x14 ds => pop (.int .i64) ds fun x15 ds => pop (.int .i64) ds fun x16 ds => pop (.int .i64) ds fun x17 ds => pop (.int .i64) ds fun x18 ds => pop (.int .i64) ds fun x19 ds => pop (.int .i64) ds fun x20 ds => pop (.int .i64) ds fun x21 ds => pop (.int .i64) ds fun x22 ds => popN ds (two_Det_2.l3 k x0 x1 x2 x3 x4 x5 x6 x7 x8 x9 x10 x11 x12 x13 x14 x15 x16 x17 x18 x19 x20 x21 x22)
def two_Det_2.t18 : Tm := ⟨[(6, .ptr 3 0), (7, .ptr 4 0)], [.box [.p (.int .i64)] 3, .box [.fn 107 [.ptr 0 0, .ptr 2 0]] 143, .box [.p (.int .i64), .p (.int .i64), .p (.slice (.slice (.pair (.int .i64) (.pair (.int .i64) .unit)))), .p (.slice (.int .i64))] 76, .box [.p (.int .i64), .p (.int .i64), .p (.int .i64), .p (.int .i64), .p (.int .i64)] 142, .box [.p (.int .i64), .p (.int .i64), .p (.int .i64), .p (.int .i64), .p (.int .i64)] 142]⟩
def two_Det_2.c18 (k : Nat) (ds : List Dat) : Option ((Int × (Int × (Int × (Int × (Int × Unit))))) × Int × Int × Int × (List (List (Int × (Int × Unit)))) × (List Int)) := pop (.int .i64) ds fun x0 ds => pop (.int .i64) ds fun x1 ds => pop (.int .i64) ds fun x2 ds => pop (.slice (.slice (.pair (.int .i64) (.pair (.int .i64) .unit)))) ds fun x3 ds => pop (.slice (.int .i64)) ds fun x4 ds => pop (.int .i64) ds fun x5 ds => pop (.int .i64) ds fun x6 ds => pop (.int .i64) ds fun x7 ds => pop (.int .i64) ds fun x8 ds => pop (.int .i64) ds fun x9 ds => pop (.int .i64) ds fun x10 ds => pop (.int .i64) ds fun x11 ds => pop (.int .i64) ds fun x12 ds => pop (.int .i64) ds fun x13 ds => pop (.int .i64) ds fun x14 ds => popN ds (two_Det_2.j9 k x0 x1 x2 x3 x4 x5 x6 x7 x8 x9 x10 x11 x12 x13 x14)
def two_Det_2.tbl : List (Nat × Tm × (Nat → List Dat → Option ((Int × (Int × (Int × (Int × (Int × Unit))))) × Int × Int × Int × (List (List (Int × (Int × Unit)))) × (List Int)))) := [(7, two_Det_2.t7, two_Det_2.c7), (18, two_Det_2.t18, two_Det_2.c18)]
noncomputable abbrev two_Det_2.R (k : Nat) := run T (two_Det_2.env k) Try.f109.ntmps (cutE 3 two_Det_2.tbl k) (finE 3 two_Det_2.to two_Det_2.out) (fnRes Try.f109) [9] 100000 true
theorem two_Det_2.e7 (k : Nat) (x0 : Int) (x1 : Int) (x2 : Int) (x3 : Int) (x4 : Int) (x5 : Int) (x6 : (List (List (Int × (Int × Unit))))) (x7 : (List Int)) (x8 : Int) (x9 : Int) (x10 : Int) (x11 : Int) (x12 : Int) (x13 : Int) (x14 : Int) (x15 : Int) (x16 : Int) (x17 : Int) (x18 : Int) (x19 : Int) (x20 : Int) (x21 : Int) (x22 : Int) : two_Det_2.l3 (k + 1) x0 x1 x2 x3 x4 x5 x6 x7 x8 x9 x10 x11 x12 x13 x14 x15 x16 x17 x18 x19 x20 x21 x22 = two_Det_2.R k (start (stackOf 7 two_Det_2.body)) (two_Det_2.t7.fill [⟨(.int .i64), x0⟩, ⟨(.int .i64), x1⟩, ⟨(.int .i64), x2⟩, ⟨(.int .i64), x3⟩, ⟨(.int .i64), x4⟩, ⟨(.int .i64), x5⟩, ⟨(.slice (.slice (.pair (.int .i64) (.pair (.int .i64) .unit)))), x6⟩, ⟨(.slice (.int .i64)), x7⟩, ⟨(.int .i64), x8⟩, ⟨(.int .i64), x9⟩, ⟨(.int .i64), x10⟩, ⟨(.int .i64), x11⟩, ⟨(.int .i64), x12⟩, ⟨(.int .i64), x13⟩, ⟨(.int .i64), x14⟩, ⟨(.int .i64), x15⟩, ⟨(.int .i64), x16⟩, ⟨(.int .i64), x17⟩, ⟨(.int .i64), x18⟩, ⟨(.int .i64), x19⟩, ⟨(.int .i64), x20⟩, ⟨(.int .i64), x21⟩, ⟨(.int .i64), x22⟩]) := by kernel_rfl
theorem two_Det_2.s7 : stackAt 7 two_Det_2.body [] = some (stackOf 7 two_Det_2.body) := by kernel_rfl
theorem two_Det_2.h7 (k : Nat) (ds : List Dat) (r : (Int × (Int × (Int × (Int × (Int × Unit))))) × Int × Int × Int × (List (List (Int × (Int × Unit)))) × (List Int)) (h : two_Det_2.c7 k ds = some r) : ∃ k', k' < k ∧ ∃ s, stackAt 7 two_Det_2.body [] = some s ∧ two_Det_2.R k' (start s) (two_Det_2.t7.fill ds) = some r := by
  unfold two_Det_2.c7 at h
  obtain ⟨x0, d0, rfl, h0⟩ := pop_some h
  obtain ⟨x1, d1, rfl, h1⟩ := pop_some h0
  obtain ⟨x2, d2, rfl, h2⟩ := pop_some h1
  obtain ⟨x3, d3, rfl, h3⟩ := pop_some h2
  obtain ⟨x4, d4, rfl, h4⟩ := pop_some h3
  obtain ⟨x5, d5, rfl, h5⟩ := pop_some h4
  obtain ⟨x6, d6, rfl, h6⟩ := pop_some h5
  obtain ⟨x7, d7, rfl, h7⟩ := pop_some h6
  obtain ⟨x8, d8, rfl, h8⟩ := pop_some h7
  obtain ⟨x9, d9, rfl, h9⟩ := pop_some h8
  obtain ⟨x10, d10, rfl, h10⟩ := pop_some h9
  obtain ⟨x11, d11, rfl, h11⟩ := pop_some h10
  obtain ⟨x12, d12, rfl, h12⟩ := pop_some h11
  obtain ⟨x13, d13, rfl, h13⟩ := pop_some h12
  obtain ⟨x14, d14, rfl, h14⟩ := pop_some h13
  obtain ⟨x15, d15, rfl, h15⟩ := pop_some h14
  obtain ⟨x16, d16, rfl, h16⟩ := pop_some h15
  obtain ⟨x17, d17, rfl, h17⟩ := pop_some h16
  obtain ⟨x18, d18, rfl, h18⟩ := pop_some h17
  obtain ⟨x19, d19, rfl, h19⟩ := pop_some h18
  obtain ⟨x20, d20, rfl, h20⟩ := pop_some h19
  obtain ⟨x21, d21, rfl, h21⟩ := pop_some h20
  obtain ⟨x22, d22, rfl, h22⟩ := pop_some h21
  obtain ⟨rfl, g⟩ := popN_some h22
  cases k with
  | zero => cases (show none = some r from g)
  | succ k => exact ⟨k, Nat.lt_succ_self k, _, two_Det_2.s7, (two_Det_2.e7 k x0 x1 x2 x3 x4 x5 x6 x7 x8 x9 x10 x11 x12 x13 x14 x15 x16 x17 x18 x19 x20 x21 x22).symm.trans g⟩
theorem two_Det_2.e18 (k : Nat) (x0 : Int) (x1 : Int) (x2 : Int) (x3 : (List (List (Int × (Int × Unit))))) (x4 : (List Int)) (x5 : Int) (x6 : Int) (x7 : Int) (x8 : Int) (x9 : Int) (x10 : Int) (x11 : Int) (x12 : Int) (x13 : Int) (x14 : Int) : two_Det_2.j9 (k + 1) x0 x1 x2 x3 x4 x5 x6 x7 x8 x9 x10 x11 x12 x13 x14 = two_Det_2.R k (start (stackOf 18 two_Det_2.body)) (two_Det_2.t18.fill [⟨(.int .i64), x0⟩, ⟨(.int .i64), x1⟩, ⟨(.int .i64), x2⟩, ⟨(.slice (.slice (.pair (.int .i64) (.pair (.int .i64) .unit)))), x3⟩, ⟨(.slice (.int .i64)), x4⟩, ⟨(.int .i64), x5⟩, ⟨(.int .i64), x6⟩, ⟨(.int .i64), x7⟩, ⟨(.int .i64), x8⟩, ⟨(.int .i64), x9⟩, ⟨(.int .i64), x10⟩, ⟨(.int .i64), x11⟩, ⟨(.int .i64), x12⟩, ⟨(.int .i64), x13⟩, ⟨(.int .i64), x14⟩]) := by kernel_rfl
theorem two_Det_2.s18 : stackAt 18 two_Det_2.body [] = some (stackOf 18 two_Det_2.body) := by kernel_rfl
theorem two_Det_2.h18 (k : Nat) (ds : List Dat) (r : (Int × (Int × (Int × (Int × (Int × Unit))))) × Int × Int × Int × (List (List (Int × (Int × Unit)))) × (List Int)) (h : two_Det_2.c18 k ds = some r) : ∃ k', k' < k ∧ ∃ s, stackAt 18 two_Det_2.body [] = some s ∧ two_Det_2.R k' (start s) (two_Det_2.t18.fill ds) = some r := by
  unfold two_Det_2.c18 at h
  obtain ⟨x0, d0, rfl, h0⟩ := pop_some h
  obtain ⟨x1, d1, rfl, h1⟩ := pop_some h0
  obtain ⟨x2, d2, rfl, h2⟩ := pop_some h1
  obtain ⟨x3, d3, rfl, h3⟩ := pop_some h2
  obtain ⟨x4, d4, rfl, h4⟩ := pop_some h3
  obtain ⟨x5, d5, rfl, h5⟩ := pop_some h4
  obtain ⟨x6, d6, rfl, h6⟩ := pop_some h5
  obtain ⟨x7, d7, rfl, h7⟩ := pop_some h6
  obtain ⟨x8, d8, rfl, h8⟩ := pop_some h7
  obtain ⟨x9, d9, rfl, h9⟩ := pop_some h8
  obtain ⟨x10, d10, rfl, h10⟩ := pop_some h9
  obtain ⟨x11, d11, rfl, h11⟩ := pop_some h10
  obtain ⟨x12, d12, rfl, h12⟩ := pop_some h11
  obtain ⟨x13, d13, rfl, h13⟩ := pop_some h12
  obtain ⟨x14, d14, rfl, h14⟩ := pop_some h13
  obtain ⟨rfl, g⟩ := popN_some h14
  cases k with
  | zero => cases (show none = some r from g)
  | succ k => exact ⟨k, Nat.lt_succ_self k, _, two_Det_2.s18, (two_Det_2.e18 k x0 x1 x2 x3 x4 x5 x6 x7 x8 x9 x10 x11 x12 x13 x14).symm.trans g⟩
theorem two_Det_2.e (k : Nat) (x0 : (Int × (Int × (Int × (Int × (Int × Unit)))))) (x1 : Int) (x2 : Int) (x3 : Int) (x4 : Int) (x5 : (List (List (Int × (Int × Unit))))) (x6 : (List Int)) : two_Det_2.f k x0 x1 x2 x3 x4 x5 x6 = two_Det_2.R k ([.code two_Det_2.body]) (two_Det_2.ti.fill [⟨(.pair (.int .i64) (.pair (.int .i64) (.pair (.int .i64) (.pair (.int .i64) (.pair (.int .i64) .unit))))), x0⟩, ⟨(.int .i64), x1⟩, ⟨(.int .i64), x2⟩, ⟨(.int .i64), x3⟩, ⟨(.int .i64), x4⟩, ⟨(.slice (.slice (.pair (.int .i64) (.pair (.int .i64) .unit)))), x5⟩, ⟨(.slice (.int .i64)), x6⟩]) := by kernel_rfl
theorem two_Det_2.h (k : Nat) (ds : List Dat) (r : (Int × (Int × (Int × (Int × (Int × Unit))))) × Int × Int × Int × (List (List (Int × (Int × Unit)))) × (List Int)) (h : two_Det_2.g k ds = some r) : ∃ k', k' < k ∧ two_Det_2.R k' ([.code two_Det_2.body]) (two_Det_2.ti.fill ds) = some r := by
  cases k with
  | zero => cases (show none = some r from h)
  | succ k =>
  replace h : two_Det_2.c k ds = some r := h
  unfold two_Det_2.c at h
  obtain ⟨x0, d0, rfl, h0⟩ := pop_some h
  obtain ⟨x1, d1, rfl, h1⟩ := pop_some h0
  obtain ⟨x2, d2, rfl, h2⟩ := pop_some h1
  obtain ⟨x3, d3, rfl, h3⟩ := pop_some h2
  obtain ⟨x4, d4, rfl, h4⟩ := pop_some h3
  obtain ⟨x5, d5, rfl, h5⟩ := pop_some h4
  obtain ⟨x6, d6, rfl, h6⟩ := pop_some h5
  obtain ⟨rfl, g⟩ := popN_some h6
  exact ⟨k, Nat.lt_succ_self k, (two_Det_2.e k x0 x1 x2 x3 x4 x5 x6).symm.trans g⟩
theorem two_Det_2.o (ds : List Dat) (r : (Int × (Int × (Int × (Int × (Int × Unit))))) × Int × Int × Int × (List (List (Int × (Int × Unit)))) × (List Int)) (h : two_Det_2.out ds = some r) : ds = two_Det_2.rs r := by
  unfold two_Det_2.out at h
  obtain ⟨x0, d0, rfl, h0⟩ := pop_some h
  obtain ⟨x1, d1, rfl, h1⟩ := pop_some h0
  obtain ⟨x2, d2, rfl, h2⟩ := pop_some h1
  obtain ⟨x3, d3, rfl, h3⟩ := pop_some h2
  obtain ⟨x4, d4, rfl, h4⟩ := pop_some h3
  obtain ⟨x5, d5, rfl, h5⟩ := pop_some h4
  obtain ⟨rfl, g⟩ := popN_some h5
  cases g
  rfl
theorem two_Det_2.fn : FnOk Try.prog 109 Try.f109 two_Det_2.body Try.f109.ntmps 4 (fnRes Try.f109) :=
  fnOk_of (by kernel_rfl) (by kernel_rfl) (by kernel_rfl) (by kernel_rfl)
theorem two_Det_2.con' : ∀ k ds r, two_Det_2.g k ds = some r → Con Try.prog 109 4 two_Det_2.ti two_Det_2.to ds (two_Det_2.rs r) :=
  fun_ok (T := T) T_ok mixed two_Det_2.fn (env := two_Det_2.env) (tbl := two_Det_2.tbl) (gOut := two_Det_2.out) (nin := 3) (cuts := [9]) (fuel := 100000) rfl (by kernel_rfl) (by kernel_rfl) (by kernel_rfl) (fun x hx => by
    simp only [two_Det_2.tbl, List.mem_cons, List.not_mem_nil, or_false] at hx
    rcases hx with rfl | rfl
    · exact two_Det_2.h7
    · exact two_Det_2.h18
) two_Det_2.o two_Det_2.h (fun k _ => by unfold two_Det_2.env; exact (envC_ok (fun ds K r h => by
    obtain ⟨x0, d0, rfl, h0⟩ := pop_some h
    obtain ⟨x1, d1, rfl, h1⟩ := pop_some h0
    obtain ⟨x2, d2, rfl, h2⟩ := pop_some h1
    obtain ⟨x3, d3, rfl, h3⟩ := pop_some h2
    obtain ⟨x4, d4, rfl, h4⟩ := pop_some h3
    obtain ⟨x5, d5, rfl, h5⟩ := pop_some h4
    obtain ⟨x6, d6, rfl, h6⟩ := pop_some h5
    obtain ⟨x7, d7, rfl, h7⟩ := pop_some h6
    obtain ⟨x8, d8, rfl, h8⟩ := pop_some h7
    obtain ⟨rfl, g⟩ := popN_some h8
    obtain ⟨r1, h1, h2⟩ := bind_some g
    exact ⟨_, h2, two_Det_1.con k _ h1⟩) env0_ok))
theorem two_Det_2.con (k : Nat) {x0 : (Int × (Int × (Int × (Int × (Int × Unit)))))} {x1 : Int} {x2 : Int} {x3 : Int} {x4 : Int} {x5 : (List (List (Int × (Int × Unit))))} {x6 : (List Int)} (r : (Int × (Int × (Int × (Int × (Int × Unit))))) × Int × Int × Int × (List (List (Int × (Int × Unit)))) × (List Int)) (h : two_Det_2.f k x0 x1 x2 x3 x4 x5 x6 = some r) : Con Try.prog 109 4 two_Det_2.ti two_Det_2.to [⟨(.pair (.int .i64) (.pair (.int .i64) (.pair (.int .i64) (.pair (.int .i64) (.pair (.int .i64) .unit))))), x0⟩, ⟨(.int .i64), x1⟩, ⟨(.int .i64), x2⟩, ⟨(.int .i64), x3⟩, ⟨(.int .i64), x4⟩, ⟨(.slice (.slice (.pair (.int .i64) (.pair (.int .i64) .unit)))), x5⟩, ⟨(.slice (.int .i64)), x6⟩] (two_Det_2.rs r) :=
  two_Det_2.con' (k + 1) _ r (by show two_Det_2.c k _ = some r; unfold two_Det_2.c; simp only [pop_self, popN]; exact h)
def two_Det_3.f (k : Nat) (s0 : (Int × (Int × (Int × (Int × (Int × Unit)))))) (x2_0 : Int) (x2_1 : Int) (x2_2 : List (List ((Int × (Int × Unit))))) (x2_3 : List (Int)) (c2_0 : Int) : Option (Int × Int × Int × List (List (Int × Int × Unit)) × List Int × Int) :=
 if s0.snd.snd.snd.snd.fst < 0 then
  some (0, x2_0, x2_1, x2_2, x2_3, c2_0)
 else
  (two_Det_1.f k (s0.fst, s0.snd.fst, s0.snd.snd.fst, s0.snd.snd.snd.fst, s0.snd.snd.snd.snd.fst, ()) false s0.snd.snd.snd.snd.fst (Go.IntKind.i64.wrap (x2_0 + 1)) c2_0 x2_0 x2_1 x2_2 x2_3).bind fun r2 =>
   if 0 ≤ r2.fst then
    if 0 ≤ r2.fst then
    if r2.fst < (↑r2.snd.snd.snd.snd.snd.length : Int) then
     some (Go.Proofs.YtiiioobebeaafaaSx.rd (Int.ofNat 0) r2.snd.snd.snd.snd.snd r2.fst, r2.snd.snd.fst, r2.snd.snd.snd.fst, r2.snd.snd.snd.snd.fst, r2.snd.snd.snd.snd.snd, r2.snd.fst)
     else none
    else none
   else
    some (0, r2.snd.snd.fst, r2.snd.snd.snd.fst, r2.snd.snd.snd.snd.fst, r2.snd.snd.snd.snd.snd, r2.snd.fst)

noncomputable def two_Det_3.body : Code := fnBody Try.f110
def two_Det_3.ti : Tm := ⟨[(0, .p (.pair (.int .i64) (.pair (.int .i64) (.pair (.int .i64) (.pair (.int .i64) (.pair (.int .i64) .unit)))))), (1, .ptr 0 0), (2, .ptr 1 0)], [.box [.fn 107 [.ptr 2 0, .ptr 1 0]] 143, .box [.p (.int .i64), .p (.int .i64), .p (.slice (.slice (.pair (.int .i64) (.pair (.int .i64) .unit)))), .p (.slice (.int .i64))] 76, .box [.p (.int .i64)] 3]⟩
def two_Det_3.to : Tm := ⟨[(0, .p (.int .i64))], [.box [.fn 107 [.ptr 2 0, .ptr 1 0]] 143, .box [.p (.int .i64), .p (.int .i64), .p (.slice (.slice (.pair (.int .i64) (.pair (.int .i64) .unit)))), .p (.slice (.int .i64))] 76, .box [.p (.int .i64)] 3]⟩
def two_Det_3.rs (r : Int × Int × Int × (List (List (Int × (Int × Unit)))) × (List Int) × Int) : List Dat := [⟨(.int .i64), r.1⟩, ⟨(.int .i64), r.2.1⟩, ⟨(.int .i64), r.2.2.1⟩, ⟨(.slice (.slice (.pair (.int .i64) (.pair (.int .i64) .unit)))), r.2.2.2.1⟩, ⟨(.slice (.int .i64)), r.2.2.2.2.1⟩, ⟨(.int .i64), r.2.2.2.2.2⟩]
def two_Det_3.out (ds : List Dat) : Option (Int × Int × Int × (List (List (Int × (Int × Unit)))) × (List Int) × Int) := pop (.int .i64) ds fun x0 ds => pop (.int .i64) ds fun x1 ds => pop (.int .i64) ds fun x2 ds => pop (.slice (.slice (.pair (.int .i64) (.pair (.int .i64) .unit)))) ds fun x3 ds => pop (.slice (.int .i64)) ds fun x4 ds => pop (.int .i64) ds fun x5 ds => popN ds (some (x0, x1, x2, x3, x4, x5))
def two_Det_3.c (k : Nat) (ds : List Dat) : Option (Int × Int × Int × (List (List (Int × (Int × Unit)))) × (List Int) × Int) := pop (.pair (.int .i64) (.pair (.int .i64) (.pair (.int .i64) (.pair (.int .i64) (.pair (.int .i64) .unit))))) ds fun x0 ds => pop (.int .i64) ds fun x1 ds => pop (.int .i64) ds fun x2 ds => pop (.slice (.slice (.pair (.int .i64) (.pair (.int .i64) .unit)))) ds fun x3 ds => pop (.slice (.int .i64)) ds fun x4 ds => pop (.int .i64) ds fun x5 ds => popN ds (two_Det_3.f k x0 x1 x2 x3 x4 x5)
def two_Det_3.g : Nat → List Dat → Option (Int × Int × Int × (List (List (Int × (Int × Unit)))) × (List Int) × Int)
 | 0, _ => none
 | k + 1, ds => two_Det_3.c k ds
def two_Det_3.env (k : Nat) : Nat → List SV → List Chunk → KT (Int × Int × Int × (List (List (Int × (Int × Unit)))) × (List Int) × Int) → Option (Int × Int × Int × (List (List (Int × (Int × Unit)))) × (List Int) × Int) := (envC 107 6 two_Det_1.ti two_Det_1.to (fun ds K => pop (.pair (.int .i64) (.pair (.int .i64) (.pair (.int .i64) (.pair (.int .i64) (.pair (.int .i64) .unit))))) ds fun x0 ds => pop .bool ds fun x1 ds => pop (.int .i64) ds fun x2 ds => pop (.int .i64) ds fun x3 ds => pop (.int .i64) ds fun x4 ds => pop (.int .i64) ds fun x5 ds => pop (.int .i64) ds fun x6 ds => pop (.slice (.slice (.pair (.int .i64) (.pair (.int .i64) .unit)))) ds fun x7 ds => pop (.slice (.int .i64)) ds fun x8 ds => popN ds ((two_Det_1.f k x0 x1 x2 x3 x4 x5 x6 x7 x8).bind fun r => K (two_Det_1.rs r))) env0)
def two_Det_3.tbl : List (Nat × Tm × (Nat → List Dat → Option (Int × Int × Int × (List (List (Int × (Int × Unit)))) × (List Int) × Int))) := []
noncomputable abbrev two_Det_3.R (k : Nat) := run T (two_Det_3.env k) Try.f110.ntmps (cutE 3 two_Det_3.tbl k) (finE 3 two_Det_3.to two_Det_3.out) (fnRes Try.f110) [] 100000 true
theorem two_Det_3.e (k : Nat) (x0 : (Int × (Int × (Int × (Int × (Int × Unit)))))) (x1 : Int) (x2 : Int) (x3 : (List (List (Int × (Int × Unit))))) (x4 : (List Int)) (x5 : Int) : two_Det_3.f k x0 x1 x2 x3 x4 x5 = two_Det_3.R k ([.code two_Det_3.body]) (two_Det_3.ti.fill [⟨(.pair (.int .i64) (.pair (.int .i64) (.pair (.int .i64) (.pair (.int .i64) (.pair (.int .i64) .unit))))), x0⟩, ⟨(.int .i64), x1⟩, ⟨(.int .i64), x2⟩, ⟨(.slice (.slice (.pair (.int .i64) (.pair (.int .i64) .unit)))), x3⟩, ⟨(.slice (.int .i64)), x4⟩, ⟨(.int .i64), x5⟩]) := by kernel_rfl
theorem two_Det_3.h (k : Nat) (ds : List Dat) (r : Int × Int × Int × (List (List (Int × (Int × Unit)))) × (List Int) × Int) (h : two_Det_3.g k ds = some r) : ∃ k', k' < k ∧ two_Det_3.R k' ([.code two_Det_3.body]) (two_Det_3.ti.fill ds) = some r := by
  cases k with
  | zero => cases (show none = some r from h)
  | succ k =>
  replace h : two_Det_3.c k ds = some r := h
  unfold two_Det_3.c at h
  obtain ⟨x0, d0, rfl, h0⟩ := pop_some h
  obtain ⟨x1, d1, rfl, h1⟩ := pop_some h0
  obtain ⟨x2, d2, rfl, h2⟩ := pop_some h1
  obtain ⟨x3, d3, rfl, h3⟩ := pop_some h2
  obtain ⟨x4, d4, rfl, h4⟩ := pop_some h3
  obtain ⟨x5, d5, rfl, h5⟩ := pop_some h4
  obtain ⟨rfl, g⟩ := popN_some h5
  exact ⟨k, Nat.lt_succ_self k, (two_Det_3.e k x0 x1 x2 x3 x4 x5).symm.trans g⟩
theorem two_Det_3.o (ds : List Dat) (r : Int × Int × Int × (List (List (Int × (Int × Unit)))) × (List Int) × Int) (h : two_Det_3.out ds = some r) : ds = two_Det_3.rs r := by
  unfold two_Det_3.out at h
  obtain ⟨x0, d0, rfl, h0⟩ := pop_some h
  obtain ⟨x1, d1, rfl, h1⟩ := pop_some h0
  obtain ⟨x2, d2, rfl, h2⟩ := pop_some h1
  obtain ⟨x3, d3, rfl, h3⟩ := pop_some h2
  obtain ⟨x4, d4, rfl, h4⟩ := pop_some h3
  obtain ⟨x5, d5, rfl, h5⟩ := pop_some h4
  obtain ⟨rfl, g⟩ := popN_some h5
  cases g
  rfl
theorem two_Det_3.fn : FnOk Try.prog 110 Try.f110 two_Det_3.body Try.f110.ntmps 3 (fnRes Try.f110) :=
  fnOk_of (by kernel_rfl) (by kernel_rfl) (by kernel_rfl) (by kernel_rfl)
theorem two_Det_3.con' : ∀ k ds r, two_Det_3.g k ds = some r → Con Try.prog 110 3 two_Det_3.ti two_Det_3.to ds (two_Det_3.rs r) :=
  fun_ok (T := T) T_ok mixed two_Det_3.fn (env := two_Det_3.env) (tbl := two_Det_3.tbl) (gOut := two_Det_3.out) (nin := 3) (cuts := []) (fuel := 100000) rfl (by kernel_rfl) (by kernel_rfl) (by kernel_rfl) (fun x hx => by simp [two_Det_3.tbl] at hx) two_Det_3.o two_Det_3.h (fun k _ => by unfold two_Det_3.env; exact (envC_ok (fun ds K r h => by
    obtain ⟨x0, d0, rfl, h0⟩ := pop_some h
    obtain ⟨x1, d1, rfl, h1⟩ := pop_some h0
    obtain ⟨x2, d2, rfl, h2⟩ := pop_some h1
    obtain ⟨x3, d3, rfl, h3⟩ := pop_some h2
    obtain ⟨x4, d4, rfl, h4⟩ := pop_some h3
    obtain ⟨x5, d5, rfl, h5⟩ := pop_some h4
    obtain ⟨x6, d6, rfl, h6⟩ := pop_some h5
    obtain ⟨x7, d7, rfl, h7⟩ := pop_some h6
    obtain ⟨x8, d8, rfl, h8⟩ := pop_some h7
    obtain ⟨rfl, g⟩ := popN_some h8
    obtain ⟨r1, h1, h2⟩ := bind_some g
    exact ⟨_, h2, two_Det_1.con k _ h1⟩) env0_ok))
theorem two_Det_3.con (k : Nat) {x0 : (Int × (Int × (Int × (Int × (Int × Unit)))))} {x1 : Int} {x2 : Int} {x3 : (List (List (Int × (Int × Unit))))} {x4 : (List Int)} {x5 : Int} (r : Int × Int × Int × (List (List (Int × (Int × Unit)))) × (List Int) × Int) (h : two_Det_3.f k x0 x1 x2 x3 x4 x5 = some r) : Con Try.prog 110 3 two_Det_3.ti two_Det_3.to [⟨(.pair (.int .i64) (.pair (.int .i64) (.pair (.int .i64) (.pair (.int .i64) (.pair (.int .i64) .unit))))), x0⟩, ⟨(.int .i64), x1⟩, ⟨(.int .i64), x2⟩, ⟨(.slice (.slice (.pair (.int .i64) (.pair (.int .i64) .unit)))), x3⟩, ⟨(.slice (.int .i64)), x4⟩, ⟨(.int .i64), x5⟩] (two_Det_3.rs r) :=
  two_Det_3.con' (k + 1) _ r (by show two_Det_3.c k _ = some r; unfold two_Det_3.c; simp only [pop_self, popN]; exact h)
mutual
def det_Explore_two_table_.l4 : Nat → Int → Int → Int → Int → Int → List (List ((Int × (Int × Unit)))) → List (Int) → Int → Int → Int → Int → List (((Int × (Int × (Int × (Int × (Int × Unit))))) × Int)) → List ((Int × (Int × (Int × (Int × (Int × Unit)))))) → List (List (Int)) → List (Int) → List (List (Int)) → List (Int) → Option (Int × Int × Bool × Int × Int × Int × List (List (Int × Int × Unit)) × List Int × List (List Int) × List Int)
 | 0, _, _, _, _, _, _, _, _, _, _, _, _, _, _, _, _, _ => none
 | k + 1, letters0, most4, c0_0, c2_0, c2_1, c2_2, c2_3, x10_0, x10_1, d12_0, d12_1, number13, l14, c7, c8, c9, c10 =>
  if (↑c9.length : Int) < (↑l14.length : Int) then
   if 0 ≤ (↑c9.length : Int) then
   if (↑c9.length : Int) < (↑l14.length : Int) then
    if 0 ≤ letters0 then
     if letters0 ≤ letters0 then
      if letters0 * ((↑8 : Int) + 1) ≤ 1099511627776 then
       det_Explore_two_table_.l8 k letters0 most4 letters0 0 c0_0 c2_0 c2_1 c2_2 c2_3 x10_0 x10_1 d12_0 d12_1 number13 l14 ((l14.getD (↑c9.length : Int).toNat (Int.ofNat 0, Int.ofNat 0, Int.ofNat 0, Int.ofNat 0, Int.ofNat 0, ())).fst) ((l14.getD (↑c9.length : Int).toNat (Int.ofNat 0, Int.ofNat 0, Int.ofNat 0, Int.ofNat 0, Int.ofNat 0, ())).snd.fst) ((l14.getD (↑c9.length : Int).toNat (Int.ofNat 0, Int.ofNat 0, Int.ofNat 0, Int.ofNat 0, Int.ofNat 0, ())).snd.snd.fst) ((l14.getD (↑c9.length : Int).toNat (Int.ofNat 0, Int.ofNat 0, Int.ofNat 0, Int.ofNat 0, Int.ofNat 0, ())).snd.snd.snd.fst) ((l14.getD (↑c9.length : Int).toNat (Int.ofNat 0, Int.ofNat 0, Int.ofNat 0, Int.ofNat 0, Int.ofNat 0, ())).snd.snd.snd.snd.fst) (List.replicate letters0.toNat (Int.ofNat 0)) c7 c8 c9 c10
       else none
      else none
     else none
    else none
   else none
  else
   some (d12_0, d12_1, true, c0_0, c2_0, c2_1, c2_2, c2_3, c9, c10)
def det_Explore_two_table_.l8 : Nat → Int → Int → Int → Int → Int → Int → Int → List (List ((Int × (Int × Unit)))) → List (Int) → Int → Int → Int → Int → List (((Int × (Int × (Int × (Int × (Int × Unit))))) × Int)) → List ((Int × (Int × (Int × (Int × (Int × Unit)))))) → Int → Int → Int → Int → Int → List (Int) → List (List (Int)) → List (Int) → List (List (Int)) → List (Int) → Option (Int × Int × Bool × Int × Int × Int × List (List (Int × Int × Unit)) × List Int × List (List Int) × List Int)
 | 0, _, _, _, _, _, _, _, _, _, _, _, _, _, _, _, _, _, _, _, _, _, _, _, _, _ => none
 | k + 1, letters0, most4, x42, x43, c0_0, c2_0, c2_1, c2_2, c2_3, x10_0, x10_1, d12_0, d12_1, number13, l14, k15_0, k15_1, k15_2, k15_3, k15_4, row16, c9, c10, c11, c12 =>
  if x43 < x42 then
   (two_Det_2.f k (k15_0, k15_1, k15_2, k15_3, k15_4, ()) x43 c0_0 c2_0 c2_1 c2_2 c2_3).bind fun r3 =>
    if Go.Proofs.YtiiioobebeaafaaSx.mhas ((Go.Proofs.YtiiioobebeaafaaSx.Ty.int Go.IntKind.i64).pair ((Go.Proofs.YtiiioobebeaafaaSx.Ty.int Go.IntKind.i64).pair ((Go.Proofs.YtiiioobebeaafaaSx.Ty.int Go.IntKind.i64).pair ((Go.Proofs.YtiiioobebeaafaaSx.Ty.int Go.IntKind.i64).pair ((Go.Proofs.YtiiioobebeaafaaSx.Ty.int Go.IntKind.i64).pair Go.Proofs.YtiiioobebeaafaaSx.Ty.unit))))) (Go.Proofs.YtiiioobebeaafaaSx.Ty.int Go.IntKind.i64) number13 (r3.fst.fst, r3.fst.snd.fst, r3.fst.snd.snd.fst, r3.fst.snd.snd.snd.fst, r3.fst.snd.snd.snd.snd.fst, ()) = true then
     det_Explore_two_table_.j18 k letters0 most4 x43 (Go.Proofs.YtiiioobebeaafaaSx.mget ((Go.Proofs.YtiiioobebeaafaaSx.Ty.int Go.IntKind.i64).pair ((Go.Proofs.YtiiioobebeaafaaSx.Ty.int Go.IntKind.i64).pair ((Go.Proofs.YtiiioobebeaafaaSx.Ty.int Go.IntKind.i64).pair ((Go.Proofs.YtiiioobebeaafaaSx.Ty.int Go.IntKind.i64).pair ((Go.Proofs.YtiiioobebeaafaaSx.Ty.int Go.IntKind.i64).pair Go.Proofs.YtiiioobebeaafaaSx.Ty.unit))))) (Go.Proofs.YtiiioobebeaafaaSx.Ty.int Go.IntKind.i64) number13 (r3.fst.fst, r3.fst.snd.fst, r3.fst.snd.snd.fst, r3.fst.snd.snd.snd.fst, r3.fst.snd.snd.snd.snd.fst, ())) x42 x43 r3.snd.fst r3.snd.snd.fst r3.snd.snd.snd.fst r3.snd.snd.snd.snd.fst r3.snd.snd.snd.snd.snd x10_0 x10_1 d12_0 d12_1 number13 l14 k15_0 k15_1 k15_2 k15_3 k15_4 row16 c9 c10 c11 c12
    else
     if (↑l14.length : Int) = most4 then
      some (0, 0, false, r3.snd.fst, r3.snd.snd.fst, r3.snd.snd.snd.fst, r3.snd.snd.snd.snd.fst, r3.snd.snd.snd.snd.snd, [], [])
     else
      if (l14 ++ [(r3.fst.fst, r3.fst.snd.fst, r3.fst.snd.snd.fst, r3.fst.snd.snd.snd.fst, r3.fst.snd.snd.snd.snd.fst, ())]).length.blt 1000000000 = true then
      det_Explore_two_table_.j18 k letters0 most4 x43 ((↑l14.length : Int)) x42 x43 r3.snd.fst r3.snd.snd.fst r3.snd.snd.snd.fst r3.snd.snd.snd.snd.fst r3.snd.snd.snd.snd.snd x10_0 x10_1 d12_0 d12_1 (Go.Proofs.YtiiioobebeaafaaSx.mput ((Go.Proofs.YtiiioobebeaafaaSx.Ty.int Go.IntKind.i64).pair ((Go.Proofs.YtiiioobebeaafaaSx.Ty.int Go.IntKind.i64).pair ((Go.Proofs.YtiiioobebeaafaaSx.Ty.int Go.IntKind.i64).pair ((Go.Proofs.YtiiioobebeaafaaSx.Ty.int Go.IntKind.i64).pair ((Go.Proofs.YtiiioobebeaafaaSx.Ty.int Go.IntKind.i64).pair Go.Proofs.YtiiioobebeaafaaSx.Ty.unit))))) (Go.Proofs.YtiiioobebeaafaaSx.Ty.int Go.IntKind.i64) number13 (r3.fst.fst, r3.fst.snd.fst, r3.fst.snd.snd.fst, r3.fst.snd.snd.snd.fst, r3.fst.snd.snd.snd.snd.fst, ()) (↑l14.length : Int)) (l14 ++ [(r3.fst.fst, r3.fst.snd.fst, r3.fst.snd.snd.fst, r3.fst.snd.snd.snd.fst, r3.fst.snd.snd.snd.snd.fst, ())]) k15_0 k15_1 k15_2 k15_3 k15_4 row16 c9 c10 c11 c12
      else none
  else
   if (c11 ++ [row16]).length.blt 1000000000 = true then
   (two_Det_3.f k (k15_0, k15_1, k15_2, k15_3, k15_4, ()) c2_0 c2_1 c2_2 c2_3 c0_0).bind fun r4 =>
     if (c12 ++ [r4.fst]).length.blt 1000000000 = true then
     det_Explore_two_table_.l4 k letters0 most4 r4.snd.snd.snd.snd.snd r4.snd.fst r4.snd.snd.fst r4.snd.snd.snd.fst r4.snd.snd.snd.snd.fst x10_0 x10_1 d12_0 d12_1 number13 l14 c9 c10 (c11 ++ [row16]) (c12 ++ [r4.fst])
     else none
   else none
def det_Explore_two_table_.j18 : Nat → Int → Int → Int → Int → Int → Int → Int → Int → Int → List (List ((Int × (Int × Unit)))) → List (Int) → Int → Int → Int → Int → List (((Int × (Int × (Int × (Int × (Int × Unit))))) × Int)) → List ((Int × (Int × (Int × (Int × (Int × Unit)))))) → Int → Int → Int → Int → Int → List (Int) → List (List (Int)) → List (Int) → List (List (Int)) → List (Int) → Option (Int × Int × Bool × Int × Int × Int × List (List (Int × Int × Unit)) × List Int × List (List Int) × List Int)
 | 0, _, _, _, _, _, _, _, _, _, _, _, _, _, _, _, _, _, _, _, _, _, _, _, _, _, _, _ => none
 | k + 1, letters0, most4, a17, n19, x42, x43, c0_0, c2_0, c2_1, c2_2, c2_3, x10_0, x10_1, d12_0, d12_1, number13, l14, k15_0, k15_1, k15_2, k15_3, k15_4, row16, c9, c10, c11, c12 =>
  if 0 ≤ a17 then
  if a17 < (↑row16.length : Int) then
   det_Explore_two_table_.l8 k letters0 most4 x42 (Go.IntKind.i64.wrap (x43 + 1)) c0_0 c2_0 c2_1 c2_2 c2_3 x10_0 x10_1 d12_0 d12_1 number13 l14 k15_0 k15_1 k15_2 k15_3 k15_4 (row16.set a17.toNat n19) c9 c10 c11 c12
   else none
  else none
end
def det_Explore_two_table_.f (k : Nat) (letters0 : Int) (first1 : (Int × (Int × (Int × (Int × (Int × Unit)))))) (most4 : Int) (c0_0 : Int) (c2_0 : Int) (c2_1 : Int) (c2_2 : List (List ((Int × (Int × Unit))))) (c2_3 : List (Int)) : Option (Int × Int × Bool × Int × Int × Int × List (List (Int × Int × Unit)) × List Int × List (List Int) × List Int) :=
 det_Explore_two_table_.l4 k letters0 most4 c0_0 c2_0 c2_1 c2_2 c2_3 0 0 letters0 0 (Go.Proofs.YtiiioobebeaafaaSx.mput ((Go.Proofs.YtiiioobebeaafaaSx.Ty.int Go.IntKind.i64).pair ((Go.Proofs.YtiiioobebeaafaaSx.Ty.int Go.IntKind.i64).pair ((Go.Proofs.YtiiioobebeaafaaSx.Ty.int Go.IntKind.i64).pair ((Go.Proofs.YtiiioobebeaafaaSx.Ty.int Go.IntKind.i64).pair ((Go.Proofs.YtiiioobebeaafaaSx.Ty.int Go.IntKind.i64).pair Go.Proofs.YtiiioobebeaafaaSx.Ty.unit))))) (Go.Proofs.YtiiioobebeaafaaSx.Ty.int Go.IntKind.i64) [] (first1.fst, first1.snd.fst, first1.snd.snd.fst, first1.snd.snd.snd.fst, first1.snd.snd.snd.snd.fst, ()) (Int.ofNat 0)) ([(first1.fst, first1.snd.fst, first1.snd.snd.fst, first1.snd.snd.snd.fst, first1.snd.snd.snd.snd.fst, ())]) [] [] [] []

noncomputable def det_Explore_two_table_.body : Code := fnBody Try.f108
def det_Explore_two_table_.ti : Tm := ⟨[(0, .p (.int .i64)), (1, .p (.pair (.int .i64) (.pair (.int .i64) (.pair (.int .i64) (.pair (.int .i64) (.pair (.int .i64) .unit)))))), (2, .fn 109 [.ptr 0 0, .ptr 1 0]), (3, .fn 110 [.ptr 1 0, .ptr 2 0]), (4, .p (.int .i64))], [.box [.p (.int .i64)] 3, .box [.fn 107 [.ptr 0 0, .ptr 2 0]] 143, .box [.p (.int .i64), .p (.int .i64), .p (.slice (.slice (.pair (.int .i64) (.pair (.int .i64) .unit)))), .p (.slice (.int .i64))] 76]⟩
def det_Explore_two_table_.to : Tm := ⟨[(0, .agg [.p (.int .i64), .p (.int .i64), .own 3, .own 4]), (1, .p .bool)], [.box [.p (.int .i64)] 3, .box [.fn 107 [.ptr 0 0, .ptr 2 0]] 143, .box [.p (.int .i64), .p (.int .i64), .p (.slice (.slice (.pair (.int .i64) (.pair (.int .i64) .unit)))), .p (.slice (.int .i64))] 76, .own (.slice (.int .i64)), .own (.int .i64)]⟩
def det_Explore_two_table_.rs (r : Int × Int × Bool × Int × Int × Int × (List (List (Int × (Int × Unit)))) × (List Int) × (List (List Int)) × (List Int)) : List Dat := [⟨(.int .i64), r.1⟩, ⟨(.int .i64), r.2.1⟩, ⟨.bool, r.2.2.1⟩, ⟨(.int .i64), r.2.2.2.1⟩, ⟨(.int .i64), r.2.2.2.2.1⟩, ⟨(.int .i64), r.2.2.2.2.2.1⟩, ⟨(.slice (.slice (.pair (.int .i64) (.pair (.int .i64) .unit)))), r.2.2.2.2.2.2.1⟩, ⟨(.slice (.int .i64)), r.2.2.2.2.2.2.2.1⟩, ⟨(.slice (.slice (.int .i64))), r.2.2.2.2.2.2.2.2.1⟩, ⟨(.slice (.int .i64)), r.2.2.2.2.2.2.2.2.2⟩]
def det_Explore_two_table_.out (ds : List Dat) : Option (Int × Int × Bool × Int × Int × Int × (List (List (Int × (Int × Unit)))) × (List Int) × (List (List Int)) × (List Int)) := pop (.int .i64) ds fun x0 ds => pop (.int .i64) ds fun x1 ds => pop .bool ds fun x2 ds => pop (.int .i64) ds fun x3 ds => pop (.int .i64) ds fun x4 ds => pop (.int .i64) ds fun x5 ds => pop (.slice (.slice (.pair (.int .i64) (.pair (.int .i64) .unit)))) ds fun x6 ds => pop (.slice (.int .i64)) ds fun x7 ds => pop (.slice (.slice (.int .i64))) ds fun x8 ds => pop (.slice (.int .i64)) ds fun x9 ds => popN ds (some (x0, x1, x2, x3, x4, x5, x6, x7, x8, x9))
def det_Explore_two_table_.c (k : Nat) (ds : List Dat) : Option (Int × Int × Bool × Int × Int × Int × (List (List (Int × (Int × Unit)))) × (List Int) × (List (List Int)) × (List Int)) := pop (.int .i64) ds fun x0 ds => pop (.pair (.int .i64) (.pair (.int .i64) (.pair (.int .i64) (.pair (.int .i64) (.pair (.int .i64) .unit))))) ds fun x1 ds => pop (.int .i64) ds fun x2 ds => pop (.int .i64) ds fun x3 ds => pop (.int .i64) ds fun x4 ds => pop (.int .i64) ds fun x5 ds => pop (.slice (.slice (.pair (.int .i64) (.pair (.int .i64) .unit)))) ds fun x6 ds => pop (.slice (.int .i64)) ds fun x7 ds => popN ds (det_Explore_two_table_.f k x0 x1 x2 x3 x4 x5 x6 x7)
def det_Explore_two_table_.g : Nat → List Dat → Option (Int × Int × Bool × Int × Int × Int × (List (List (Int × (Int × Unit)))) × (List Int) × (List (List Int)) × (List Int))
 | 0, _ => none
 | k + 1, ds => det_Explore_two_table_.c k ds
def det_Explore_two_table_.env (k : Nat) : Nat → List SV → List Chunk → KT (Int × Int × Bool × Int × Int × Int × (List (List (Int × (Int × Unit)))) × (List Int) × (List (List Int)) × (List Int)) → Option (Int × Int × Bool × Int × Int × Int × (List (List (Int × (Int × Unit)))) × (List Int) × (List (List Int)) × (List Int)) := (envC 109 4 two_Det_2.ti two_Det_2.to (fun ds K => pop (.pair (.int .i64) (.pair (.int .i64) (.pair (.int .i64) (.pair (.int .i64) (.pair (.int .i64) .unit))))) ds fun x0 ds => pop (.int .i64) ds fun x1 ds => pop (.int .i64) ds fun x2 ds => pop (.int .i64) ds fun x3 ds => pop (.int .i64) ds fun x4 ds => pop (.slice (.slice (.pair (.int .i64) (.pair (.int .i64) .unit)))) ds fun x5 ds => pop (.slice (.int .i64)) ds fun x6 ds => popN ds ((two_Det_2.f k x0 x1 x2 x3 x4 x5 x6).bind fun r => K (two_Det_2.rs r))) (envC 110 3 two_Det_3.ti two_Det_3.to (fun ds K => pop (.pair (.int .i64) (.pair (.int .i64) (.pair (.int .i64) (.pair (.int .i64) (.pair (.int .i64) .unit))))) ds fun x0 ds => pop (.int .i64) ds fun x1 ds => pop (.int .i64) ds fun x2 ds => pop (.slice (.slice (.pair (.int .i64) (.pair (.int .i64) .unit)))) ds fun x3 ds => pop (.slice (.int .i64)) ds fun x4 ds => pop (.int .i64) ds fun x5 ds => popN ds ((two_Det_3.f k x0 x1 x2 x3 x4 x5).bind fun r => K (two_Det_3.rs r))) env0))
def det_Explore_two_table_.t9 : Tm := ⟨[(0, .p (.int .i64)), (2, .fn 109 [.ptr 0 0, .ptr 1 0]), (3, .fn 110 [.ptr 1 0, .ptr 2 0]), (4, .p (.int .i64)), (10, .ptr 3 0), (12, .ptr 4 0), (13, .map 5), (14, .own 6)], [.box [.p (.int .i64)] 3, .box [.fn 107 [.ptr 0 0, .ptr 2 0]] 143, .box [.p (.int .i64), .p (.int .i64), .p (.slice (.slice (.pair (.int .i64) (.pair (.int .i64) .unit)))), .p (.slice (.int .i64))] 76, .box [.p (.int .i64), .p (.int .i64), .own 7, .own 8] 58, .box [.p (.int .i64), .p (.int .i64), .own 9, .own 10] 58, .map (.pair (.int .i64) (.pair (.int .i64) (.pair (.int .i64) (.pair (.int .i64) (.pair (.int .i64) .unit))))) (.int .i64), .own (.pair (.int .i64) (.pair (.int .i64) (.pair (.int .i64) (.pair (.int .i64) (.pair (.int .i64) .unit))))), .own (.slice (.int .i64)), .own (.int .i64), .own (.slice (.int .i64)), .own (.int .i64)]⟩
def det_Explore_two_table_.c9 (k : Nat) (ds : List Dat) : Option (Int × Int × Bool × Int × Int × Int × (List (List (Int × (Int × Unit)))) × (List Int) × (List (List Int)) × (List Int)) := pop (.int .i64) ds fun x0 ds => pop (.int .i64) ds fun x1 ds => pop (.int .i64) ds fun x2 ds => pop (.int .i64) ds fun x3 ds => pop (.int .i64) ds fun x4 ds => pop (.slice (.slice (.pair (.int .i64) (.pair (.int .i64) .unit)))) ds fun x5 ds => pop (.slice (.int .i64)) ds fun x6 ds => pop (.int .i64) ds fun x7 ds => pop (.int .i64) ds fun x8 ds => pop (.int .i64) ds fun x9 ds => pop (.int .i64) ds fun x10 ds => pop (.slice (.pair (.pair (.int .i64) (.pair (.int .i64) (.pair (.int .i64) (.pair (.int .i64) (.pair (.int .i64) .unit))))) (.int .i64))) ds fun x11 ds => pop (.slice (.pair (.int .i64) (.pair (.int .i64) (.pair (.int .i64) (.pair (.int .i64) (.pair (.int .i64) .unit)))))) ds fun x12 ds => pop (.slice (.slice (.int .i64))) ds fun x13 ds => pop (.slice (.int .i64)) ds fun x14 ds => pop (.slice (.slice (.int .i64))) ds fun x15 ds => pop (.slice (.int .i64)) ds fun x16 ds => popN ds (det_Explore_two_table_.l4 k x0 x1 x2 x3 x4 x5 x6 x7 x8 x9 x10 x11 x12 x13 x14 x15 x16)
def det_Explore_two_table_.t17 : Tm := ⟨[(0, .p (.int .i64)), (2, .fn 109 [.ptr 0 0, .ptr 1 0]), (3, .fn 110 [.ptr 1 0, .ptr 2 0]), (4, .p (.int .i64)), (10, .ptr 3 0), (12, .ptr 4 0), (13, .map 5), (14, .own 6), (15, .ptr 7 0), (16, .own 8), (42, .p (.int .i64)), (43, .p (.int .i64))], [.box [.p (.int .i64)] 3, .box [.fn 107 [.ptr 0 0, .ptr 2 0]] 143, .box [.p (.int .i64), .p (.int .i64), .p (.slice (.slice (.pair (.int .i64) (.pair (.int .i64) .unit)))), .p (.slice (.int .i64))] 76, .box [.p (.int .i64), .p (.int .i64), .own 9, .own 10] 58, .box [.p (.int .i64), .p (.int .i64), .own 11, .own 12] 58, .map (.pair (.int .i64) (.pair (.int .i64) (.pair (.int .i64) (.pair (.int .i64) (.pair (.int .i64) .unit))))) (.int .i64), .own (.pair (.int .i64) (.pair (.int .i64) (.pair (.int .i64) (.pair (.int .i64) (.pair (.int .i64) .unit))))), .box [.p (.int .i64), .p (.int .i64), .p (.int .i64), .p (.int .i64), .p (.int .i64)] 142, .own (.int .i64), .own (.slice (.int .i64)), .own (.int .i64), .own (.slice (.int .i64)), .own (.int .i64)]⟩
def det_Explore_two_table_.c17 (k : Nat) (ds : List Dat) : Option (Int × Int × Bool × Int × Int × Int × (List (List (Int × (Int × Unit)))) × (List Int) × (List (List Int)) × (List Int)) := pop (.int .i64) ds fun x0 ds => pop (.int .i64) ds fun x1 ds => pop (.int .i64) ds fun x2 ds => pop (.int .i64) ds fun x3 ds => pop (.int .i64) ds fun x4 ds => pop (.int .i64) ds fun x5 ds => pop (.int .i64) ds fun x6 ds => pop (.slice (.slice (.pair (.int .i64) (.pair (.int .i64) .unit)))) ds fun x7 ds => pop (.slice (.int .i64)) ds fun x8 ds => pop (.int .i64) ds fun x9 ds => pop (.int .i64) ds fun x10 ds => pop (.int .i64) ds fun x11 ds => pop (.int .i64) ds fun x12 ds => pop (.slice (.pair (.pair (.int .i64) (.pair (.int .i64) (.pair (.int .i64) (.pair (.int .i64) (.pair (.int .i64) .unit))))) (.int .i64))) ds fun x13 ds => pop (.slice (.pair (.int .i64) (.pair (.int .i64) (.pair (.int .i64) (.pair (.int .i64) (.pair (.int .i64) .unit)))))) ds fun x14 ds => pop (.int .i64) ds fun x15 ds => pop (.int .i64) ds fun x16 ds => pop (.int .i64) ds fun x17 ds => pop (.int .i64) ds fun x18 ds => pop (.int .i64) ds fun x19 ds => pop (.slice (.int .i64)) ds fun x20 ds => pop (.slice (.slice (.int .i64))) ds fun x21 ds => pop (.slice (.int .i64)) ds fun x22 ds => pop (.slice (.slice (.int .i64))) ds fun x23 ds => pop (.slice (.int .i64)) ds fun x24 ds => popN ds (det_Explore_two_table_.l8 k x0 x1 x2 x3 x4 x5 x6 x7 x8 x9 x10 x11 x12 x13 x14 x15 x16 x17 x18 x19 x20 x21 x22 x23 x24)
def det_Explore_two_table_.t36 : Tm := ⟨[(0, .p (.int .i64)), (2, .fn 109 [.ptr 0 0, .ptr 1 0]), (3, .fn 110 [.ptr 1 0, .ptr 2 0]), (4, .p (.int .i64)), (10, .ptr 3 0), (12, .ptr 4 0), (13, .map 5), (14, .own 6), (15, .ptr 7 0), (16, .own 8), (17, .p (.int .i64)), (19, .p (.int .i64)), (42, .p (.int .i64)), (43, .p (.int .i64))], [.box [.p (.int .i64)] 3, .box [.fn 107 [.ptr 0 0, .ptr 2 0]] 143, .box [.p (.int .i64), .p (.int .i64), .p (.slice (.slice (.pair (.int .i64) (.pair (.int .i64) .unit)))), .p (.slice (.int .i64))] 76, .box [.p (.int .i64), .p (.int .i64), .own 9, .own 10] 58, .box [.p (.int .i64), .p (.int .i64), .own 11, .own 12] 58, .map (.pair (.int .i64) (.pair (.int .i64) (.pair (.int .i64) (.pair (.int .i64) (.pair (.int .i64) .unit))))) (.int .i64), .own (.pair (.int .i64) (.pair (.int .i64) (.pair (.int .i64) (.pair (.int .i64) (.pair (.int .i64) .unit))))), .box [.p (.int .i64), .p (.int .i64), .p (.int .i64), .p (.int .i64), .p (.int .i64)] 142, .own (.int .i64), .own (.slice (.int .i64)), .own (.int .i64), .own (.slice (.int .i64)), .own (.int .i64)]⟩
def det_Explore_two_table_.c36 (k : Nat) (ds : List Dat) : Option (Int × Int × Bool × Int × Int × Int × (List (List (Int × (Int × Unit)))) × (List Int) × (List (List Int)) × (List Int)) := pop (.int .i64) ds fun x0 ds => pop (.int .i64) ds fun x1 ds => pop (.int .i64) ds fun x2 ds => pop (.int .i64) ds fun x3 ds => pop (.int .i64) ds fun x4 ds => pop (.int .i64) ds fun x5 ds => pop (.int .i64) ds fun x6 ds => pop (.int .i64) ds fun x7 ds => pop (.int .i64) ds fun x8 ds => pop (.slice (.slice (.pair (.int .i64) (.pair (.int .i64) .unit)))) ds fun x9 ds => pop (.slice (.int .i64)) ds fun x10 ds => pop (.int .i64) ds fun x11 ds => pop (.int .i64) ds fun x12 ds => pop (.int .i64) ds fun x13 ds => pop (.int .i64) ds fun x14 ds => pop (.slice (.pair (.pair (.int .i64) (.pair (.int .i64) (.pair (.int .i64) (.pair (.int .i64) (.pair (.int .i64) .unit))))) (.int .i64))) ds fun x15 ds => pop (.slice (.pair (.int .i64) (.pair (.int .i64) (.pair (.int .i64) (.pair (.int .i64) (.pair (.int .i64) .unit)))))) ds fun x16 ds => pop (.int .i64) ds fun x17 ds => pop (.int .i64) ds fun x18 ds => pop (.int .i64) ds fun x19 ds => pop (.int .i64) ds fun x20 ds => pop (.int .i64) ds fun x21 ds => pop (.slice (.int .i64)) ds fun x22 ds => pop (.slice (.slice (.int .i64))) ds fun x23 ds => pop (.slice (.int .i64)) ds fun x24 ds => pop (.slice (.slice (.int .i64))) ds fun x25 ds => pop (.slice (.int .i64)) ds fun x26 ds => popN ds (det_Explore_two_table_.j18 k x0 x1 x2 x3 x4 x5 x6 x7 x8 x9 x10 x11 x12 x13 x14 x15 x16 x17 x18 x19 x20 x21 x22 x23 x24 x25 x26)
def det_Explore_two_table_.tbl : List (Nat × Tm × (Nat → List Dat → Option (Int × Int × Bool × Int × Int × Int × (List (List (Int × (Int × Unit)))) × (List Int) × (List (List Int)) × (List Int)))) := [(9, det_Explore_two_table_.t9, det_Explore_two_table_.c9), (17, det_Explore_two_table_.t17, det_Explore_two_table_.c17), (36, det_Explore_two_table_.t36, det_Explore_two_table_.c36)]
noncomputable abbrev det_Explore_two_table_.R (k : Nat) := run T (det_Explore_two_table_.env k) Try.f108.ntmps (cutE 3 det_Explore_two_table_.tbl k) (finE 3 det_Explore_two_table_.to det_Explore_two_table_.out) (fnRes Try.f108) [18] 100000 true
theorem det_Explore_two_table_.e9 (k : Nat) (x0 : Int) (x1 : Int) (x2 : Int) (x3 : Int) (x4 : Int) (x5 : (List (List (Int × (Int × Unit))))) (x6 : (List Int)) (x7 : Int) (x8 : Int) (x9 : Int) (x10 : Int) (x11 : (List ((Int × (Int × (Int × (Int × (Int × Unit))))) × Int))) (x12 : (List (Int × (Int × (Int × (Int × (Int × Unit))))))) (x13 : (List (List Int))) (x14 : (List Int)) (x15 : (List (List Int))) (x16 : (List Int)) : det_Explore_two_table_.l4 (k + 1) x0 x1 x2 x3 x4 x5 x6 x7 x8 x9 x10 x11 x12 x13 x14 x15 x16 = det_Explore_two_table_.R k (start (stackOf 9 det_Explore_two_table_.body)) (det_Explore_two_table_.t9.fill [⟨(.int .i64), x0⟩, ⟨(.int .i64), x1⟩, ⟨(.int .i64), x2⟩, ⟨(.int .i64), x3⟩, ⟨(.int .i64), x4⟩, ⟨(.slice (.slice (.pair (.int .i64) (.pair (.int .i64) .unit)))), x5⟩, ⟨(.slice (.int .i64)), x6⟩, ⟨(.int .i64), x7⟩, ⟨(.int .i64), x8⟩, ⟨(.int .i64), x9⟩, ⟨(.int .i64), x10⟩, ⟨(.slice (.pair (.pair (.int .i64) (.pair (.int .i64) (.pair (.int .i64) (.pair (.int .i64) (.pair (.int .i64) .unit))))) (.int .i64))), x11⟩, ⟨(.slice (.pair (.int .i64) (.pair (.int .i64) (.pair (.int .i64) (.pair (.int .i64) (.pair (.int .i64) .unit)))))), x12⟩, ⟨(.slice (.slice (.int .i64))), x13⟩, ⟨(.slice (.int .i64)), x14⟩, ⟨(.slice (.slice (.int .i64))), x15⟩, ⟨(.slice (.int .i64)), x16⟩]) := by kernel_rfl
theorem det_Explore_two_table_.s9 : stackAt 9 det_Explore_two_table_.body [] = some (stackOf 9 det_Explore_two_table_.body) := by kernel_rfl
theorem det_Explore_two_table_.h9 (k : Nat) (ds : List Dat) (r : Int × Int × Bool × Int × Int × Int × (List (List (Int × (Int × Unit)))) × (List Int) × (List (List Int)) × (List Int)) (h : det_Explore_two_table_.c9 k ds = some r) : ∃ k', k' < k ∧ ∃ s, stackAt 9 det_Explore_two_table_.body [] = some s ∧ det_Explore_two_table_.R k' (start s) (det_Explore_two_table_.t9.fill ds) = some r := by
  unfold det_Explore_two_table_.c9 at h
  obtain ⟨x0, d0, rfl, h0⟩ := pop_some h
  obtain ⟨x1, d1, rfl, h1⟩ := pop_some h0
  obtain ⟨x2, d2, rfl, h2⟩ := pop_some h1
  obtain ⟨x3, d3, rfl, h3⟩ := pop_some h2
  obtain ⟨x4, d4, rfl, h4⟩ := pop_some h3
  obtain ⟨x5, d5, rfl, h5⟩ := pop_some h4
  obtain ⟨x6, d6, rfl, h6⟩ := pop_some h5
  obtain ⟨x7, d7, rfl, h7⟩ := pop_some h6
  obtain ⟨x8, d8, rfl, h8⟩ := pop_some h7
  obtain ⟨x9, d9, rfl, h9⟩ := pop_some h8
  obtain ⟨x10, d10, rfl, h10⟩ := pop_some h9
  obtain ⟨x11, d11, rfl, h11⟩ := pop_some h10
  obtain ⟨x12, d12, rfl, h12⟩ := pop_some h11
  obtain ⟨x13, d13, rfl, h13⟩ := pop_some h12
  obtain ⟨x14, d14, rfl, h14⟩ := pop_some h13
  obtain ⟨x15, d15, rfl, h15⟩ := pop_some h14
  obtain ⟨x16, d16, rfl, h16⟩ := pop_some h15
  obtain ⟨rfl, g⟩ := popN_some h16
  cases k with
  | zero => cases (show none = some r from g)
  | succ k => exact ⟨k, Nat.lt_succ_self k, _, det_Explore_two_table_.s9, (det_Explore_two_table_.e9 k x0 x1 x2 x3 x4 x5 x6 x7 x8 x9 x10 x11 x12 x13 x14 x15 x16).symm.trans g⟩
theorem det_Explore_two_table_.e17 (k : Nat) (x0 : Int) (x1 : Int) (x2 : Int) (x3 : Int) (x4 : Int) (x5 : Int) (x6 : Int) (x7 : (List (List (Int × (Int × Unit))))) (x8 : (List Int)) (x9 : Int) (x10 : Int) (x11 : Int) (x12 : Int) (x13 : (List ((Int × (Int × (Int × (Int × (Int × Unit))))) × Int))) (x14 : (List (Int × (Int × (Int × (Int × (Int × Unit))))))) (x15 : Int) (x16 : Int) (x17 : Int) (x18 : Int) (x19 : Int) (x20 : (List Int)) (x21 : (List (List Int))) (x22 : (List Int)) (x23 : (List (List Int))) (x24 : (List Int)) : det_Explore_two_table_.l8 (k + 1) x0 x1 x2 x3 x4 x5 x6 x7 x8 x9 x10 x11 x12 x13 x14 x15 x16 x17 x18 x19 x20 x21 x22 x23 x24 = det_Explore_two_table_.R k (start (stackOf 17 det_Explore_two_table_.body)) (det_Explore_two_table_.t17.fill [⟨(.int .i64), x0⟩, ⟨(.int .i64), x1⟩, ⟨(.int .i64), x2⟩, ⟨(.int .i64), x3⟩, ⟨(.int .i64), x4⟩, ⟨(.int .i64), x5⟩, ⟨(.int .i64), x6⟩, ⟨(.slice (.slice (.pair (.int .i64) (.pair (.int .i64) .unit)))), x7⟩, ⟨(.slice (.int .i64)), x8⟩, ⟨(.int .i64), x9⟩, ⟨(.int .i64), x10⟩, ⟨(.int .i64), x11⟩, ⟨(.int .i64), x12⟩, ⟨(.slice (.pair (.pair (.int .i64) (.pair (.int .i64) (.pair (.int .i64) (.pair (.int .i64) (.pair (.int .i64) .unit))))) (.int .i64))), x13⟩, ⟨(.slice (.pair (.int .i64) (.pair (.int .i64) (.pair (.int .i64) (.pair (.int .i64) (.pair (.int .i64) .unit)))))), x14⟩, ⟨(.int .i64), x15⟩, ⟨(.int .i64), x16⟩, ⟨(.int .i64), x17⟩, ⟨(.int .i64), x18⟩, ⟨(.int .i64), x19⟩, ⟨(.slice (.int .i64)), x20⟩, ⟨(.slice (.slice (.int .i64))), x21⟩, ⟨(.slice (.int .i64)), x22⟩, ⟨(.slice (.slice (.int .i64))), x23⟩, ⟨(.slice (.int .i64)), x24⟩]) := by kernel_rfl
theorem det_Explore_two_table_.s17 : stackAt 17 det_Explore_two_table_.body [] = some (stackOf 17 det_Explore_two_table_.body) := by kernel_rfl
theorem det_Explore_two_table_.h17 (k : Nat) (ds : List Dat) (r : Int × Int × Bool × Int × Int × Int × (List (List (Int × (Int × Unit)))) × (List Int) × (List (List Int)) × (List Int)) (h : det_Explore_two_table_.c17 k ds = some r) : ∃ k', k' < k ∧ ∃ s, stackAt 17 det_Explore_two_table_.body [] = some s ∧ det_Explore_two_table_.R k' (start s) (det_Explore_two_table_.t17.fill ds) = some r := by
  unfold det_Explore_two_table_.c17 at h
  obtain ⟨x0, d0, rfl, h0⟩ := pop_some h
  obtain ⟨x1, d1, rfl, h1⟩ := pop_some h0
  obtain ⟨x2, d2, rfl, h2⟩ := pop_some h1
  obtain ⟨x3, d3, rfl, h3⟩ := pop_some h2
  obtain ⟨x4, d4, rfl, h4⟩ := pop_some h3
  obtain ⟨x5, d5, rfl, h5⟩ := pop_some h4
  obtain ⟨x6, d6, rfl, h6⟩ := pop_some h5
  obtain ⟨x7, d7, rfl, h7⟩ := pop_some h6
  obtain ⟨x8, d8, rfl, h8⟩ := pop_some h7
  obtain ⟨x9, d9, rfl, h9⟩ := pop_some h8
  obtain ⟨x10, d10, rfl, h10⟩ := pop_some h9
  obtain ⟨x11, d11, rfl, h11⟩ := pop_some h10
  obtain ⟨x12, d12, rfl, h12⟩ := pop_some h11
  obtain ⟨x13, d13, rfl, h13⟩ := pop_some h12
  obtain ⟨x14, d14, rfl, h14⟩ := pop_some h13
  obtain ⟨x15, d15, rfl, h15⟩ := pop_some h14
  obtain ⟨x16, d16, rfl, h16⟩ := pop_some h15
  obtain ⟨x17, d17, rfl, h17⟩ := pop_some h16
  obtain ⟨x18, d18, rfl, h18⟩ := pop_some h17
  obtain ⟨x19, d19, rfl, h19⟩ := pop_some h18
  obtain ⟨x20, d20, rfl, h20⟩ := pop_some h19
  obtain ⟨x21, d21, rfl, h21⟩ := pop_some h20
  obtain ⟨x22, d22, rfl, h22⟩ := pop_some h21
  obtain ⟨x23, d23, rfl, h23⟩ := pop_some h22
  obtain ⟨x24, d24, rfl, h24⟩ := pop_some h23
  obtain ⟨rfl, g⟩ := popN_some h24
  cases k with
  | zero => cases (show none = some r from g)
  | succ k => exact ⟨k, Nat.lt_succ_self k, _, det_Explore_two_table_.s17, (det_Explore_two_table_.e17 k x0 x1 x2 x3 x4 x5 x6 x7 x8 x9 x10 x11 x12 x13 x14 x15 x16 x17 x18 x19 x20 x21 x22 x23 x24).symm.trans g⟩
theorem det_Explore_two_table_.e36 (k : Nat) (x0 : Int) (x1 : Int) (x2 : Int) (x3 : Int) (x4 : Int) (x5 : Int) (x6 : Int) (x7 : Int) (x8 : Int) (x9 : (List (List (Int × (Int × Unit))))) (x10 : (List Int)) (x11 : Int) (x12 : Int) (x13 : Int) (x14 : Int) (x15 : (List ((Int × (Int × (Int × (Int × (Int × Unit))))) × Int))) (x16 : (List (Int × (Int × (Int × (Int × (Int × Unit))))))) (x17 : Int) (x18 : Int) (x19 : Int) (x20 : Int) (x21 : Int) (x22 : (List Int)) (x23 : (List (List Int))) (x24 : (List Int)) (x25 : (List (List Int))) (x26 : (List Int)) : det_Explore_two_table_.j18 (k + 1) x0 x1 x2 x3 x4 x5 x6 x7 x8 x9 x10 x11 x12 x13 x14 x15 x16 x17 x18 x19 x20 x21 x22 x23 x24 x25 x26 = det_Explore_two_table_.R k (start (stackOf 36 det_Explore_two_table_.body)) (det_Explore_two_table_.t36.fill [⟨(.int .i64), x0⟩, ⟨(.int .i64), x1⟩, ⟨(.int .i64), x2⟩, ⟨(.int .i64), x3⟩, ⟨(.int .i64), x4⟩, ⟨(.int .i64), x5⟩, ⟨(.int .i64), x6⟩, ⟨(.int .i64), x7⟩, ⟨(.int .i64), x8⟩, ⟨(.slice (.slice (.pair (.int .i64) (.pair (.int .i64) .unit)))), x9⟩, ⟨(.slice (.int .i64)), x10⟩, ⟨(.int .i64), x11⟩, ⟨(.int .i64), x12⟩, ⟨(.int .i64), x13⟩, ⟨(.int .i64), x14⟩, ⟨(.slice (.pair (.pair (.int .i64) (.pair (.int .i64) (.pair (.int .i64) (.pair (.int .i64) (.pair (.int .i64) .unit))))) (.int .i64))), x15⟩, ⟨(.slice (.pair (.int .i64) (.pair (.int .i64) (.pair (.int .i64) (.pair (.int .i64) (.pair (.int .i64) .unit)))))), x16⟩, ⟨(.int .i64), x17⟩, ⟨(.int .i64), x18⟩, ⟨(.int .i64), x19⟩, ⟨(.int .i64), x20⟩, ⟨(.int .i64), x21⟩, ⟨(.slice (.int .i64)), x22⟩, ⟨(.slice (.slice (.int .i64))), x23⟩, ⟨(.slice (.int .i64)), x24⟩, ⟨(.slice (.slice (.int .i64))), x25⟩, ⟨(.slice (.int .i64)), x26⟩]) := by kernel_rfl
theorem det_Explore_two_table_.s36 : stackAt 36 det_Explore_two_table_.body [] = some (stackOf 36 det_Explore_two_table_.body) := by kernel_rfl
theorem det_Explore_two_table_.h36 (k : Nat) (ds : List Dat) (r : Int × Int × Bool × Int × Int × Int × (List (List (Int × (Int × Unit)))) × (List Int) × (List (List Int)) × (List Int)) (h : det_Explore_two_table_.c36 k ds = some r) : ∃ k', k' < k ∧ ∃ s, stackAt 36 det_Explore_two_table_.body [] = some s ∧ det_Explore_two_table_.R k' (start s) (det_Explore_two_table_.t36.fill ds) = some r := by
  unfold det_Explore_two_table_.c36 at h
  obtain ⟨x0, d0, rfl, h0⟩ := pop_some h
  obtain ⟨x1, d1, rfl, h1⟩ := pop_some h0
  obtain ⟨x2, d2, rfl, h2⟩ := pop_some h1
  obtain ⟨x3, d3, rfl, h3⟩ := pop_some h2
  obtain ⟨x4, d4, rfl, h4⟩ := pop_some h3
  obtain ⟨x5, d5, rfl, h5⟩ := pop_some h4
  obtain ⟨x6, d6, rfl, h6⟩ := pop_some h5
  obtain ⟨x7, d7, rfl, h7⟩ := pop_some h6
  obtain ⟨x8, d8, rfl, h8⟩ := pop_some h7
  obtain ⟨x9, d9, rfl, h9⟩ := pop_some h8
  obtain ⟨x10, d10, rfl, h10⟩ := pop_some h9
  obtain ⟨x11, d11, rfl, h11⟩ := pop_some h10
  obtain ⟨x12, d12, rfl, h12⟩ := pop_some h11
  obtain ⟨x13, d13, rfl, h13⟩ := pop_some h12
  obtain ⟨x14, d14, rfl, h14⟩ := pop_some h13
  obtain ⟨x15, d15, rfl, h15⟩ := pop_some h14
  obtain ⟨x16, d16, rfl, h16⟩ := pop_some h15
  obtain ⟨x17, d17, rfl, h17⟩ := pop_some h16
  obtain ⟨x18, d18, rfl, h18⟩ := pop_some h17
  obtain ⟨x19, d19, rfl, h19⟩ := pop_some h18
  obtain ⟨x20, d20, rfl, h20⟩ := pop_some h19
  obtain ⟨x21, d21, rfl, h21⟩ := pop_some h20
  obtain ⟨x22, d22, rfl, h22⟩ := pop_some h21
  obtain ⟨x23, d23, rfl, h23⟩ := pop_some h22
  obtain ⟨x24, d24, rfl, h24⟩ := pop_some h23
  obtain ⟨x25, d25, rfl, h25⟩ := pop_some h24
  obtain ⟨x26, d26, rfl, h26⟩ := pop_some h25
  obtain ⟨rfl, g⟩ := popN_some h26
  cases k with
  | zero => cases (show none = some r from g)
  | succ k => exact ⟨k, Nat.lt_succ_self k, _, det_Explore_two_table_.s36, (det_Explore_two_table_.e36 k x0 x1 x2 x3 x4 x5 x6 x7 x8 x9 x10 x11 x12 x13 x14 x15 x16 x17 x18 x19 x20 x21 x22 x23 x24 x25 x26).symm.trans g⟩
theorem det_Explore_two_table_.e (k : Nat) (x0 : Int) (x1 : (Int × (Int × (Int × (Int × (Int × Unit)))))) (x2 : Int) (x3 : Int) (x4 : Int) (x5 : Int) (x6 : (List (List (Int × (Int × Unit))))) (x7 : (List Int)) : det_Explore_two_table_.f k x0 x1 x2 x3 x4 x5 x6 x7 = det_Explore_two_table_.R k ([.code det_Explore_two_table_.body]) (det_Explore_two_table_.ti.fill [⟨(.int .i64), x0⟩, ⟨(.pair (.int .i64) (.pair (.int .i64) (.pair (.int .i64) (.pair (.int .i64) (.pair (.int .i64) .unit))))), x1⟩, ⟨(.int .i64), x2⟩, ⟨(.int .i64), x3⟩, ⟨(.int .i64), x4⟩, ⟨(.int .i64), x5⟩, ⟨(.slice (.slice (.pair (.int .i64) (.pair (.int .i64) .unit)))), x6⟩, ⟨(.slice (.int .i64)), x7⟩]) := by kernel_rfl
theorem det_Explore_two_table_.h (k : Nat) (ds : List Dat) (r : Int × Int × Bool × Int × Int × Int × (List (List (Int × (Int × Unit)))) × (List Int) × (List (List Int)) × (List Int)) (h : det_Explore_two_table_.g k ds = some r) : ∃ k', k' < k ∧ det_Explore_two_table_.R k' ([.code det_Explore_two_table_.body]) (det_Explore_two_table_.ti.fill ds) = some r := by
  cases k with
  | zero => cases (show none = some r from h)
  | succ k =>
  replace h : det_Explore_two_table_.c k ds = some r := h
  unfold det_Explore_two_table_.c at h
  obtain ⟨x0, d0, rfl, h0⟩ := pop_some h
  obtain ⟨x1, d1, rfl, h1⟩ := pop_some h0
  obtain ⟨x2, d2, rfl, h2⟩ := pop_some h1
  obtain ⟨x3, d3, rfl, h3⟩ := pop_some h2
  obtain ⟨x4, d4, rfl, h4⟩ := pop_some h3
  obtain ⟨x5, d5, rfl, h5⟩ := pop_some h4
  obtain ⟨x6, d6, rfl, h6⟩ := pop_some h5
  obtain ⟨x7, d7, rfl, h7⟩ := pop_some h6
  obtain ⟨rfl, g⟩ := popN_some h7
  exact ⟨k, Nat.lt_succ_self k, (det_Explore_two_table_.e k x0 x1 x2 x3 x4 x5 x6 x7).symm.trans g⟩
theorem det_Explore_two_table_.o (ds : List Dat) (r : Int × Int × Bool × Int × Int × Int × (List (List (Int × (Int × Unit)))) × (List Int) × (List (List Int)) × (List Int)) (h : det_Explore_two_table_.out ds = some r) : ds = det_Explore_two_table_.rs r := by
  unfold det_Explore_two_table_.out at h
  obtain ⟨x0, d0, rfl, h0⟩ := pop_some h
  obtain ⟨x1, d1, rfl, h1⟩ := pop_some h0
  obtain ⟨x2, d2, rfl, h2⟩ := pop_some h1
  obtain ⟨x3, d3, rfl, h3⟩ := pop_some h2
  obtain ⟨x4, d4, rfl, h4⟩ := pop_some h3
  obtain ⟨x5, d5, rfl, h5⟩ := pop_some h4
  obtain ⟨x6, d6, rfl, h6⟩ := pop_some h5
  obtain ⟨x7, d7, rfl, h7⟩ := pop_some h6
  obtain ⟨x8, d8, rfl, h8⟩ := pop_some h7
  obtain ⟨x9, d9, rfl, h9⟩ := pop_some h8
  obtain ⟨rfl, g⟩ := popN_some h9
  cases g
  rfl
theorem det_Explore_two_table_.fn : FnOk Try.prog 108 Try.f108 det_Explore_two_table_.body Try.f108.ntmps 5 (fnRes Try.f108) :=
  fnOk_of (by kernel_rfl) (by kernel_rfl) (by kernel_rfl) (by kernel_rfl)
theorem det_Explore_two_table_.con' : ∀ k ds r, det_Explore_two_table_.g k ds = some r → Con Try.prog 108 5 det_Explore_two_table_.ti det_Explore_two_table_.to ds (det_Explore_two_table_.rs r) :=
  fun_ok (T := T) T_ok mixed det_Explore_two_table_.fn (env := det_Explore_two_table_.env) (tbl := det_Explore_two_table_.tbl) (gOut := det_Explore_two_table_.out) (nin := 3) (cuts := [18]) (fuel := 100000) rfl (by kernel_rfl) (by kernel_rfl) (by kernel_rfl) (fun x hx => by
    simp only [det_Explore_two_table_.tbl, List.mem_cons, List.not_mem_nil, or_false] at hx
    rcases hx with rfl | rfl | rfl
    · exact det_Explore_two_table_.h9
    · exact det_Explore_two_table_.h17
    · exact det_Explore_two_table_.h36
) det_Explore_two_table_.o det_Explore_two_table_.h (fun k _ => by unfold det_Explore_two_table_.env; exact (envC_ok (fun ds K r h => by
    obtain ⟨x0, d0, rfl, h0⟩ := pop_some h
    obtain ⟨x1, d1, rfl, h1⟩ := pop_some h0
    obtain ⟨x2, d2, rfl, h2⟩ := pop_some h1
    obtain ⟨x3, d3, rfl, h3⟩ := pop_some h2
    obtain ⟨x4, d4, rfl, h4⟩ := pop_some h3
    obtain ⟨x5, d5, rfl, h5⟩ := pop_some h4
    obtain ⟨x6, d6, rfl, h6⟩ := pop_some h5
    obtain ⟨rfl, g⟩ := popN_some h6
    obtain ⟨r1, h1, h2⟩ := bind_some g
    exact ⟨_, h2, two_Det_2.con k _ h1⟩) (envC_ok (fun ds K r h => by
    obtain ⟨x0, d0, rfl, h0⟩ := pop_some h
    obtain ⟨x1, d1, rfl, h1⟩ := pop_some h0
    obtain ⟨x2, d2, rfl, h2⟩ := pop_some h1
    obtain ⟨x3, d3, rfl, h3⟩ := pop_some h2
    obtain ⟨x4, d4, rfl, h4⟩ := pop_some h3
    obtain ⟨x5, d5, rfl, h5⟩ := pop_some h4
    obtain ⟨rfl, g⟩ := popN_some h5
    obtain ⟨r1, h1, h2⟩ := bind_some g
    exact ⟨_, h2, two_Det_3.con k _ h1⟩) env0_ok)))
theorem det_Explore_two_table_.con (k : Nat) {x0 : Int} {x1 : (Int × (Int × (Int × (Int × (Int × Unit)))))} {x2 : Int} {x3 : Int} {x4 : Int} {x5 : Int} {x6 : (List (List (Int × (Int × Unit))))} {x7 : (List Int)} (r : Int × Int × Bool × Int × Int × Int × (List (List (Int × (Int × Unit)))) × (List Int) × (List (List Int)) × (List Int)) (h : det_Explore_two_table_.f k x0 x1 x2 x3 x4 x5 x6 x7 = some r) : Con Try.prog 108 5 det_Explore_two_table_.ti det_Explore_two_table_.to [⟨(.int .i64), x0⟩, ⟨(.pair (.int .i64) (.pair (.int .i64) (.pair (.int .i64) (.pair (.int .i64) (.pair (.int .i64) .unit))))), x1⟩, ⟨(.int .i64), x2⟩, ⟨(.int .i64), x3⟩, ⟨(.int .i64), x4⟩, ⟨(.int .i64), x5⟩, ⟨(.slice (.slice (.pair (.int .i64) (.pair (.int .i64) .unit)))), x6⟩, ⟨(.slice (.int .i64)), x7⟩] (det_Explore_two_table_.rs r) :=
  det_Explore_two_table_.con' (k + 1) _ r (by show det_Explore_two_table_.c k _ = some r; unfold det_Explore_two_table_.c; simp only [pop_self, popN]; exact h)
def slices_Clone___int_int_.f (k : Nat) (x0 : List (Int)) : Option (List (Int)) := if Short x0.length then some x0 else none
def slices_Clone___int_int_.ti : Tm := cloneIn (.int .i64)
def slices_Clone___int_int_.to : Tm := cloneOut (.int .i64)
def slices_Clone___int_int_.rs (r : List Int) : List Dat := [⟨.slice (.int .i64), r⟩]
theorem slices_Clone___int_int_.fn : FnOk Try.prog 84 Try.f84 (fnBody Try.f84) Try.f84.ntmps 1 (fnRes Try.f84) :=
  fnOk_of (by kernel_rfl) (by kernel_rfl) (by kernel_rfl) (by kernel_rfl)
theorem slices_Clone___int_int_.con (k : Nat) {x0 : List Int} (r : List Int) (h : slices_Clone___int_int_.f k x0 = some r) : Con Try.prog 84 1 slices_Clone___int_int_.ti slices_Clone___int_int_.to [⟨.slice (.int .i64), x0⟩] (slices_Clone___int_int_.rs r) := by
  unfold slices_Clone___int_int_.f at h
  split at h
  · rename_i hs
    cases h
    exact clone_con (u := (.int .i64)) (t := 23) (t' := 23) (k := restOf (stackOf 2 (fnBody Try.f84))) (ops := opsAt 1 (fnBody Try.f84)) (o1 := opAt 0 (opsAt 1 (fnBody Try.f84))) (o2 := opAt 1 (opsAt 1 (fnBody Try.f84))) T_ok mixed slices_Clone___int_int_.fn (by kernel_rfl) ⟨by kernel_rfl, by kernel_rfl, by kernel_rfl, by kernel_rfl, by kernel_rfl, by kernel_rfl, by kernel_rfl, ⟨3, by kernel_rfl⟩⟩ (Nat.le_of_ble_eq_true (by kernel_rfl)) (by kernel_rfl) (by kernel_rfl) (fun L => by kernel_rfl) (by kernel_rfl) (fun L => by kernel_rfl) x0 hs
  · cases h
mutual
def det_Classes.l3 : Nat → Int → Int → Int → List (List (Int)) → List (Int) → List (Int) → Option (List Int)
 | 0, _, _, _, _, _, _ => none
 | k + 1, count4, d1_0, d1_1, d1_2, d1_3, class3 =>
  if 0 ≤ (↑class3.length : Int) then
  if (↑class3.length : Int) ≤ (↑class3.length : Int) then
   if (↑class3.length : Int) * ((↑8 : Int) + 1) ≤ 1099511627776 then
    det_Classes.l6 k count4 d1_2 ((↑d1_2.length : Int)) 0 d1_0 d1_1 d1_2 d1_3 class3 [] (List.replicate (↑class3.length : Int).toNat (Int.ofNat 0))
    else none
   else none
  else none
def det_Classes.l6 : Nat → Int → List (List (Int)) → Int → Int → Int → Int → List (List (Int)) → List (Int) → List (Int) → List (((Int × (ByteArray × Unit)) × Int)) → List (Int) → Option (List Int)
 | 0, _, _, _, _, _, _, _, _, _, _, _ => none
 | k + 1, count4, x23, x24, x25, d1_0, d1_1, d1_2, d1_3, class3, number5, next6 =>
  if x25 < x24 then
   if 0 ≤ x25 then
   if x25 < (↑x23.length : Int) then
    det_Classes.l10 k count4 x25 x23 x24 x25 (Go.Proofs.YtiiioobebeaafaaSx.rd [] x23 x25) ((↑(Go.Proofs.YtiiioobebeaafaaSx.rd [] x23 x25).length : Int)) 0 d1_0 d1_1 d1_2 d1_3 class3 number5 next6 []
    else none
   else none
  else
   if (↑number5.length : Int) = count4 then
    some (next6)
   else
    det_Classes.l3 k ((↑number5.length : Int)) d1_0 d1_1 d1_2 d1_3 next6
def det_Classes.l10 : Nat → Int → Int → List (List (Int)) → Int → Int → List (Int) → Int → Int → Int → Int → List (List (Int)) → List (Int) → List (Int) → List (((Int × (ByteArray × Unit)) × Int)) → List (Int) → List (Int) → Option (List Int)
 | 0, _, _, _, _, _, _, _, _, _, _, _, _, _, _, _, _ => none
 | k + 1, count4, q7, x23, x24, x25, x30, x31, x32, d1_0, d1_1, d1_2, d1_3, class3, number5, next6, b9 =>
  if x32 < x31 then
   if 0 ≤ x32 then
   if x32 < (↑x30.length : Int) then
    if 0 ≤ Go.Proofs.YtiiioobebeaafaaSx.rd (Int.ofNat 0) x30 x32 then
     if Go.Proofs.YtiiioobebeaafaaSx.rd (Int.ofNat 0) x30 x32 < (↑class3.length : Int) then
      if 0 ≤ Go.Proofs.YtiiioobebeaafaaSx.rd (Int.ofNat 0) x30 x32 then
       if Go.Proofs.YtiiioobebeaafaaSx.rd (Int.ofNat 0) x30 x32 < (↑class3.length : Int) then
        if 0 ≤ 8 then
         if (b9 ++ [Go.IntKind.u8.wrap (class3.getD (Go.Proofs.YtiiioobebeaafaaSx.rd (Int.ofNat 0) x30 x32).toNat (Int.ofNat 0)), Go.IntKind.u8.wrap ((class3.getD (Go.Proofs.YtiiioobebeaafaaSx.rd (Int.ofNat 0) x30 x32).toNat (Int.ofNat 0)).fdiv (2 ^ min (Int.toNat 8) Go.IntKind.i64.bits))]).length.blt 1000000000 = true then
          det_Classes.l10 k count4 q7 x23 x24 x25 x30 x31 (Go.IntKind.i64.wrap (x32 + 1)) d1_0 d1_1 d1_2 d1_3 class3 number5 next6 (b9 ++ [Go.IntKind.u8.wrap (class3.getD (Go.Proofs.YtiiioobebeaafaaSx.rd (Int.ofNat 0) x30 x32).toNat (Int.ofNat 0)), Go.IntKind.u8.wrap ((class3.getD (Go.Proofs.YtiiioobebeaafaaSx.rd (Int.ofNat 0) x30 x32).toNat (Int.ofNat 0)).fdiv (2 ^ min (Int.toNat 8) Go.IntKind.i64.bits))])
          else none
         else none
        else none
       else none
      else none
     else none
    else none
   else none
  else
   if 0 ≤ q7 then
   if q7 < (↑class3.length : Int) then
    if Go.Proofs.YtiiioobebeaafaaSx.mhas ((Go.Proofs.YtiiioobebeaafaaSx.Ty.int Go.IntKind.i64).pair (Go.Proofs.YtiiioobebeaafaaSx.Ty.str.pair Go.Proofs.YtiiioobebeaafaaSx.Ty.unit)) (Go.Proofs.YtiiioobebeaafaaSx.Ty.int Go.IntKind.i64) number5 (class3.getD q7.toNat (Int.ofNat 0), Go.Proofs.YtiiioobebeaafaaSx.strOf b9, ()) = true then
      det_Classes.j18 k count4 q7 x23 x24 x25 d1_0 d1_1 d1_2 d1_3 class3 number5 next6 (class3.getD q7.toNat (Int.ofNat 0)) (Go.Proofs.YtiiioobebeaafaaSx.strOf b9)
     else
      det_Classes.j18 k count4 q7 x23 x24 x25 d1_0 d1_1 d1_2 d1_3 class3 (Go.Proofs.YtiiioobebeaafaaSx.mput ((Go.Proofs.YtiiioobebeaafaaSx.Ty.int Go.IntKind.i64).pair (Go.Proofs.YtiiioobebeaafaaSx.Ty.str.pair Go.Proofs.YtiiioobebeaafaaSx.Ty.unit)) (Go.Proofs.YtiiioobebeaafaaSx.Ty.int Go.IntKind.i64) number5 (class3.getD q7.toNat (Int.ofNat 0), Go.Proofs.YtiiioobebeaafaaSx.strOf b9, ()) (↑number5.length : Int)) next6 (class3.getD q7.toNat (Int.ofNat 0)) (Go.Proofs.YtiiioobebeaafaaSx.strOf b9)
    else none
   else none
def det_Classes.j18 : Nat → Int → Int → List (List (Int)) → Int → Int → Int → Int → List (List (Int)) → List (Int) → List (Int) → List (((Int × (ByteArray × Unit)) × Int)) → List (Int) → Int → ByteArray → Option (List Int)
 | 0, _, _, _, _, _, _, _, _, _, _, _, _, _, _ => none
 | k + 1, count4, q7, x23, x24, x25, d1_0, d1_1, d1_2, d1_3, class3, number5, next6, k12_0, k12_1 =>
  if 0 ≤ q7 then
  if q7 < (↑next6.length : Int) then
   det_Classes.l6 k count4 x23 x24 (Go.IntKind.i64.wrap (x25 + 1)) d1_0 d1_1 d1_2 d1_3 class3 number5 (next6.set q7.toNat (Go.Proofs.YtiiioobebeaafaaSx.mget ((Go.Proofs.YtiiioobebeaafaaSx.Ty.int Go.IntKind.i64).pair (Go.Proofs.YtiiioobebeaafaaSx.Ty.str.pair Go.Proofs.YtiiioobebeaafaaSx.Ty.unit)) (Go.Proofs.YtiiioobebeaafaaSx.Ty.int Go.IntKind.i64) number5 (k12_0, k12_1, ())))
   else none
  else none
end
def det_Classes.f (k : Nat) (d0 : (Int × (Int × (List (List (Int)) × (List (Int) × Unit))))) : Option (List Int) :=
 (slices_Clone___int_int_.f k d0.snd.snd.snd.fst).bind fun r1 =>
  det_Classes.l3 k 0 d0.fst d0.snd.fst d0.snd.snd.fst d0.snd.snd.snd.fst r1

noncomputable def det_Classes.body : Code := fnBody Try.f161
def det_Classes.ti : Tm := ⟨[(0, .p (.pair (.int .i64) (.pair (.int .i64) (.pair (.slice (.slice (.int .i64))) (.pair (.slice (.int .i64)) .unit)))))], []⟩
def det_Classes.to : Tm := ⟨[(0, .own 0)], [.own (.int .i64)]⟩
def det_Classes.rs (r : (List Int)) : List Dat := [⟨(.slice (.int .i64)), r⟩]
def det_Classes.out (ds : List Dat) : Option ((List Int)) := pop (.slice (.int .i64)) ds fun x0 ds => popN ds (some (x0))
def det_Classes.c (k : Nat) (ds : List Dat) : Option ((List Int)) := pop (.pair (.int .i64) (.pair (.int .i64) (.pair (.slice (.slice (.int .i64))) (.pair (.slice (.int .i64)) .unit)))) ds fun x0 ds => popN ds (det_Classes.f k x0)
def det_Classes.g : Nat → List Dat → Option ((List Int))
 | 0, _ => none
 | k + 1, ds => det_Classes.c k ds
def det_Classes.env (k : Nat) : Nat → List SV → List Chunk → KT ((List Int)) → Option ((List Int)) := (envC 84 1 slices_Clone___int_int_.ti slices_Clone___int_int_.to (fun ds K => pop (.slice (.int .i64)) ds fun x0 ds => popN ds ((slices_Clone___int_int_.f k x0).bind fun r => K (slices_Clone___int_int_.rs r))) env0)
def det_Classes.t7 : Tm := ⟨[(1, .ptr 0 0), (3, .own 1), (4, .p (.int .i64))], [.box [.p (.int .i64), .p (.int .i64), .p (.slice (.slice (.int .i64))), .p (.slice (.int .i64))] 58, .own (.int .i64)]⟩
def det_Classes.c7 (k : Nat) (ds : List Dat) : Option ((List Int)) := pop (.int .i64) ds fun x0 ds => pop (.int .i64) ds fun x1 ds => pop (.int .i64) ds fun x2 ds => pop (.slice (.slice (.int .i64))) ds fun x3 ds => pop (.slice (.int .i64)) ds fun x4 ds => pop (.slice (.int .i64)) ds fun x5 ds => popN ds (det_Classes.l3 k x0 x1 x2 x3 x4 x5)
def det_Classes.t13 : Tm := ⟨[(1, .ptr 0 0), (3, .own 1), (4, .p (.int .i64)), (5, .map 2), (6, .own 3), (23, .p (.slice (.slice (.int .i64)))), (24, .p (.int .i64)), (25, .p (.int .i64))], [.box [.p (.int .i64), .p (.int .i64), .p (.slice (.slice (.int .i64))), .p (.slice (.int .i64))] 58, .own (.int .i64), .map (.pair (.int .i64) (.pair .str .unit)) (.int .i64), .own (.int .i64)]⟩
def det_Classes.c13 (k : Nat) (ds : List Dat) : Option ((List Int)) := pop (.int .i64) ds fun x0 ds => pop (.slice (.slice (.int .i64))) ds fun x1 ds => pop (.int .i64) ds fun x2 ds => pop (.int .i64) ds fun x3 ds => pop (.int .i64) ds fun x4 ds => pop (.int .i64) ds fun x5 ds => pop (.slice (.slice (.int .i64))) ds fun x6 ds => pop (.slice (.int .i64)) ds fun x7 ds => pop (.slice (.int .i64)) ds fun x8 ds => pop (.slice (.pair (.pair (.int .i64) (.pair .str .unit)) (.int .i64))) ds fun x9 ds => pop (.slice (.int .i64)) ds fun x10 ds => popN ds (det_Classes.l6 k x0 x1 x2 x3 x4 x5 x6 x7 x8 x9 x10)
def det_Classes.t21 : Tm := ⟨[(1, .ptr 0 0), (3, .own 1), (4, .p (.int .i64)), (5, .map 2), (6, .own 3), (7, .p (.int .i64)), (9, .own 4), (23, .p (.slice (.slice (.int .i64)))), (24, .p (.int .i64)), (25, .p (.int .i64)), (30, .p (.slice (.int .i64))), (31, .p (.int .i64)), (32, .p (.int .i64))], [.box [.p (.int .i64), .p (.int .i64), .p (.slice (.slice (.int .i64))), .p (.slice (.int .i64))] 58, .own (.int .i64), .map (.pair (.int .i64) (.pair .str .unit)) (.int .i64), .own (.int .i64), .own (.int .u8)]⟩
def det_Classes.c21 (k : Nat) (ds : List Dat) : Option ((List Int)) := pop (.int .i64) ds fun x0 ds => pop (.int .i64) ds fun x1 ds => pop (.slice (.slice (.int .i64))) ds fun x2 ds => pop (.int .i64) ds fun x3 ds => pop (.int .i64) ds fun x4 ds => pop (.slice (.int .i64)) ds fun x5 ds => pop (.int .i64) ds fun x6 ds => pop (.int .i64) ds fun x7 ds => pop (.int .i64) ds fun x8 ds => pop (.int .i64) ds fun x9 ds => pop (.slice (.slice (.int .i64))) ds fun x10 ds => pop (.slice (.int .i64)) ds fun x11 ds => pop (.slice (.int .i64)) ds fun x12 ds => pop (.slice (.pair (.pair (.int .i64) (.pair .str .unit)) (.int .i64))) ds fun x13 ds => pop (.slice (.int .i64)) ds fun x14 ds => pop (.slice (.int .u8)) ds fun x15 ds => popN ds (det_Classes.l10 k x0 x1 x2 x3 x4 x5 x6 x7 x8 x9 x10 x11 x12 x13 x14 x15)
def det_Classes.t36 : Tm := ⟨[(1, .ptr 0 0), (3, .own 1), (4, .p (.int .i64)), (5, .map 2), (6, .own 3), (7, .p (.int .i64)), (12, .ptr 4 0), (23, .p (.slice (.slice (.int .i64)))), (24, .p (.int .i64)), (25, .p (.int .i64))], [.box [.p (.int .i64), .p (.int .i64), .p (.slice (.slice (.int .i64))), .p (.slice (.int .i64))] 58, .own (.int .i64), .map (.pair (.int .i64) (.pair .str .unit)) (.int .i64), .own (.int .i64), .box [.p (.int .i64), .p .str] 202]⟩
def det_Classes.c36 (k : Nat) (ds : List Dat) : Option ((List Int)) := pop (.int .i64) ds fun x0 ds => pop (.int .i64) ds fun x1 ds => pop (.slice (.slice (.int .i64))) ds fun x2 ds => pop (.int .i64) ds fun x3 ds => pop (.int .i64) ds fun x4 ds => pop (.int .i64) ds fun x5 ds => pop (.int .i64) ds fun x6 ds => pop (.slice (.slice (.int .i64))) ds fun x7 ds => pop (.slice (.int .i64)) ds fun x8 ds => pop (.slice (.int .i64)) ds fun x9 ds => pop (.slice (.pair (.pair (.int .i64) (.pair .str .unit)) (.int .i64))) ds fun x10 ds => pop (.slice (.int .i64)) ds fun x11 ds => pop (.int .i64) ds fun x12 ds => pop .str ds fun x13 ds => popN ds (det_Classes.j18 k x0 x1 x2 x3 x4 x5 x6 x7 x8 x9 x10 x11 x12 x13)
def det_Classes.tbl : List (Nat × Tm × (Nat → List Dat → Option ((List Int)))) := [(7, det_Classes.t7, det_Classes.c7), (13, det_Classes.t13, det_Classes.c13), (21, det_Classes.t21, det_Classes.c21), (36, det_Classes.t36, det_Classes.c36)]
noncomputable abbrev det_Classes.R (k : Nat) := run T (det_Classes.env k) Try.f161.ntmps (cutE 0 det_Classes.tbl k) (finE 0 det_Classes.to det_Classes.out) (fnRes Try.f161) [18] 100000 true
theorem det_Classes.e7 (k : Nat) (x0 : Int) (x1 : Int) (x2 : Int) (x3 : (List (List Int))) (x4 : (List Int)) (x5 : (List Int)) : det_Classes.l3 (k + 1) x0 x1 x2 x3 x4 x5 = det_Classes.R k (start (stackOf 7 det_Classes.body)) (det_Classes.t7.fill [⟨(.int .i64), x0⟩, ⟨(.int .i64), x1⟩, ⟨(.int .i64), x2⟩, ⟨(.slice (.slice (.int .i64))), x3⟩, ⟨(.slice (.int .i64)), x4⟩, ⟨(.slice (.int .i64)), x5⟩]) := by kernel_rfl
theorem det_Classes.s7 : stackAt 7 det_Classes.body [] = some (stackOf 7 det_Classes.body) := by kernel_rfl
theorem det_Classes.h7 (k : Nat) (ds : List Dat) (r : (List Int)) (h : det_Classes.c7 k ds = some r) : ∃ k', k' < k ∧ ∃ s, stackAt 7 det_Classes.body [] = some s ∧ det_Classes.R k' (start s) (det_Classes.t7.fill ds) = some r := by
  unfold det_Classes.c7 at h
  obtain ⟨x0, d0, rfl, h0⟩ := pop_some h
  obtain ⟨x1, d1, rfl, h1⟩ := pop_some h0
  obtain ⟨x2, d2, rfl, h2⟩ := pop_some h1
  obtain ⟨x3, d3, rfl, h3⟩ := pop_some h2
  obtain ⟨x4, d4, rfl, h4⟩ := pop_some h3
  obtain ⟨x5, d5, rfl, h5⟩ := pop_some h4
  obtain ⟨rfl, g⟩ := popN_some h5
  cases k with
  | zero => cases (show none = some r from g)
  | succ k => exact ⟨k, Nat.lt_succ_self k, _, det_Classes.s7, (det_Classes.e7 k x0 x1 x2 x3 x4 x5).symm.trans g⟩
theorem det_Classes.e13 (k : Nat) (x0 : Int) (x1 : (List (List Int))) (x2 : Int) (x3 : Int) (x4 : Int) (x5 : Int) (x6 : (List (List Int))) (x7 : (List Int)) (x8 : (List Int)) (x9 : (List ((Int × (ByteArray × Unit)) × Int))) (x10 : (List Int)) : det_Classes.l6 (k + 1) x0 x1 x2 x3 x4 x5 x6 x7 x8 x9 x10 = det_Classes.R k (start (stackOf 13 det_Classes.body)) (det_Classes.t13.fill [⟨(.int .i64), x0⟩, ⟨(.slice (.slice (.int .i64))), x1⟩, ⟨(.int .i64), x2⟩, ⟨(.int .i64), x3⟩, ⟨(.int .i64), x4⟩, ⟨(.int .i64), x5⟩, ⟨(.slice (.slice (.int .i64))), x6⟩, ⟨(.slice (.int .i64)), x7⟩, ⟨(.slice (.int .i64)), x8⟩, ⟨(.slice (.pair (.pair (.int .i64) (.pair .str .unit)) (.int .i64))), x9⟩, ⟨(.slice (.int .i64)), x10⟩]) := by kernel_rfl
theorem det_Classes.s13 : stackAt 13 det_Classes.body [] = some (stackOf 13 det_Classes.body) := by kernel_rfl
theorem det_Classes.h13 (k : Nat) (ds : List Dat) (r : (List Int)) (h : det_Classes.c13 k ds = some r) : ∃ k', k' < k ∧ ∃ s, stackAt 13 det_Classes.body [] = some s ∧ det_Classes.R k' (start s) (det_Classes.t13.fill ds) = some r := by
  unfold det_Classes.c13 at h
  obtain ⟨x0, d0, rfl, h0⟩ := pop_some h
  obtain ⟨x1, d1, rfl, h1⟩ := pop_some h0
  obtain ⟨x2, d2, rfl, h2⟩ := pop_some h1
  obtain ⟨x3, d3, rfl, h3⟩ := pop_some h2
  obtain ⟨x4, d4, rfl, h4⟩ := pop_some h3
  obtain ⟨x5, d5, rfl, h5⟩ := pop_some h4
  obtain ⟨x6, d6, rfl, h6⟩ := pop_some h5
  obtain ⟨x7, d7, rfl, h7⟩ := pop_some h6
  obtain ⟨x8, d8, rfl, h8⟩ := pop_some h7
  obtain ⟨x9, d9, rfl, h9⟩ := pop_some h8
  obtain ⟨x10, d10, rfl, h10⟩ := pop_some h9
  obtain ⟨rfl, g⟩ := popN_some h10
  cases k with
  | zero => cases (show none = some r from g)
  | succ k => exact ⟨k, Nat.lt_succ_self k, _, det_Classes.s13, (det_Classes.e13 k x0 x1 x2 x3 x4 x5 x6 x7 x8 x9 x10).symm.trans g⟩
theorem det_Classes.e21 (k : Nat) (x0 : Int) (x1 : Int) (x2 : (List (List Int))) (x3 : Int) (x4 : Int) (x5 : (List Int)) (x6 : Int) (x7 : Int) (x8 : Int) (x9 : Int) (x10 : (List (List Int))) (x11 : (List Int)) (x12 : (List Int)) (x13 : (List ((Int × (ByteArray × Unit)) × Int))) (x14 : (List Int)) (x15 : (List Int)) : det_Classes.l10 (k + 1) x0 x1 x2 x3 x4 x5 x6 x7 x8 x9 x10 x11 x12 x13 x14 x15 = det_Classes.R k (start (stackOf 21 det_Classes.body)) (det_Classes.t21.fill [⟨(.int .i64), x0⟩, ⟨(.int .i64), x1⟩, ⟨(.slice (.slice (.int .i64))), x2⟩, ⟨(.int .i64), x3⟩, ⟨(.int .i64), x4⟩, ⟨(.slice (.int .i64)), x5⟩, ⟨(.int .i64), x6⟩, ⟨(.int .i64), x7⟩, ⟨(.int .i64), x8⟩, ⟨(.int .i64), x9⟩, ⟨(.slice (.slice (.int .i64))), x10⟩, ⟨(.slice (.int .i64)), x11⟩, ⟨(.slice (.int .i64)), x12⟩, ⟨(.slice (.pair (.pair (.int .i64) (.pair .str .unit)) (.int .i64))), x13⟩, ⟨(.slice (.int .i64)), x14⟩, ⟨(.slice (.int .u8)), x15⟩]) := by kernel_rfl
theorem det_Classes.s21 : stackAt 21 det_Classes.body [] = some (stackOf 21 det_Classes.body) := by kernel_rfl
theorem det_Classes.h21 (k : Nat) (ds : List Dat) (r : (List Int)) (h : det_Classes.c21 k ds = some r) : ∃ k', k' < k ∧ ∃ s, stackAt 21 det_Classes.body [] = some s ∧ det_Classes.R k' (start s) (det_Classes.t21.fill ds) = some r := by
  unfold det_Classes.c21 at h
  obtain ⟨x0, d0, rfl, h0⟩ := pop_some h
  obtain ⟨x1, d1, rfl, h1⟩ := pop_some h0
  obtain ⟨x2, d2, rfl, h2⟩ := pop_some h1
  obtain ⟨x3, d3, rfl, h3⟩ := pop_some h2
  obtain ⟨x4, d4, rfl, h4⟩ := pop_some h3
  obtain ⟨x5, d5, rfl, h5⟩ := pop_some h4
  obtain ⟨x6, d6, rfl, h6⟩ := pop_some h5
  obtain ⟨x7, d7, rfl, h7⟩ := pop_some h6
  obtain ⟨x8, d8, rfl, h8⟩ := pop_some h7
  obtain ⟨x9, d9, rfl, h9⟩ := pop_some h8
  obtain ⟨x10, d10, rfl, h10⟩ := pop_some h9
  obtain ⟨x11, d11, rfl, h11⟩ := pop_some h10
  obtain ⟨x12, d12, rfl, h12⟩ := pop_some h11
  obtain ⟨x13, d13, rfl, h13⟩ := pop_some h12
  obtain ⟨x14, d14, rfl, h14⟩ := pop_some h13
  obtain ⟨x15, d15, rfl, h15⟩ := pop_some h14
  obtain ⟨rfl, g⟩ := popN_some h15
  cases k with
  | zero => cases (show none = some r from g)
  | succ k => exact ⟨k, Nat.lt_succ_self k, _, det_Classes.s21, (det_Classes.e21 k x0 x1 x2 x3 x4 x5 x6 x7 x8 x9 x10 x11 x12 x13 x14 x15).symm.trans g⟩
theorem det_Classes.e36 (k : Nat) (x0 : Int) (x1 : Int) (x2 : (List (List Int))) (x3 : Int) (x4 : Int) (x5 : Int) (x6 : Int) (x7 : (List (List Int))) (x8 : (List Int)) (x9 : (List Int)) (x10 : (List ((Int × (ByteArray × Unit)) × Int))) (x11 : (List Int)) (x12 : Int) (x13 : ByteArray) : det_Classes.j18 (k + 1) x0 x1 x2 x3 x4 x5 x6 x7 x8 x9 x10 x11 x12 x13 = det_Classes.R k (start (stackOf 36 det_Classes.body)) (det_Classes.t36.fill [⟨(.int .i64), x0⟩, ⟨(.int .i64), x1⟩, ⟨(.slice (.slice (.int .i64))), x2⟩, ⟨(.int .i64), x3⟩, ⟨(.int .i64), x4⟩, ⟨(.int .i64), x5⟩, ⟨(.int .i64), x6⟩, ⟨(.slice (.slice (.int .i64))), x7⟩, ⟨(.slice (.int .i64)), x8⟩, ⟨(.slice (.int .i64)), x9⟩, ⟨(.slice (.pair (.pair (.int .i64) (.pair .str .unit)) (.int .i64))), x10⟩, ⟨(.slice (.int .i64)), x11⟩, ⟨(.int .i64), x12⟩, ⟨.str, x13⟩]) := by kernel_rfl
theorem det_Classes.s36 : stackAt 36 det_Classes.body [] = some (stackOf 36 det_Classes.body) := by kernel_rfl
theorem det_Classes.h36 (k : Nat) (ds : List Dat) (r : (List Int)) (h : det_Classes.c36 k ds = some r) : ∃ k', k' < k ∧ ∃ s, stackAt 36 det_Classes.body [] = some s ∧ det_Classes.R k' (start s) (det_Classes.t36.fill ds) = some r := by
  unfold det_Classes.c36 at h
  obtain ⟨x0, d0, rfl, h0⟩ := pop_some h
  obtain ⟨x1, d1, rfl, h1⟩ := pop_some h0
  obtain ⟨x2, d2, rfl, h2⟩ := pop_some h1
  obtain ⟨x3, d3, rfl, h3⟩ := pop_some h2
  obtain ⟨x4, d4, rfl, h4⟩ := pop_some h3
  obtain ⟨x5, d5, rfl, h5⟩ := pop_some h4
  obtain ⟨x6, d6, rfl, h6⟩ := pop_some h5
  obtain ⟨x7, d7, rfl, h7⟩ := pop_some h6
  obtain ⟨x8, d8, rfl, h8⟩ := pop_some h7
  obtain ⟨x9, d9, rfl, h9⟩ := pop_some h8
  obtain ⟨x10, d10, rfl, h10⟩ := pop_some h9
  obtain ⟨x11, d11, rfl, h11⟩ := pop_some h10
  obtain ⟨x12, d12, rfl, h12⟩ := pop_some h11
  obtain ⟨x13, d13, rfl, h13⟩ := pop_some h12
  obtain ⟨rfl, g⟩ := popN_some h13
  cases k with
  | zero => cases (show none = some r from g)
  | succ k => exact ⟨k, Nat.lt_succ_self k, _, det_Classes.s36, (det_Classes.e36 k x0 x1 x2 x3 x4 x5 x6 x7 x8 x9 x10 x11 x12 x13).symm.trans g⟩
theorem det_Classes.e (k : Nat) (x0 : (Int × (Int × ((List (List Int)) × ((List Int) × Unit))))) : det_Classes.f k x0 = det_Classes.R k ([.code det_Classes.body]) (det_Classes.ti.fill [⟨(.pair (.int .i64) (.pair (.int .i64) (.pair (.slice (.slice (.int .i64))) (.pair (.slice (.int .i64)) .unit)))), x0⟩]) := by kernel_rfl
theorem det_Classes.h (k : Nat) (ds : List Dat) (r : (List Int)) (h : det_Classes.g k ds = some r) : ∃ k', k' < k ∧ det_Classes.R k' ([.code det_Classes.body]) (det_Classes.ti.fill ds) = some r := by
  cases k with
  | zero => cases (show none = some r from h)
  | succ k =>
  replace h : det_Classes.c k ds = some r := h
  unfold det_Classes.c at h
  obtain ⟨x0, d0, rfl, h0⟩ := pop_some h
  obtain ⟨rfl, g⟩ := popN_some h0
  exact ⟨k, Nat.lt_succ_self k, (det_Classes.e k x0).symm.trans g⟩
theorem det_Classes.o (ds : List Dat) (r : (List Int)) (h : det_Classes.out ds = some r) : ds = det_Classes.rs r := by
  unfold det_Classes.out at h
  obtain ⟨x0, d0, rfl, h0⟩ := pop_some h
  obtain ⟨rfl, g⟩ := popN_some h0
  cases g
  rfl
theorem det_Classes.fn : FnOk Try.prog 161 Try.f161 det_Classes.body Try.f161.ntmps 1 (fnRes Try.f161) :=
  fnOk_of (by kernel_rfl) (by kernel_rfl) (by kernel_rfl) (by kernel_rfl)
theorem det_Classes.con' : ∀ k ds r, det_Classes.g k ds = some r → Con Try.prog 161 1 det_Classes.ti det_Classes.to ds (det_Classes.rs r) :=
  fun_ok (T := T) T_ok mixed det_Classes.fn (env := det_Classes.env) (tbl := det_Classes.tbl) (gOut := det_Classes.out) (nin := 0) (cuts := [18]) (fuel := 100000) rfl (by kernel_rfl) (by kernel_rfl) (by kernel_rfl) (fun x hx => by
    simp only [det_Classes.tbl, List.mem_cons, List.not_mem_nil, or_false] at hx
    rcases hx with rfl | rfl | rfl | rfl
    · exact det_Classes.h7
    · exact det_Classes.h13
    · exact det_Classes.h21
    · exact det_Classes.h36
) det_Classes.o det_Classes.h (fun k _ => by unfold det_Classes.env; exact (envC_ok (fun ds K r h => by
    obtain ⟨x0, d0, rfl, h0⟩ := pop_some h
    obtain ⟨rfl, g⟩ := popN_some h0
    obtain ⟨r1, h1, h2⟩ := bind_some g
    exact ⟨_, h2, slices_Clone___int_int_.con k _ h1⟩) env0_ok))
theorem det_Classes.con (k : Nat) {x0 : (Int × (Int × ((List (List Int)) × ((List Int) × Unit))))} (r : (List Int)) (h : det_Classes.f k x0 = some r) : Con Try.prog 161 1 det_Classes.ti det_Classes.to [⟨(.pair (.int .i64) (.pair (.int .i64) (.pair (.slice (.slice (.int .i64))) (.pair (.slice (.int .i64)) .unit)))), x0⟩] (det_Classes.rs r) :=
  det_Classes.con' (k + 1) _ r (by show det_Classes.c k _ = some r; unfold det_Classes.c; simp only [pop_self, popN]; exact h)
def det_Smallest_1.f (k : Nat) (c0 : Int) (a1 : Int) (x3_0 : Int) (x3_1 : Int) (x3_2 : List (List (Int))) (x3_3 : List (Int)) (c3 : List (Int)) (c4 : List (Int)) : Option (Int × Int × Int × List (List Int) × List Int × List Int × List Int) :=
 if 0 ≤ c0 then
 if c0 < (↑c4.length : Int) then
  if 0 ≤ c4.getD c0.toNat (Int.ofNat 0) then
   if c4.getD c0.toNat (Int.ofNat 0) < (↑x3_2.length : Int) then
    if 0 ≤ a1 then
     if a1 < (↑(Go.Proofs.YtiiioobebeaafaaSx.rd [] x3_2 (c4.getD c0.toNat (Int.ofNat 0))).length : Int) then
      if 0 ≤ Go.Proofs.YtiiioobebeaafaaSx.rd (Int.ofNat 0) (Go.Proofs.YtiiioobebeaafaaSx.rd [] x3_2 (c4.getD c0.toNat (Int.ofNat 0))) a1 then
       if Go.Proofs.YtiiioobebeaafaaSx.rd (Int.ofNat 0) (Go.Proofs.YtiiioobebeaafaaSx.rd [] x3_2 (c4.getD c0.toNat (Int.ofNat 0))) a1 < (↑c3.length : Int) then
        some (c3.getD (Go.Proofs.YtiiioobebeaafaaSx.rd (Int.ofNat 0) (Go.Proofs.YtiiioobebeaafaaSx.rd [] x3_2 (c4.getD c0.toNat (Int.ofNat 0))) a1).toNat (Int.ofNat 0), x3_0, x3_1, x3_2, x3_3, c3, c4)
        else none
       else none
      else none
     else none
    else none
   else none
  else none
 else none

noncomputable def det_Smallest_1.body : Code := fnBody Try.f162
def det_Smallest_1.ti : Tm := ⟨[(0, .p (.int .i64)), (1, .p (.int .i64)), (2, .ptr 0 0), (3, .ptr 1 0), (4, .ptr 2 0)], [.box [.own 3] 23, .box [.p (.int .i64), .p (.int .i64), .p (.slice (.slice (.int .i64))), .p (.slice (.int .i64))] 58, .box [.own 4] 23, .own (.int .i64), .own (.int .i64)]⟩
def det_Smallest_1.to : Tm := ⟨[(0, .p (.int .i64))], [.box [.own 3] 23, .box [.p (.int .i64), .p (.int .i64), .p (.slice (.slice (.int .i64))), .p (.slice (.int .i64))] 58, .box [.own 4] 23, .own (.int .i64), .own (.int .i64)]⟩
def det_Smallest_1.rs (r : Int × Int × Int × (List (List Int)) × (List Int) × (List Int) × (List Int)) : List Dat := [⟨(.int .i64), r.1⟩, ⟨(.int .i64), r.2.1⟩, ⟨(.int .i64), r.2.2.1⟩, ⟨(.slice (.slice (.int .i64))), r.2.2.2.1⟩, ⟨(.slice (.int .i64)), r.2.2.2.2.1⟩, ⟨(.slice (.int .i64)), r.2.2.2.2.2.1⟩, ⟨(.slice (.int .i64)), r.2.2.2.2.2.2⟩]
def det_Smallest_1.out (ds : List Dat) : Option (Int × Int × Int × (List (List Int)) × (List Int) × (List Int) × (List Int)) := pop (.int .i64) ds fun x0 ds => pop (.int .i64) ds fun x1 ds => pop (.int .i64) ds fun x2 ds => pop (.slice (.slice (.int .i64))) ds fun x3 ds => pop (.slice (.int .i64)) ds fun x4 ds => pop (.slice (.int .i64)) ds fun x5 ds => pop (.slice (.int .i64)) ds fun x6 ds => popN ds (some (x0, x1, x2, x3, x4, x5, x6))
def det_Smallest_1.c (k : Nat) (ds : List Dat) : Option (Int × Int × Int × (List (List Int)) × (List Int) × (List Int) × (List Int)) := pop (.int .i64) ds fun x0 ds => pop (.int .i64) ds fun x1 ds => pop (.int .i64) ds fun x2 ds => pop (.int .i64) ds fun x3 ds => pop (.slice (.slice (.int .i64))) ds fun x4 ds => pop (.slice (.int .i64)) ds fun x5 ds => pop (.slice (.int .i64)) ds fun x6 ds => pop (.slice (.int .i64)) ds fun x7 ds => popN ds (det_Smallest_1.f k x0 x1 x2 x3 x4 x5 x6 x7)
def det_Smallest_1.g : Nat → List Dat → Option (Int × Int × Int × (List (List Int)) × (List Int) × (List Int) × (List Int))
 | 0, _ => none
 | k + 1, ds => det_Smallest_1.c k ds
def det_Smallest_1.env (k : Nat) : Nat → List SV → List Chunk → KT (Int × Int × Int × (List (List Int)) × (List Int) × (List Int) × (List Int)) → Option (Int × Int × Int × (List (List Int)) × (List Int) × (List Int) × (List Int)) := env0
def det_Smallest_1.tbl : List (Nat × Tm × (Nat → List Dat → Option (Int × Int × Int × (List (List Int)) × (List Int) × (List Int) × (List Int)))) := []
noncomputable abbrev det_Smallest_1.R (k : Nat) := run T (det_Smallest_1.env k) Try.f162.ntmps (cutE 5 det_Smallest_1.tbl k) (finE 5 det_Smallest_1.to det_Smallest_1.out) (fnRes Try.f162) [] 100000 true
theorem det_Smallest_1.e (k : Nat) (x0 : Int) (x1 : Int) (x2 : Int) (x3 : Int) (x4 : (List (List Int))) (x5 : (List Int)) (x6 : (List Int)) (x7 : (List Int)) : det_Smallest_1.f k x0 x1 x2 x3 x4 x5 x6 x7 = det_Smallest_1.R k ([.code det_Smallest_1.body]) (det_Smallest_1.ti.fill [⟨(.int .i64), x0⟩, ⟨(.int .i64), x1⟩, ⟨(.int .i64), x2⟩, ⟨(.int .i64), x3⟩, ⟨(.slice (.slice (.int .i64))), x4⟩, ⟨(.slice (.int .i64)), x5⟩, ⟨(.slice (.int .i64)), x6⟩, ⟨(.slice (.int .i64)), x7⟩]) := by kernel_rfl
theorem det_Smallest_1.h (k : Nat) (ds : List Dat) (r : Int × Int × Int × (List (List Int)) × (List Int) × (List Int) × (List Int)) (h : det_Smallest_1.g k ds = some r) : ∃ k', k' < k ∧ det_Smallest_1.R k' ([.code det_Smallest_1.body]) (det_Smallest_1.ti.fill ds) = some r := by
  cases k with
  | zero => cases (show none = some r from h)
  | succ k =>
  replace h : det_Smallest_1.c k ds = some r := h
  unfold det_Smallest_1.c at h
  obtain ⟨x0, d0, rfl, h0⟩ := pop_some h
  obtain ⟨x1, d1, rfl, h1⟩ := pop_some h0
  obtain ⟨x2, d2, rfl, h2⟩ := pop_some h1
  obtain ⟨x3, d3, rfl, h3⟩ := pop_some h2
  obtain ⟨x4, d4, rfl, h4⟩ := pop_some h3
  obtain ⟨x5, d5, rfl, h5⟩ := pop_some h4
  obtain ⟨x6, d6, rfl, h6⟩ := pop_some h5
  obtain ⟨x7, d7, rfl, h7⟩ := pop_some h6
  obtain ⟨rfl, g⟩ := popN_some h7
  exact ⟨k, Nat.lt_succ_self k, (det_Smallest_1.e k x0 x1 x2 x3 x4 x5 x6 x7).symm.trans g⟩
theorem det_Smallest_1.o (ds : List Dat) (r : Int × Int × Int × (List (List Int)) × (List Int) × (List Int) × (List Int)) (h : det_Smallest_1.out ds = some r) : ds = det_Smallest_1.rs r := by
  unfold det_Smallest_1.out at h
  obtain ⟨x0, d0, rfl, h0⟩ := pop_some h
  obtain ⟨x1, d1, rfl, h1⟩ := pop_some h0
  obtain ⟨x2, d2, rfl, h2⟩ := pop_some h1
  obtain ⟨x3, d3, rfl, h3⟩ := pop_some h2
  obtain ⟨x4, d4, rfl, h4⟩ := pop_some h3
  obtain ⟨x5, d5, rfl, h5⟩ := pop_some h4
  obtain ⟨x6, d6, rfl, h6⟩ := pop_some h5
  obtain ⟨rfl, g⟩ := popN_some h6
  cases g
  rfl
theorem det_Smallest_1.fn : FnOk Try.prog 162 Try.f162 det_Smallest_1.body Try.f162.ntmps 5 (fnRes Try.f162) :=
  fnOk_of (by kernel_rfl) (by kernel_rfl) (by kernel_rfl) (by kernel_rfl)
theorem det_Smallest_1.con' : ∀ k ds r, det_Smallest_1.g k ds = some r → Con Try.prog 162 5 det_Smallest_1.ti det_Smallest_1.to ds (det_Smallest_1.rs r) :=
  fun_ok (T := T) T_ok mixed det_Smallest_1.fn (env := det_Smallest_1.env) (tbl := det_Smallest_1.tbl) (gOut := det_Smallest_1.out) (nin := 5) (cuts := []) (fuel := 100000) rfl (by kernel_rfl) (by kernel_rfl) (by kernel_rfl) (fun x hx => by simp [det_Smallest_1.tbl] at hx) det_Smallest_1.o det_Smallest_1.h (fun k _ => by unfold det_Smallest_1.env; exact env0_ok)
theorem det_Smallest_1.con (k : Nat) {x0 : Int} {x1 : Int} {x2 : Int} {x3 : Int} {x4 : (List (List Int))} {x5 : (List Int)} {x6 : (List Int)} {x7 : (List Int)} (r : Int × Int × Int × (List (List Int)) × (List Int) × (List Int) × (List Int)) (h : det_Smallest_1.f k x0 x1 x2 x3 x4 x5 x6 x7 = some r) : Con Try.prog 162 5 det_Smallest_1.ti det_Smallest_1.to [⟨(.int .i64), x0⟩, ⟨(.int .i64), x1⟩, ⟨(.int .i64), x2⟩, ⟨(.int .i64), x3⟩, ⟨(.slice (.slice (.int .i64))), x4⟩, ⟨(.slice (.int .i64)), x5⟩, ⟨(.slice (.int .i64)), x6⟩, ⟨(.slice (.int .i64)), x7⟩] (det_Smallest_1.rs r) :=
  det_Smallest_1.con' (k + 1) _ r (by show det_Smallest_1.c k _ = some r; unfold det_Smallest_1.c; simp only [pop_self, popN]; exact h)
def det_Smallest_2.f (k : Nat) (c0 : Int) (x1_0 : Int) (x1_1 : Int) (x1_2 : List (List (Int))) (x1_3 : List (Int)) (c2 : List (Int)) : Option (Int × Int × Int × List (List Int) × List Int × List Int) :=
 if 0 ≤ c0 then
 if c0 < (↑c2.length : Int) then
  if 0 ≤ c2.getD c0.toNat (Int.ofNat 0) then
   if c2.getD c0.toNat (Int.ofNat 0) < (↑x1_3.length : Int) then
    some (Go.Proofs.YtiiioobebeaafaaSx.rd (Int.ofNat 0) x1_3 (c2.getD c0.toNat (Int.ofNat 0)), x1_0, x1_1, x1_2, x1_3, c2)
    else none
   else none
  else none
 else none

noncomputable def det_Smallest_2.body : Code := fnBody Try.f163
def det_Smallest_2.ti : Tm := ⟨[(0, .p (.int .i64)), (1, .ptr 0 0), (2, .ptr 1 0)], [.box [.p (.int .i64), .p (.int .i64), .p (.slice (.slice (.int .i64))), .p (.slice (.int .i64))] 58, .box [.own 2] 23, .own (.int .i64)]⟩
def det_Smallest_2.to : Tm := ⟨[(0, .p (.int .i64))], [.box [.p (.int .i64), .p (.int .i64), .p (.slice (.slice (.int .i64))), .p (.slice (.int .i64))] 58, .box [.own 2] 23, .own (.int .i64)]⟩
def det_Smallest_2.rs (r : Int × Int × Int × (List (List Int)) × (List Int) × (List Int)) : List Dat := [⟨(.int .i64), r.1⟩, ⟨(.int .i64), r.2.1⟩, ⟨(.int .i64), r.2.2.1⟩, ⟨(.slice (.slice (.int .i64))), r.2.2.2.1⟩, ⟨(.slice (.int .i64)), r.2.2.2.2.1⟩, ⟨(.slice (.int .i64)), r.2.2.2.2.2⟩]
def det_Smallest_2.out (ds : List Dat) : Option (Int × Int × Int × (List (List Int)) × (List Int) × (List Int)) := pop (.int .i64) ds fun x0 ds => pop (.int .i64) ds fun x1 ds => pop (.int .i64) ds fun x2 ds => pop (.slice (.slice (.int .i64))) ds fun x3 ds => pop (.slice (.int .i64)) ds fun x4 ds => pop (.slice (.int .i64)) ds fun x5 ds => popN ds (some (x0, x1, x2, x3, x4, x5))
def det_Smallest_2.c (k : Nat) (ds : List Dat) : Option (Int × Int × Int × (List (List Int)) × (List Int) × (List Int)) := pop (.int .i64) ds fun x0 ds => pop (.int .i64) ds fun x1 ds => pop (.int .i64) ds fun x2 ds => pop (.slice (.slice (.int .i64))) ds fun x3 ds => pop (.slice (.int .i64)) ds fun x4 ds => pop (.slice (.int .i64)) ds fun x5 ds => popN ds (det_Smallest_2.f k x0 x1 x2 x3 x4 x5)
def det_Smallest_2.g : Nat → List Dat → Option (Int × Int × Int × (List (List Int)) × (List Int) × (List Int))
 | 0, _ => none
 | k + 1, ds => det_Smallest_2.c k ds
def det_Smallest_2.env (k : Nat) : Nat → List SV → List Chunk → KT (Int × Int × Int × (List (List Int)) × (List Int) × (List Int)) → Option (Int × Int × Int × (List (List Int)) × (List Int) × (List Int)) := env0
def det_Smallest_2.tbl : List (Nat × Tm × (Nat → List Dat → Option (Int × Int × Int × (List (List Int)) × (List Int) × (List Int)))) := []
noncomputable abbrev det_Smallest_2.R (k : Nat) := run T (det_Smallest_2.env k) Try.f163.ntmps (cutE 3 det_Smallest_2.tbl k) (finE 3 det_Smallest_2.to det_Smallest_2.out) (fnRes Try.f163) [] 100000 true
theorem det_Smallest_2.e (k : Nat) (x0 : Int) (x1 : Int) (x2 : Int) (x3 : (List (List Int))) (x4 : (List Int)) (x5 : (List Int)) : det_Smallest_2.f k x0 x1 x2 x3 x4 x5 = det_Smallest_2.R k ([.code det_Smallest_2.body]) (det_Smallest_2.ti.fill [⟨(.int .i64), x0⟩, ⟨(.int .i64), x1⟩, ⟨(.int .i64), x2⟩, ⟨(.slice (.slice (.int .i64))), x3⟩, ⟨(.slice (.int .i64)), x4⟩, ⟨(.slice (.int .i64)), x5⟩]) := by kernel_rfl
theorem det_Smallest_2.h (k : Nat) (ds : List Dat) (r : Int × Int × Int × (List (List Int)) × (List Int) × (List Int)) (h : det_Smallest_2.g k ds = some r) : ∃ k', k' < k ∧ det_Smallest_2.R k' ([.code det_Smallest_2.body]) (det_Smallest_2.ti.fill ds) = some r := by
  cases k with
  | zero => cases (show none = some r from h)
  | succ k =>
  replace h : det_Smallest_2.c k ds = some r := h
  unfold det_Smallest_2.c at h
  obtain ⟨x0, d0, rfl, h0⟩ := pop_some h
  obtain ⟨x1, d1, rfl, h1⟩ := pop_some h0
  obtain ⟨x2, d2, rfl, h2⟩ := pop_some h1
  obtain ⟨x3, d3, rfl, h3⟩ := pop_some h2
  obtain ⟨x4, d4, rfl, h4⟩ := pop_some h3
  obtain ⟨x5, d5, rfl, h5⟩ := pop_some h4
  obtain ⟨rfl, g⟩ := popN_some h5
  exact ⟨k, Nat.lt_succ_self k, (det_Smallest_2.e k x0 x1 x2 x3 x4 x5).symm.trans g⟩
theorem det_Smallest_2.o (ds : List Dat) (r : Int × Int × Int × (List (List Int)) × (List Int) × (List Int)) (h : det_Smallest_2.out ds = some r) : ds = det_Smallest_2.rs r := by
  unfold det_Smallest_2.out at h
  obtain ⟨x0, d0, rfl, h0⟩ := pop_some h
  obtain ⟨x1, d1, rfl, h1⟩ := pop_some h0
  obtain ⟨x2, d2, rfl, h2⟩ := pop_some h1
  obtain ⟨x3, d3, rfl, h3⟩ := pop_some h2
  obtain ⟨x4, d4, rfl, h4⟩ := pop_some h3
  obtain ⟨x5, d5, rfl, h5⟩ := pop_some h4
  obtain ⟨rfl, g⟩ := popN_some h5
  cases g
  rfl
theorem det_Smallest_2.fn : FnOk Try.prog 163 Try.f163 det_Smallest_2.body Try.f163.ntmps 3 (fnRes Try.f163) :=
  fnOk_of (by kernel_rfl) (by kernel_rfl) (by kernel_rfl) (by kernel_rfl)
theorem det_Smallest_2.con' : ∀ k ds r, det_Smallest_2.g k ds = some r → Con Try.prog 163 3 det_Smallest_2.ti det_Smallest_2.to ds (det_Smallest_2.rs r) :=
  fun_ok (T := T) T_ok mixed det_Smallest_2.fn (env := det_Smallest_2.env) (tbl := det_Smallest_2.tbl) (gOut := det_Smallest_2.out) (nin := 3) (cuts := []) (fuel := 100000) rfl (by kernel_rfl) (by kernel_rfl) (by kernel_rfl) (fun x hx => by simp [det_Smallest_2.tbl] at hx) det_Smallest_2.o det_Smallest_2.h (fun k _ => by unfold det_Smallest_2.env; exact env0_ok)
theorem det_Smallest_2.con (k : Nat) {x0 : Int} {x1 : Int} {x2 : Int} {x3 : (List (List Int))} {x4 : (List Int)} {x5 : (List Int)} (r : Int × Int × Int × (List (List Int)) × (List Int) × (List Int)) (h : det_Smallest_2.f k x0 x1 x2 x3 x4 x5 = some r) : Con Try.prog 163 3 det_Smallest_2.ti det_Smallest_2.to [⟨(.int .i64), x0⟩, ⟨(.int .i64), x1⟩, ⟨(.int .i64), x2⟩, ⟨(.slice (.slice (.int .i64))), x3⟩, ⟨(.slice (.int .i64)), x4⟩, ⟨(.slice (.int .i64)), x5⟩] (det_Smallest_2.rs r) :=
  det_Smallest_2.con' (k + 1) _ r (by show det_Smallest_2.c k _ = some r; unfold det_Smallest_2.c; simp only [pop_self, popN]; exact h)
mutual
def det_Explore_int_.l4 : Nat → Int → Int → Int → Int → List (List (Int)) → List (Int) → List (Int) → List (Int) → Int → Int → Int → Int → List ((Int × Int)) → List (Int) → List (List (Int)) → List (Int) → List (List (Int)) → List (Int) → Option (Int × Int × Bool × Int × Int × List (List Int) × List Int × List Int × List Int × List (List Int) × List Int)
 | 0, _, _, _, _, _, _, _, _, _, _, _, _, _, _, _, _, _, _ => none
 | k + 1, letters0, most4, c1_0, c1_1, c1_2, c1_3, c3, c4, x10_0, x10_1, d12_0, d12_1, number13, l14, c9, c10, c11, c12 =>
  if (↑c11.length : Int) < (↑l14.length : Int) then
   if 0 ≤ (↑c11.length : Int) then
   if (↑c11.length : Int) < (↑l14.length : Int) then
    if 0 ≤ letters0 then
     if letters0 ≤ letters0 then
      if letters0 * ((↑8 : Int) + 1) ≤ 1099511627776 then
       det_Explore_int_.l8 k letters0 most4 (l14.getD (↑c11.length : Int).toNat (Int.ofNat 0)) letters0 0 c1_0 c1_1 c1_2 c1_3 c3 c4 x10_0 x10_1 d12_0 d12_1 number13 l14 (List.replicate letters0.toNat (Int.ofNat 0)) c9 c10 c11 c12
       else none
      else none
     else none
    else none
   else none
  else
   some (d12_0, d12_1, true, c1_0, c1_1, c1_2, c1_3, c3, c4, c11, c12)
def det_Explore_int_.l8 : Nat → Int → Int → Int → Int → Int → Int → Int → List (List (Int)) → List (Int) → List (Int) → List (Int) → Int → Int → Int → Int → List ((Int × Int)) → List (Int) → List (Int) → List (List (Int)) → List (Int) → List (List (Int)) → List (Int) → Option (Int × Int × Bool × Int × Int × List (List Int) × List Int × List Int × List Int × List (List Int) × List Int)
 | 0, _, _, _, _, _, _, _, _, _, _, _, _, _, _, _, _, _, _, _, _, _, _ => none
 | k + 1, letters0, most4, k15, x42, x43, c1_0, c1_1, c1_2, c1_3, c3, c4, x10_0, x10_1, d12_0, d12_1, number13, l14, row16, c10, c11, c12, c13 =>
  if x43 < x42 then
   (det_Smallest_1.f k k15 x43 c1_0 c1_1 c1_2 c1_3 c3 c4).bind fun r3 =>
    if Go.Proofs.YtiiioobebeaafaaSx.mhas (Go.Proofs.YtiiioobebeaafaaSx.Ty.int Go.IntKind.i64) (Go.Proofs.YtiiioobebeaafaaSx.Ty.int Go.IntKind.i64) number13 r3.fst = true then
     det_Explore_int_.j18 k letters0 most4 k15 x43 (Go.Proofs.YtiiioobebeaafaaSx.mget (Go.Proofs.YtiiioobebeaafaaSx.Ty.int Go.IntKind.i64) (Go.Proofs.YtiiioobebeaafaaSx.Ty.int Go.IntKind.i64) number13 r3.fst) x42 x43 r3.snd.fst r3.snd.snd.fst r3.snd.snd.snd.fst r3.snd.snd.snd.snd.fst r3.snd.snd.snd.snd.snd.fst r3.snd.snd.snd.snd.snd.snd x10_0 x10_1 d12_0 d12_1 number13 l14 row16 c10 c11 c12 c13
    else
     if (↑l14.length : Int) = most4 then
      some (0, 0, false, r3.snd.fst, r3.snd.snd.fst, r3.snd.snd.snd.fst, r3.snd.snd.snd.snd.fst, r3.snd.snd.snd.snd.snd.fst, r3.snd.snd.snd.snd.snd.snd, [], [])
     else
      if (l14 ++ [r3.fst]).length.blt 1000000000 = true then
      det_Explore_int_.j18 k letters0 most4 k15 x43 ((↑l14.length : Int)) x42 x43 r3.snd.fst r3.snd.snd.fst r3.snd.snd.snd.fst r3.snd.snd.snd.snd.fst r3.snd.snd.snd.snd.snd.fst r3.snd.snd.snd.snd.snd.snd x10_0 x10_1 d12_0 d12_1 (Go.Proofs.YtiiioobebeaafaaSx.mput (Go.Proofs.YtiiioobebeaafaaSx.Ty.int Go.IntKind.i64) (Go.Proofs.YtiiioobebeaafaaSx.Ty.int Go.IntKind.i64) number13 r3.fst (↑l14.length : Int)) (l14 ++ [r3.fst]) row16 c10 c11 c12 c13
      else none
  else
   if (c12 ++ [row16]).length.blt 1000000000 = true then
   (det_Smallest_2.f k k15 c1_0 c1_1 c1_2 c1_3 c4).bind fun r4 =>
     if (c13 ++ [r4.fst]).length.blt 1000000000 = true then
     det_Explore_int_.l4 k letters0 most4 r4.snd.fst r4.snd.snd.fst r4.snd.snd.snd.fst r4.snd.snd.snd.snd.fst c3 r4.snd.snd.snd.snd.snd x10_0 x10_1 d12_0 d12_1 number13 l14 c10 c11 (c12 ++ [row16]) (c13 ++ [r4.fst])
     else none
   else none
def det_Explore_int_.j18 : Nat → Int → Int → Int → Int → Int → Int → Int → Int → Int → List (List (Int)) → List (Int) → List (Int) → List (Int) → Int → Int → Int → Int → List ((Int × Int)) → List (Int) → List (Int) → List (List (Int)) → List (Int) → List (List (Int)) → List (Int) → Option (Int × Int × Bool × Int × Int × List (List Int) × List Int × List Int × List Int × List (List Int) × List Int)
 | 0, _, _, _, _, _, _, _, _, _, _, _, _, _, _, _, _, _, _, _, _, _, _, _, _ => none
 | k + 1, letters0, most4, k15, a17, n19, x42, x43, c1_0, c1_1, c1_2, c1_3, c3, c4, x10_0, x10_1, d12_0, d12_1, number13, l14, row16, c10, c11, c12, c13 =>
  if 0 ≤ a17 then
  if a17 < (↑row16.length : Int) then
   det_Explore_int_.l8 k letters0 most4 k15 x42 (Go.IntKind.i64.wrap (x43 + 1)) c1_0 c1_1 c1_2 c1_3 c3 c4 x10_0 x10_1 d12_0 d12_1 number13 l14 (row16.set a17.toNat n19) c10 c11 c12 c13
   else none
  else none
end
def det_Explore_int_.f (k : Nat) (letters0 : Int) (first1 : Int) (most4 : Int) (c1_0 : Int) (c1_1 : Int) (c1_2 : List (List (Int))) (c1_3 : List (Int)) (c3 : List (Int)) (c4 : List (Int)) : Option (Int × Int × Bool × Int × Int × List (List Int) × List Int × List Int × List Int × List (List Int) × List Int) :=
 det_Explore_int_.l4 k letters0 most4 c1_0 c1_1 c1_2 c1_3 c3 c4 0 0 letters0 0 (Go.Proofs.YtiiioobebeaafaaSx.mput (Go.Proofs.YtiiioobebeaafaaSx.Ty.int Go.IntKind.i64) (Go.Proofs.YtiiioobebeaafaaSx.Ty.int Go.IntKind.i64) [] first1 (Int.ofNat 0)) [first1] [] [] [] []

noncomputable def det_Explore_int_.body : Code := fnBody Try.f112
def det_Explore_int_.ti : Tm := ⟨[(0, .p (.int .i64)), (1, .p (.int .i64)), (2, .fn 162 [.ptr 0 0, .ptr 1 0, .ptr 2 0]), (3, .fn 163 [.ptr 1 0, .ptr 2 0]), (4, .p (.int .i64))], [.box [.own 3] 23, .box [.p (.int .i64), .p (.int .i64), .p (.slice (.slice (.int .i64))), .p (.slice (.int .i64))] 58, .box [.own 4] 23, .own (.int .i64), .own (.int .i64)]⟩
def det_Explore_int_.to : Tm := ⟨[(0, .agg [.p (.int .i64), .p (.int .i64), .own 5, .own 6]), (1, .p .bool)], [.box [.own 3] 23, .box [.p (.int .i64), .p (.int .i64), .p (.slice (.slice (.int .i64))), .p (.slice (.int .i64))] 58, .box [.own 4] 23, .own (.int .i64), .own (.int .i64), .own (.slice (.int .i64)), .own (.int .i64)]⟩
def det_Explore_int_.rs (r : Int × Int × Bool × Int × Int × (List (List Int)) × (List Int) × (List Int) × (List Int) × (List (List Int)) × (List Int)) : List Dat := [⟨(.int .i64), r.1⟩, ⟨(.int .i64), r.2.1⟩, ⟨.bool, r.2.2.1⟩, ⟨(.int .i64), r.2.2.2.1⟩, ⟨(.int .i64), r.2.2.2.2.1⟩, ⟨(.slice (.slice (.int .i64))), r.2.2.2.2.2.1⟩, ⟨(.slice (.int .i64)), r.2.2.2.2.2.2.1⟩, ⟨(.slice (.int .i64)), r.2.2.2.2.2.2.2.1⟩, ⟨(.slice (.int .i64)), r.2.2.2.2.2.2.2.2.1⟩, ⟨(.slice (.slice (.int .i64))), r.2.2.2.2.2.2.2.2.2.1⟩, ⟨(.slice (.int .i64)), r.2.2.2.2.2.2.2.2.2.2⟩]
def det_Explore_int_.out (ds : List Dat) : Option (Int × Int × Bool × Int × Int × (List (List Int)) × (List Int) × (List Int) × (List Int) × (List (List Int)) × (List Int)) := pop (.int .i64) ds fun x0 ds => pop (.int .i64) ds fun x1 ds => pop .bool ds fun x2 ds => pop (.int .i64) ds fun x3 ds => pop (.int .i64) ds fun x4 ds => pop (.slice (.slice (.int .i64))) ds fun x5 ds => pop (.slice (.int .i64)) ds fun x6 ds => pop (.slice (.int .i64)) ds fun x7 ds => pop (.slice (.int .i64)) ds fun x8 ds => pop (.slice (.slice (.int .i64))) ds fun x9 ds => pop (.slice (.int .i64)) ds fun x10 ds => popN ds (some (x0, x1, x2, x3, x4, x5, x6, x7, x8, x9, x10))
def det_Explore_int_.c (k : Nat) (ds : List Dat) : Option (Int × Int × Bool × Int × Int × (List (List Int)) × (List Int) × (List Int) × (List Int) × (List (List Int)) × (List Int)) := pop (.int .i64) ds fun x0 ds => pop (.int .i64) ds fun x1 ds => pop (.int .i64) ds fun x2 ds => pop (.int .i64) ds fun x3 ds => pop (.int .i64) ds fun x4 ds => pop (.slice (.slice (.int .i64))) ds fun x5 ds => pop (.slice (.int .i64)) ds fun x6 ds => pop (.slice (.int .i64)) ds fun x7 ds => pop (.slice (.int .i64)) ds fun x8 ds => popN ds (det_Explore_int_.f k x0 x1 x2 x3 x4 x5 x6 x7 x8)
def det_Explore_int_.g : Nat → List Dat → Option (Int × Int × Bool × Int × Int × (List (List Int)) × (List Int) × (List Int) × (List Int) × (List (List Int)) × (List Int))
 | 0, _ => none
 | k + 1, ds => det_Explore_int_.c k ds
def det_Explore_int_.env (k : Nat) : Nat → List SV → List Chunk → KT (Int × Int × Bool × Int × Int × (List (List Int)) × (List Int) × (List Int) × (List Int) × (List (List Int)) × (List Int)) → Option (Int × Int × Bool × Int × Int × (List (List Int)) × (List Int) × (List Int) × (List Int) × (List (List Int)) × (List Int)) := (envC 162 5 det_Smallest_1.ti det_Smallest_1.to (fun ds K => pop (.int .i64) ds fun x0 ds => pop (.int .i64) ds fun x1 ds => pop (.int .i64) ds fun x2 ds => pop (.int .i64) ds fun x3 ds => pop (.slice (.slice (.int .i64))) ds fun x4 ds => pop (.slice (.int .i64)) ds fun x5 ds => pop (.slice (.int .i64)) ds fun x6 ds => pop (.slice (.int .i64)) ds fun x7 ds => popN ds ((det_Smallest_1.f k x0 x1 x2 x3 x4 x5 x6 x7).bind fun r => K (det_Smallest_1.rs r))) (envC 163 3 det_Smallest_2.ti det_Smallest_2.to (fun ds K => pop (.int .i64) ds fun x0 ds => pop (.int .i64) ds fun x1 ds => pop (.int .i64) ds fun x2 ds => pop (.slice (.slice (.int .i64))) ds fun x3 ds => pop (.slice (.int .i64)) ds fun x4 ds => pop (.slice (.int .i64)) ds fun x5 ds => popN ds ((det_Smallest_2.f k x0 x1 x2 x3 x4 x5).bind fun r => K (det_Smallest_2.rs r))) env0))
def det_Explore_int_.t9 : Tm := ⟨[(0, .p (.int .i64)), (2, .fn 162 [.ptr 0 0, .ptr 1 0, .ptr 2 0]), (3, .fn 163 [.ptr 1 0, .ptr 2 0]), (4, .p (.int .i64)), (10, .ptr 5 0), (12, .ptr 6 0), (13, .map 7), (14, .own 8)], [.box [.own 3] 23, .box [.p (.int .i64), .p (.int .i64), .p (.slice (.slice (.int .i64))), .p (.slice (.int .i64))] 58, .box [.own 4] 23, .own (.int .i64), .own (.int .i64), .box [.p (.int .i64), .p (.int .i64), .own 9, .own 10] 58, .box [.p (.int .i64), .p (.int .i64), .own 11, .own 12] 58, .map (.int .i64) (.int .i64), .own (.int .i64), .own (.slice (.int .i64)), .own (.int .i64), .own (.slice (.int .i64)), .own (.int .i64)]⟩
def det_Explore_int_.c9 (k : Nat) (ds : List Dat) : Option (Int × Int × Bool × Int × Int × (List (List Int)) × (List Int) × (List Int) × (List Int) × (List (List Int)) × (List Int)) := pop (.int .i64) ds fun x0 ds => pop (.int .i64) ds fun x1 ds => pop (.int .i64) ds fun x2 ds => pop (.int .i64) ds fun x3 ds => pop (.slice (.slice (.int .i64))) ds fun x4 ds => pop (.slice (.int .i64)) ds fun x5 ds => pop (.slice (.int .i64)) ds fun x6 ds => pop (.slice (.int .i64)) ds fun x7 ds => pop (.int .i64) ds fun x8 ds => pop (.int .i64) ds fun x9 ds => pop (.int .i64) ds fun x10 ds => pop (.int .i64) ds fun x11 ds => pop (.slice (.pair (.int .i64) (.int .i64))) ds fun x12 ds => pop (.slice (.int .i64)) ds fun x13 ds => pop (.slice (.slice (.int .i64))) ds fun x14 ds => pop (.slice (.int .i64)) ds fun x15 ds => pop (.slice (.slice (.int .i64))) ds fun x16 ds => pop (.slice (.int .i64)) ds fun x17 ds => popN ds (det_Explore_int_.l4 k x0 x1 x2 x3 x4 x5 x6 x7 x8 x9 x10 x11 x12 x13 x14 x15 x16 x17)
def det_Explore_int_.t17 : Tm := ⟨[(0, .p (.int .i64)), (2, .fn 162 [.ptr 0 0, .ptr 1 0, .ptr 2 0]), (3, .fn 163 [.ptr 1 0, .ptr 2 0]), (4, .p (.int .i64)), (10, .ptr 5 0), (12, .ptr 6 0), (13, .map 7), (14, .own 8), (15, .p (.int .i64)), (16, .own 9), (42, .p (.int .i64)), (43, .p (.int .i64))], [.box [.own 3] 23, .box [.p (.int .i64), .p (.int .i64), .p (.slice (.slice (.int .i64))), .p (.slice (.int .i64))] 58, .box [.own 4] 23, .own (.int .i64), .own (.int .i64), .box [.p (.int .i64), .p (.int .i64), .own 10, .own 11] 58, .box [.p (.int .i64), .p (.int .i64), .own 12, .own 13] 58, .map (.int .i64) (.int .i64), .own (.int .i64), .own (.int .i64), .own (.slice (.int .i64)), .own (.int .i64), .own (.slice (.int .i64)), .own (.int .i64)]⟩
def det_Explore_int_.c17 (k : Nat) (ds : List Dat) : Option (Int × Int × Bool × Int × Int × (List (List Int)) × (List Int) × (List Int) × (List Int) × (List (List Int)) × (List Int)) := pop (.int .i64) ds fun x0 ds => pop (.int .i64) ds fun x1 ds => pop (.int .i64) ds fun x2 ds => pop (.int .i64) ds fun x3 ds => pop (.int .i64) ds fun x4 ds => pop (.int .i64) ds fun x5 ds => pop (.int .i64) ds fun x6 ds => pop (.slice (.slice (.int .i64))) ds fun x7 ds => pop (.slice (.int .i64)) ds fun x8 ds => pop (.slice (.int .i64)) ds fun x9 ds => pop (.slice (.int .i64)) ds fun x10 ds => pop (.int .i64) ds fun x11 ds => pop (.int .i64) ds fun x12 ds => pop (.int .i64) ds fun x13 ds => pop (.int .i64) ds fun x14 ds => pop (.slice (.pair (.int .i64) (.int .i64))) ds fun x15 ds => pop (.slice (.int .i64)) ds fun x16 ds => pop (.slice (.int .i64)) ds fun x17 ds => pop (.slice (.slice (.int .i64))) ds fun x18 ds => pop (.slice (.int .i64)) ds fun x19 ds => pop (.slice (.slice (.int .i64))) ds fun x20 ds => pop (.slice (.int .i64)) ds fun x21 ds => popN ds (det_Explore_int_.l8 k x0 x1 x2 x3 x4 x5 x6 x7 x8 x9 x10 x11 x12 x13 x14 x15 x16 x17 x18 x19 x20 x21)
def det_Explore_int_.t36 : Tm := ⟨[(0, .p (.int .i64)), (2, .fn 162 [.ptr 0 0, .ptr 1 0, .ptr 2 0]), (3, .fn 163 [.ptr 1 0, .ptr 2 0]), (4, .p (.int .i64)), (10, .ptr 5 0), (12, .ptr 6 0), (13, .map 7), (14, .own 8), (15, .p (.int .i64)), (16, .own 9), (17, .p (.int .i64)), (19, .p (.int .i64)), (42, .p (.int .i64)), (43, .p (.int .i64))], [.box [.own 3] 23, .box [.p (.int .i64), .p (.int .i64), .p (.slice (.slice (.int .i64))), .p (.slice (.int .i64))] 58, .box [.own 4] 23, .own (.int .i64), .own (.int .i64), .box [.p (.int .i64), .p (.int .i64), .own 10, .own 11] 58, .box [.p (.int .i64), .p (.int .i64), .own 12, .own 13] 58, .map (.int .i64) (.int .i64), .own (.int .i64), .own (.int .i64), .own (.slice (.int .i64)), .own (.int .i64), .own (.slice (.int .i64)), .own (.int .i64)]⟩
def det_Explore_int_.c36 (k : Nat) (ds : List Dat) : Option (Int × Int × Bool × Int × Int × (List (List Int)) × (List Int) × (List Int) × (List Int) × (List (List Int)) × (List Int)) := pop (.int .i64) ds fun x0 ds => pop (.int .i64) ds fun x1 ds => pop (.int .i64) ds fun x2 ds => pop (.int .i64) ds fun x3 ds => pop (.int .i64) ds fun x4 ds => pop (.int .i64) ds fun x5 ds => pop (.int .i64) ds fun x6 ds => pop (.int .i64) ds fun x7 ds => pop (.int .i64) ds fun x8 ds => pop (.slice (.slice (.int .i64))) ds fun x9 ds => pop (.slice (.int .i64)) ds fun x10 ds => pop (.slice (.int .i64)) ds fun x11 ds => pop (.slice (.int .i64)) ds fun x12 ds => pop (.int .i64) ds fun x13 ds => pop (.int .i64) ds fun x14 ds => pop (.int .i64) ds fun x15 ds => pop (.int .i64) ds fun x16 ds => pop (.slice (.pair (.int .i64) (.int .i64))) ds fun x17 ds => pop (.slice (.int .i64)) ds fun x18 ds => pop (.slice (.int .i64)) ds fun x19 ds => pop (.slice (.slice (.int .i64))) ds fun x20 ds => pop (.slice (.int .i64)) ds fun x21 ds => pop (.slice (.slice (.int .i64))) ds fun x22 ds => pop (.slice (.int .i64)) ds fun x23 ds => popN ds (det_Explore_int_.j18 k x0 x1 x2 x3 x4 x5 x6 x7 x8 x9 x10 x11 x12 x13 x14 x15 x16 x17 x18 x19 x20 x21 x22 x23)
def det_Explore_int_.tbl : List (Nat × Tm × (Nat → List Dat → Option (Int × Int × Bool × Int × Int × (List (List Int)) × (List Int) × (List Int) × (List Int) × (List (List Int)) × (List Int)))) := [(9, det_Explore_int_.t9, det_Explore_int_.c9), (17, det_Explore_int_.t17, det_Explore_int_.c17), (36, det_Explore_int_.t36, det_Explore_int_.c36)]
noncomputable abbrev det_Explore_int_.R (k : Nat) := run T (det_Explore_int_.env k) Try.f112.ntmps (cutE 5 det_Explore_int_.tbl k) (finE 5 det_Explore_int_.to det_Explore_int_.out) (fnRes Try.f112) [18] 100000 true
theorem det_Explore_int_.e9 (k : Nat) (x0 : Int) (x1 : Int) (x2 : Int) (x3 : Int) (x4 : (List (List Int))) (x5 : (List Int)) (x6 : (List Int)) (x7 : (List Int)) (x8 : Int) (x9 : Int) (x10 : Int) (x11 : Int) (x12 : (List (Int × Int))) (x13 : (List Int)) (x14 : (List (List Int))) (x15 : (List Int)) (x16 : (List (List Int))) (x17 : (List Int)) : det_Explore_int_.l4 (k + 1) x0 x1 x2 x3 x4 x5 x6 x7 x8 x9 x10 x11 x12 x13 x14 x15 x16 x17 = det_Explore_int_.R k (start (stackOf 9 det_Explore_int_.body)) (det_Explore_int_.t9.fill [⟨(.int .i64), x0⟩, ⟨(.int .i64), x1⟩, ⟨(.int .i64), x2⟩, ⟨(.int .i64), x3⟩, ⟨(.slice (.slice (.int .i64))), x4⟩, ⟨(.slice (.int .i64)), x5⟩, ⟨(.slice (.int .i64)), x6⟩, ⟨(.slice (.int .i64)), x7⟩, ⟨(.int .i64), x8⟩, ⟨(.int .i64), x9⟩, ⟨(.int .i64), x10⟩, ⟨(.int .i64), x11⟩, ⟨(.slice (.pair (.int .i64) (.int .i64))), x12⟩, ⟨(.slice (.int .i64)), x13⟩, ⟨(.slice (.slice (.int .i64))), x14⟩, ⟨(.slice (.int .i64)), x15⟩, ⟨(.slice (.slice (.int .i64))), x16⟩, ⟨(.slice (.int .i64)), x17⟩]) := by kernel_rfl
theorem det_Explore_int_.s9 : stackAt 9 det_Explore_int_.body [] = some (stackOf 9 det_Explore_int_.body) := by kernel_rfl
theorem det_Explore_int_.h9 (k : Nat) (ds : List Dat) (r : Int × Int × Bool × Int × Int × (List (List Int)) × (List Int) × (List Int) × (List Int) × (List (List Int)) × (List Int)) (h : det_Explore_int_.c9 k ds = some r) : ∃ k', k' < k ∧ ∃ s, stackAt 9 det_Explore_int_.body [] = some s ∧ det_Explore_int_.R k' (start s) (det_Explore_int_.t9.fill ds) = some r := by
  unfold det_Explore_int_.c9 at h
  obtain ⟨x0, d0, rfl, h0⟩ := pop_some h
  obtain ⟨x1, d1, rfl, h1⟩ := pop_some h0
  obtain ⟨x2, d2, rfl, h2⟩ := pop_some h1
  obtain ⟨x3, d3, rfl, h3⟩ := pop_some h2
  obtain ⟨x4, d4, rfl, h4⟩ := pop_some h3
  obtain ⟨x5, d5, rfl, h5⟩ := pop_some h4
  obtain ⟨x6, d6, rfl, h6⟩ := pop_some h5
  obtain ⟨x7, d7, rfl, h7⟩ := pop_some h6
  obtain ⟨x8, d8, rfl, h8⟩ := pop_some h7
  obtain ⟨x9, d9, rfl, h9⟩ := pop_some h8
  obtain ⟨x10, d10, rfl, h10⟩ := pop_some h9
  obtain ⟨x11, d11, rfl, h11⟩ := pop_some h10
  obtain ⟨x12, d12, rfl, h12⟩ := pop_some h11
  obtain ⟨x13, d13, rfl, h13⟩ := pop_some h12
  obtain ⟨x14, d14, rfl, h14⟩ := pop_some h13
  obtain ⟨x15, d15, rfl, h15⟩ := pop_some h14
  obtain ⟨x16, d16, rfl, h16⟩ := pop_some h15
  obtain ⟨x17, d17, rfl, h17⟩ := pop_some h16
  obtain ⟨rfl, g⟩ := popN_some h17
  cases k with
  | zero => cases (show none = some r from g)
  | succ k => exact ⟨k, Nat.lt_succ_self k, _, det_Explore_int_.s9, (det_Explore_int_.e9 k x0 x1 x2 x3 x4 x5 x6 x7 x8 x9 x10 x11 x12 x13 x14 x15 x16 x17).symm.trans g⟩
theorem det_Explore_int_.e17 (k : Nat) (x0 : Int) (x1 : Int) (x2 : Int) (x3 : Int) (x4 : Int) (x5 : Int) (x6 : Int) (x7 : (List (List Int))) (x8 : (List Int)) (x9 : (List Int)) (x10 : (List Int)) (x11 : Int) (x12 : Int) (x13 : Int) (x14 : Int) (x15 : (List (Int × Int))) (x16 : (List Int)) (x17 : (List Int)) (x18 : (List (List Int))) (x19 : (List Int)) (x20 : (List (List Int))) (x21 : (List Int)) : det_Explore_int_.l8 (k + 1) x0 x1 x2 x3 x4 x5 x6 x7 x8 x9 x10 x11 x12 x13 x14 x15 x16 x17 x18 x19 x20 x21 = det_Explore_int_.R k (start (stackOf 17 det_Explore_int_.body)) (det_Explore_int_.t17.fill [⟨(.int .i64), x0⟩, ⟨(.int .i64), x1⟩, ⟨(.int .i64), x2⟩, ⟨(.int .i64), x3⟩, ⟨(.int .i64), x4⟩, ⟨(.int .i64), x5⟩, ⟨(.int .i64), x6⟩, ⟨(.slice (.slice (.int .i64))), x7⟩, ⟨(.slice (.int .i64)), x8⟩, ⟨(.slice (.int .i64)), x9⟩, ⟨(.slice (.int .i64)), x10⟩, ⟨(.int .i64), x11⟩, ⟨(.int .i64), x12⟩, ⟨(.int .i64), x13⟩, ⟨(.int .i64), x14⟩, ⟨(.slice (.pair (.int .i64) (.int .i64))), x15⟩, ⟨(.slice (.int .i64)), x16⟩, ⟨(.slice (.int .i64)), x17⟩, ⟨(.slice (.slice (.int .i64))), x18⟩, ⟨(.slice (.int .i64)), x19⟩, ⟨(.slice (.slice (.int .i64))), x20⟩, ⟨(.slice (.int .i64)), x21⟩]) := by kernel_rfl
theorem det_Explore_int_.s17 : stackAt 17 det_Explore_int_.body [] = some (stackOf 17 det_Explore_int_.body) := by kernel_rfl
theorem det_Explore_int_.h17 (k : Nat) (ds : List Dat) (r : Int × Int × Bool × Int × Int × (List (List Int)) × (List Int) × (List Int) × (List Int) × (List (List Int)) × (List Int)) (h : det_Explore_int_.c17 k ds = some r) : ∃ k', k' < k ∧ ∃ s, stackAt 17 det_Explore_int_.body [] = some s ∧ det_Explore_int_.R k' (start s) (det_Explore_int_.t17.fill ds) = some r := by
  unfold det_Explore_int_.c17 at h
  obtain ⟨x0, d0, rfl, h0⟩ := pop_some h
  obtain ⟨x1, d1, rfl, h1⟩ := pop_some h0
  obtain ⟨x2, d2, rfl, h2⟩ := pop_some h1
  obtain ⟨x3, d3, rfl, h3⟩ := pop_some h2
  obtain ⟨x4, d4, rfl, h4⟩ := pop_some h3
  obtain ⟨x5, d5, rfl, h5⟩ := pop_some h4
  obtain ⟨x6, d6, rfl, h6⟩ := pop_some h5
  obtain ⟨x7, d7, rfl, h7⟩ := pop_some h6
  obtain ⟨x8, d8, rfl, h8⟩ := pop_some h7
  obtain ⟨x9, d9, rfl, h9⟩ := pop_some h8
  obtain ⟨x10, d10, rfl, h10⟩ := pop_some h9
  obtain ⟨x11, d11, rfl, h11⟩ := pop_some h10
  obtain ⟨x12, d12, rfl, h12⟩ := pop_some h11
  obtain ⟨x13, d13, rfl, h13⟩ := pop_some h12
  obtain ⟨x14, d14, rfl, h14⟩ := pop_some h13
  obtain ⟨x15, d15, rfl, h15⟩ := pop_some h14
  obtain ⟨x16, d16, rfl, h16⟩ := pop_some h15
  obtain ⟨x17, d17, rfl, h17⟩ := pop_some h16
  obtain ⟨x18, d18, rfl, h18⟩ := pop_some h17
  obtain ⟨x19, d19, rfl, h19⟩ := pop_some h18
  obtain ⟨x20, d20, rfl, h20⟩ := pop_some h19
  obtain ⟨x21, d21, rfl, h21⟩ := pop_some h20
  obtain ⟨rfl, g⟩ := popN_some h21
  cases k with
  | zero => cases (show none = some r from g)
  | succ k => exact ⟨k, Nat.lt_succ_self k, _, det_Explore_int_.s17, (det_Explore_int_.e17 k x0 x1 x2 x3 x4 x5 x6 x7 x8 x9 x10 x11 x12 x13 x14 x15 x16 x17 x18 x19 x20 x21).symm.trans g⟩
theorem det_Explore_int_.e36 (k : Nat) (x0 : Int) (x1 : Int) (x2 : Int) (x3 : Int) (x4 : Int) (x5 : Int) (x6 : Int) (x7 : Int) (x8 : Int) (x9 : (List (List Int))) (x10 : (List Int)) (x11 : (List Int)) (x12 : (List Int)) (x13 : Int) (x14 : Int) (x15 : Int) (x16 : Int) (x17 : (List (Int × Int))) (x18 : (List Int)) (x19 : (List Int)) (x20 : (List (List Int))) (x21 : (List Int)) (x22 : (List (List Int))) (x23 : (List Int)) : det_Explore_int_.j18 (k + 1) x0 x1 x2 x3 x4 x5 x6 x7 x8 x9 x10 x11 x12 x13 x14 x15 x16 x17 x18 x19 x20 x21 x22 x23 = det_Explore_int_.R k (start (stackOf 36 det_Explore_int_.body)) (det_Explore_int_.t36.fill [⟨(.int .i64), x0⟩, ⟨(.int .i64), x1⟩, ⟨(.int .i64), x2⟩, ⟨(.int .i64), x3⟩, ⟨(.int .i64), x4⟩, ⟨(.int .i64), x5⟩, ⟨(.int .i64), x6⟩, ⟨(.int .i64), x7⟩, ⟨(.int .i64), x8⟩, ⟨(.slice (.slice (.int .i64))), x9⟩, ⟨(.slice (.int .i64)), x10⟩, ⟨(.slice (.int .i64)), x11⟩, ⟨(.slice (.int .i64)), x12⟩, ⟨(.int .i64), x13⟩, ⟨(.int .i64), x14⟩, ⟨(.int .i64), x15⟩, ⟨(.int .i64), x16⟩, ⟨(.slice (.pair (.int .i64) (.int .i64))), x17⟩, ⟨(.slice (.int .i64)), x18⟩, ⟨(.slice (.int .i64)), x19⟩, ⟨(.slice (.slice (.int .i64))), x20⟩, ⟨(.slice (.int .i64)), x21⟩, ⟨(.slice (.slice (.int .i64))), x22⟩, ⟨(.slice (.int .i64)), x23⟩]) := by kernel_rfl
theorem det_Explore_int_.s36 : stackAt 36 det_Explore_int_.body [] = some (stackOf 36 det_Explore_int_.body) := by kernel_rfl
theorem det_Explore_int_.h36 (k : Nat) (ds : List Dat) (r : Int × Int × Bool × Int × Int × (List (List Int)) × (List Int) × (List Int) × (List Int) × (List (List Int)) × (List Int)) (h : det_Explore_int_.c36 k ds = some r) : ∃ k', k' < k ∧ ∃ s, stackAt 36 det_Explore_int_.body [] = some s ∧ det_Explore_int_.R k' (start s) (det_Explore_int_.t36.fill ds) = some r := by
  unfold det_Explore_int_.c36 at h
  obtain ⟨x0, d0, rfl, h0⟩ := pop_some h
  obtain ⟨x1, d1, rfl, h1⟩ := pop_some h0
  obtain ⟨x2, d2, rfl, h2⟩ := pop_some h1
  obtain ⟨x3, d3, rfl, h3⟩ := pop_some h2
  obtain ⟨x4, d4, rfl, h4⟩ := pop_some h3
  obtain ⟨x5, d5, rfl, h5⟩ := pop_some h4
  obtain ⟨x6, d6, rfl, h6⟩ := pop_some h5
  obtain ⟨x7, d7, rfl, h7⟩ := pop_some h6
  obtain ⟨x8, d8, rfl, h8⟩ := pop_some h7
  obtain ⟨x9, d9, rfl, h9⟩ := pop_some h8
  obtain ⟨x10, d10, rfl, h10⟩ := pop_some h9
  obtain ⟨x11, d11, rfl, h11⟩ := pop_some h10
  obtain ⟨x12, d12, rfl, h12⟩ := pop_some h11
  obtain ⟨x13, d13, rfl, h13⟩ := pop_some h12
  obtain ⟨x14, d14, rfl, h14⟩ := pop_some h13
  obtain ⟨x15, d15, rfl, h15⟩ := pop_some h14
  obtain ⟨x16, d16, rfl, h16⟩ := pop_some h15
  obtain ⟨x17, d17, rfl, h17⟩ := pop_some h16
  obtain ⟨x18, d18, rfl, h18⟩ := pop_some h17
  obtain ⟨x19, d19, rfl, h19⟩ := pop_some h18
  obtain ⟨x20, d20, rfl, h20⟩ := pop_some h19
  obtain ⟨x21, d21, rfl, h21⟩ := pop_some h20
  obtain ⟨x22, d22, rfl, h22⟩ := pop_some h21
  obtain ⟨x23, d23, rfl, h23⟩ := pop_some h22
  obtain ⟨rfl, g⟩ := popN_some h23
  cases k with
  | zero => cases (show none = some r from g)
  | succ k => exact ⟨k, Nat.lt_succ_self k, _, det_Explore_int_.s36, (det_Explore_int_.e36 k x0 x1 x2 x3 x4 x5 x6 x7 x8 x9 x10 x11 x12 x13 x14 x15 x16 x17 x18 x19 x20 x21 x22 x23).symm.trans g⟩
theorem det_Explore_int_.e (k : Nat) (x0 : Int) (x1 : Int) (x2 : Int) (x3 : Int) (x4 : Int) (x5 : (List (List Int))) (x6 : (List Int)) (x7 : (List Int)) (x8 : (List Int)) : det_Explore_int_.f k x0 x1 x2 x3 x4 x5 x6 x7 x8 = det_Explore_int_.R k ([.code det_Explore_int_.body]) (det_Explore_int_.ti.fill [⟨(.int .i64), x0⟩, ⟨(.int .i64), x1⟩, ⟨(.int .i64), x2⟩, ⟨(.int .i64), x3⟩, ⟨(.int .i64), x4⟩, ⟨(.slice (.slice (.int .i64))), x5⟩, ⟨(.slice (.int .i64)), x6⟩, ⟨(.slice (.int .i64)), x7⟩, ⟨(.slice (.int .i64)), x8⟩]) := by kernel_rfl
theorem det_Explore_int_.h (k : Nat) (ds : List Dat) (r : Int × Int × Bool × Int × Int × (List (List Int)) × (List Int) × (List Int) × (List Int) × (List (List Int)) × (List Int)) (h : det_Explore_int_.g k ds = some r) : ∃ k', k' < k ∧ det_Explore_int_.R k' ([.code det_Explore_int_.body]) (det_Explore_int_.ti.fill ds) = some r := by
  cases k with
  | zero => cases (show none = some r from h)
  | succ k =>
  replace h : det_Explore_int_.c k ds = some r := h
  unfold det_Explore_int_.c at h
  obtain ⟨x0, d0, rfl, h0⟩ := pop_some h
  obtain ⟨x1, d1, rfl, h1⟩ := pop_some h0
  obtain ⟨x2, d2, rfl, h2⟩ := pop_some h1
  obtain ⟨x3, d3, rfl, h3⟩ := pop_some h2
  obtain ⟨x4, d4, rfl, h4⟩ := pop_some h3
  obtain ⟨x5, d5, rfl, h5⟩ := pop_some h4
  obtain ⟨x6, d6, rfl, h6⟩ := pop_some h5
  obtain ⟨x7, d7, rfl, h7⟩ := pop_some h6
  obtain ⟨x8, d8, rfl, h8⟩ := pop_some h7
  obtain ⟨rfl, g⟩ := popN_some h8
  exact ⟨k, Nat.lt_succ_self k, (det_Explore_int_.e k x0 x1 x2 x3 x4 x5 x6 x7 x8).symm.trans g⟩
theorem det_Explore_int_.o (ds : List Dat) (r : Int × Int × Bool × Int × Int × (List (List Int)) × (List Int) × (List Int) × (List Int) × (List (List Int)) × (List Int)) (h : det_Explore_int_.out ds = some r) : ds = det_Explore_int_.rs r := by
  unfold det_Explore_int_.out at h
  obtain ⟨x0, d0, rfl, h0⟩ := pop_some h
  obtain ⟨x1, d1, rfl, h1⟩ := pop_some h0
  obtain ⟨x2, d2, rfl, h2⟩ := pop_some h1
  obtain ⟨x3, d3, rfl, h3⟩ := pop_some h2
  obtain ⟨x4, d4, rfl, h4⟩ := pop_some h3
  obtain ⟨x5, d5, rfl, h5⟩ := pop_some h4
  obtain ⟨x6, d6, rfl, h6⟩ := pop_some h5
  obtain ⟨x7, d7, rfl, h7⟩ := pop_some h6
  obtain ⟨x8, d8, rfl, h8⟩ := pop_some h7
  obtain ⟨x9, d9, rfl, h9⟩ := pop_some h8
  obtain ⟨x10, d10, rfl, h10⟩ := pop_some h9
  obtain ⟨rfl, g⟩ := popN_some h10
  cases g
  rfl
theorem det_Explore_int_.fn : FnOk Try.prog 112 Try.f112 det_Explore_int_.body Try.f112.ntmps 5 (fnRes Try.f112) :=
  fnOk_of (by kernel_rfl) (by kernel_rfl) (by kernel_rfl) (by kernel_rfl)
theorem det_Explore_int_.con' : ∀ k ds r, det_Explore_int_.g k ds = some r → Con Try.prog 112 5 det_Explore_int_.ti det_Explore_int_.to ds (det_Explore_int_.rs r) :=
  fun_ok (T := T) T_ok mixed det_Explore_int_.fn (env := det_Explore_int_.env) (tbl := det_Explore_int_.tbl) (gOut := det_Explore_int_.out) (nin := 5) (cuts := [18]) (fuel := 100000) rfl (by kernel_rfl) (by kernel_rfl) (by kernel_rfl) (fun x hx => by
    simp only [det_Explore_int_.tbl, List.mem_cons, List.not_mem_nil, or_false] at hx
    rcases hx with rfl | rfl | rfl
    · exact det_Explore_int_.h9
    · exact det_Explore_int_.h17
    · exact det_Explore_int_.h36
) det_Explore_int_.o det_Explore_int_.h (fun k _ => by unfold det_Explore_int_.env; exact (envC_ok (fun ds K r h => by
    obtain ⟨x0, d0, rfl, h0⟩ := pop_some h
    obtain ⟨x1, d1, rfl, h1⟩ := pop_some h0
    obtain ⟨x2, d2, rfl, h2⟩ := pop_some h1
    obtain ⟨x3, d3, rfl, h3⟩ := pop_some h2
    obtain ⟨x4, d4, rfl, h4⟩ := pop_some h3
    obtain ⟨x5, d5, rfl, h5⟩ := pop_some h4
    obtain ⟨x6, d6, rfl, h6⟩ := pop_some h5
    obtain ⟨x7, d7, rfl, h7⟩ := pop_some h6
    obtain ⟨rfl, g⟩ := popN_some h7
    obtain ⟨r1, h1, h2⟩ := bind_some g
    exact ⟨_, h2, det_Smallest_1.con k _ h1⟩) (envC_ok (fun ds K r h => by
    obtain ⟨x0, d0, rfl, h0⟩ := pop_some h
    obtain ⟨x1, d1, rfl, h1⟩ := pop_some h0
    obtain ⟨x2, d2, rfl, h2⟩ := pop_some h1
    obtain ⟨x3, d3, rfl, h3⟩ := pop_some h2
    obtain ⟨x4, d4, rfl, h4⟩ := pop_some h3
    obtain ⟨x5, d5, rfl, h5⟩ := pop_some h4
    obtain ⟨rfl, g⟩ := popN_some h5
    obtain ⟨r1, h1, h2⟩ := bind_some g
    exact ⟨_, h2, det_Smallest_2.con k _ h1⟩) env0_ok)))
theorem det_Explore_int_.con (k : Nat) {x0 : Int} {x1 : Int} {x2 : Int} {x3 : Int} {x4 : Int} {x5 : (List (List Int))} {x6 : (List Int)} {x7 : (List Int)} {x8 : (List Int)} (r : Int × Int × Bool × Int × Int × (List (List Int)) × (List Int) × (List Int) × (List Int) × (List (List Int)) × (List Int)) (h : det_Explore_int_.f k x0 x1 x2 x3 x4 x5 x6 x7 x8 = some r) : Con Try.prog 112 5 det_Explore_int_.ti det_Explore_int_.to [⟨(.int .i64), x0⟩, ⟨(.int .i64), x1⟩, ⟨(.int .i64), x2⟩, ⟨(.int .i64), x3⟩, ⟨(.int .i64), x4⟩, ⟨(.slice (.slice (.int .i64))), x5⟩, ⟨(.slice (.int .i64)), x6⟩, ⟨(.slice (.int .i64)), x7⟩, ⟨(.slice (.int .i64)), x8⟩] (det_Explore_int_.rs r) :=
  det_Explore_int_.con' (k + 1) _ r (by show det_Explore_int_.c k _ = some r; unfold det_Explore_int_.c; simp only [pop_self, popN]; exact h)
mutual
def det_Smallest.l4 : Nat → Int → Int → Int → Int → List (List (Int)) → List (Int) → Int → Int → List (Int) → List (List (Int)) → List (Int) → List (Int) → Option (Int × Int × List (List Int) × List Int)
 | 0, _, _, _, _, _, _, _, _, _, _, _, _ => none
 | k + 1, x15, x16, d1_0, d1_1, d1_2, d1_3, x2_0, x2_1, x14, c5, c6, c7 =>
  if x16 < x15 then
   if 0 ≤ x16 then
   if x16 < (↑x14.length : Int) then
    if 0 ≤ x14.getD x16.toNat (Int.ofNat 0) then
     if x14.getD x16.toNat (Int.ofNat 0) < (↑c7.length : Int) then
      det_Smallest.l4 k x15 (Go.IntKind.i64.wrap (x16 + 1)) d1_0 d1_1 d1_2 d1_3 x2_0 x2_1 x14 c5 c6 (c7.set (x14.getD x16.toNat (Int.ofNat 0)).toNat x16)
      else none
     else none
    else none
   else none
  else
   if 0 ≤ d1_1 then
   if d1_1 < (↑x14.length : Int) then
    (det_Explore_int_.f k d1_0 (x14.getD d1_1.toNat (Int.ofNat 0)) (Go.IntKind.i64.wrap ((↑x14.length : Int) + 1)) d1_0 d1_1 d1_2 d1_3 x14 c7).bind fun r5 =>
      some (r5.fst, r5.snd.fst, r5.snd.snd.snd.snd.snd.snd.snd.snd.snd.fst, r5.snd.snd.snd.snd.snd.snd.snd.snd.snd.snd)
    else none
   else none
end
def det_Smallest.f (k : Nat) (d0 : (Int × (Int × (List (List (Int)) × (List (Int) × Unit))))) : Option (Int × Int × List (List Int) × List Int) :=
 (det_Classes.f k (d0.fst, d0.snd.fst, d0.snd.snd.fst, d0.snd.snd.snd.fst, ())).bind fun r1 =>
  if 0 ≤ (↑r1.length : Int) then
  if (↑r1.length : Int) ≤ (↑r1.length : Int) then
   if (↑r1.length : Int) * ((↑8 : Int) + 1) ≤ 1099511627776 then
    det_Smallest.l4 k ((↑r1.length : Int)) 0 d0.fst d0.snd.fst d0.snd.snd.fst d0.snd.snd.snd.fst 0 0 r1 [] [] (List.replicate (↑r1.length : Int).toNat (Int.ofNat 0))
    else none
   else none
  else none

noncomputable def det_Smallest.body : Code := fnBody Try.f100
def det_Smallest.ti : Tm := ⟨[(0, .p (.pair (.int .i64) (.pair (.int .i64) (.pair (.slice (.slice (.int .i64))) (.pair (.slice (.int .i64)) .unit)))))], []⟩
def det_Smallest.to : Tm := ⟨[(0, .agg [.p (.int .i64), .p (.int .i64), .own 0, .own 1])], [.own (.slice (.int .i64)), .own (.int .i64)]⟩
def det_Smallest.rs (r : Int × Int × (List (List Int)) × (List Int)) : List Dat := [⟨(.int .i64), r.1⟩, ⟨(.int .i64), r.2.1⟩, ⟨(.slice (.slice (.int .i64))), r.2.2.1⟩, ⟨(.slice (.int .i64)), r.2.2.2⟩]
def det_Smallest.out (ds : List Dat) : Option (Int × Int × (List (List Int)) × (List Int)) := pop (.int .i64) ds fun x0 ds => pop (.int .i64) ds fun x1 ds => pop (.slice (.slice (.int .i64))) ds fun x2 ds => pop (.slice (.int .i64)) ds fun x3 ds => popN ds (some (x0, x1, x2, x3))
def det_Smallest.c (k : Nat) (ds : List Dat) : Option (Int × Int × (List (List Int)) × (List Int)) := pop (.pair (.int .i64) (.pair (.int .i64) (.pair (.slice (.slice (.int .i64))) (.pair (.slice (.int .i64)) .unit)))) ds fun x0 ds => popN ds (det_Smallest.f k x0)
def det_Smallest.g : Nat → List Dat → Option (Int × Int × (List (List Int)) × (List Int))
 | 0, _ => none
 | k + 1, ds => det_Smallest.c k ds
def det_Smallest.env (k : Nat) : Nat → List SV → List Chunk → KT (Int × Int × (List (List Int)) × (List Int)) → Option (Int × Int × (List (List Int)) × (List Int)) := (envC 112 5 det_Explore_int_.ti det_Explore_int_.to (fun ds K => pop (.int .i64) ds fun x0 ds => pop (.int .i64) ds fun x1 ds => pop (.int .i64) ds fun x2 ds => pop (.int .i64) ds fun x3 ds => pop (.int .i64) ds fun x4 ds => pop (.slice (.slice (.int .i64))) ds fun x5 ds => pop (.slice (.int .i64)) ds fun x6 ds => pop (.slice (.int .i64)) ds fun x7 ds => pop (.slice (.int .i64)) ds fun x8 ds => popN ds ((det_Explore_int_.f k x0 x1 x2 x3 x4 x5 x6 x7 x8).bind fun r => K (det_Explore_int_.rs r))) (envC 161 1 det_Classes.ti det_Classes.to (fun ds K => pop (.pair (.int .i64) (.pair (.int .i64) (.pair (.slice (.slice (.int .i64))) (.pair (.slice (.int .i64)) .unit)))) ds fun x0 ds => popN ds ((det_Classes.f k x0).bind fun r => K (det_Classes.rs r))) env0))
def det_Smallest.t9 : Tm := ⟨[(1, .ptr 0 0), (2, .ptr 1 0), (3, .ptr 2 0), (4, .ptr 3 0), (14, .own 4), (15, .p (.int .i64)), (16, .p (.int .i64))], [.box [.p (.int .i64), .p (.int .i64), .p (.slice (.slice (.int .i64))), .p (.slice (.int .i64))] 58, .box [.p (.int .i64), .p (.int .i64), .own 5, .own 6] 58, .box [.own 4] 23, .box [.own 7] 23, .own (.int .i64), .own (.slice (.int .i64)), .own (.int .i64), .own (.int .i64)]⟩
def det_Smallest.c9 (k : Nat) (ds : List Dat) : Option (Int × Int × (List (List Int)) × (List Int)) := pop (.int .i64) ds fun x0 ds => pop (.int .i64) ds fun x1 ds => pop (.int .i64) ds fun x2 ds => pop (.int .i64) ds fun x3 ds => pop (.slice (.slice (.int .i64))) ds fun x4 ds => pop (.slice (.int .i64)) ds fun x5 ds => pop (.int .i64) ds fun x6 ds => pop (.int .i64) ds fun x7 ds => pop (.slice (.int .i64)) ds fun x8 ds => pop (.slice (.slice (.int .i64))) ds fun x9 ds => pop (.slice (.int .i64)) ds fun x10 ds => pop (.slice (.int .i64)) ds fun x11 ds => popN ds (det_Smallest.l4 k x0 x1 x2 x3 x4 x5 x6 x7 x8 x9 x10 x11)
def det_Smallest.tbl : List (Nat × Tm × (Nat → List Dat → Option (Int × Int × (List (List Int)) × (List Int)))) := [(9, det_Smallest.t9, det_Smallest.c9)]
noncomputable abbrev det_Smallest.R (k : Nat) := run T (det_Smallest.env k) Try.f100.ntmps (cutE 0 det_Smallest.tbl k) (finE 0 det_Smallest.to det_Smallest.out) (fnRes Try.f100) [] 100000 true
theorem det_Smallest.e9 (k : Nat) (x0 : Int) (x1 : Int) (x2 : Int) (x3 : Int) (x4 : (List (List Int))) (x5 : (List Int)) (x6 : Int) (x7 : Int) (x8 : (List Int)) (x9 : (List (List Int))) (x10 : (List Int)) (x11 : (List Int)) : det_Smallest.l4 (k + 1) x0 x1 x2 x3 x4 x5 x6 x7 x8 x9 x10 x11 = det_Smallest.R k (start (stackOf 9 det_Smallest.body)) (det_Smallest.t9.fill [⟨(.int .i64), x0⟩, ⟨(.int .i64), x1⟩, ⟨(.int .i64), x2⟩, ⟨(.int .i64), x3⟩, ⟨(.slice (.slice (.int .i64))), x4⟩, ⟨(.slice (.int .i64)), x5⟩, ⟨(.int .i64), x6⟩, ⟨(.int .i64), x7⟩, ⟨(.slice (.int .i64)), x8⟩, ⟨(.slice (.slice (.int .i64))), x9⟩, ⟨(.slice (.int .i64)), x10⟩, ⟨(.slice (.int .i64)), x11⟩]) := by kernel_rfl
theorem det_Smallest.s9 : stackAt 9 det_Smallest.body [] = some (stackOf 9 det_Smallest.body) := by kernel_rfl
theorem det_Smallest.h9 (k : Nat) (ds : List Dat) (r : Int × Int × (List (List Int)) × (List Int)) (h : det_Smallest.c9 k ds = some r) : ∃ k', k' < k ∧ ∃ s, stackAt 9 det_Smallest.body [] = some s ∧ det_Smallest.R k' (start s) (det_Smallest.t9.fill ds) = some r := by
  unfold det_Smallest.c9 at h
  obtain ⟨x0, d0, rfl, h0⟩ := pop_some h
  obtain ⟨x1, d1, rfl, h1⟩ := pop_some h0
  obtain ⟨x2, d2, rfl, h2⟩ := pop_some h1
  obtain ⟨x3, d3, rfl, h3⟩ := pop_some h2
  obtain ⟨x4, d4, rfl, h4⟩ := pop_some h3
  obtain ⟨x5, d5, rfl, h5⟩ := pop_some h4
  obtain ⟨x6, d6, rfl, h6⟩ := pop_some h5
  obtain ⟨x7, d7, rfl, h7⟩ := pop_some h6
  obtain ⟨x8, d8, rfl, h8⟩ := pop_some h7
  obtain ⟨x9, d9, rfl, h9⟩ := pop_some h8
  obtain ⟨x10, d10, rfl, h10⟩ := pop_some h9
  obtain ⟨x11, d11, rfl, h11⟩ := pop_some h10
  obtain ⟨rfl, g⟩ := popN_some h11
  cases k with
  | zero => cases (show none = some r from g)
  | succ k => exact ⟨k, Nat.lt_succ_self k, _, det_Smallest.s9, (det_Smallest.e9 k x0 x1 x2 x3 x4 x5 x6 x7 x8 x9 x10 x11).symm.trans g⟩
theorem det_Smallest.e (k : Nat) (x0 : (Int × (Int × ((List (List Int)) × ((List Int) × Unit))))) : det_Smallest.f k x0 = det_Smallest.R k ([.code det_Smallest.body]) (det_Smallest.ti.fill [⟨(.pair (.int .i64) (.pair (.int .i64) (.pair (.slice (.slice (.int .i64))) (.pair (.slice (.int .i64)) .unit)))), x0⟩]) := by kernel_rfl
theorem det_Smallest.h (k : Nat) (ds : List Dat) (r : Int × Int × (List (List Int)) × (List Int)) (h : det_Smallest.g k ds = some r) : ∃ k', k' < k ∧ det_Smallest.R k' ([.code det_Smallest.body]) (det_Smallest.ti.fill ds) = some r := by
  cases k with
  | zero => cases (show none = some r from h)
  | succ k =>
  replace h : det_Smallest.c k ds = some r := h
  unfold det_Smallest.c at h
  obtain ⟨x0, d0, rfl, h0⟩ := pop_some h
  obtain ⟨rfl, g⟩ := popN_some h0
  exact ⟨k, Nat.lt_succ_self k, (det_Smallest.e k x0).symm.trans g⟩
theorem det_Smallest.o (ds : List Dat) (r : Int × Int × (List (List Int)) × (List Int)) (h : det_Smallest.out ds = some r) : ds = det_Smallest.rs r := by
  unfold det_Smallest.out at h
  obtain ⟨x0, d0, rfl, h0⟩ := pop_some h
  obtain ⟨x1, d1, rfl, h1⟩ := pop_some h0
  obtain ⟨x2, d2, rfl, h2⟩ := pop_some h1
  obtain ⟨x3, d3, rfl, h3⟩ := pop_some h2
  obtain ⟨rfl, g⟩ := popN_some h3
  cases g
  rfl
theorem det_Smallest.fn : FnOk Try.prog 100 Try.f100 det_Smallest.body Try.f100.ntmps 1 (fnRes Try.f100) :=
  fnOk_of (by kernel_rfl) (by kernel_rfl) (by kernel_rfl) (by kernel_rfl)
theorem det_Smallest.con' : ∀ k ds r, det_Smallest.g k ds = some r → Con Try.prog 100 1 det_Smallest.ti det_Smallest.to ds (det_Smallest.rs r) :=
  fun_ok (T := T) T_ok mixed det_Smallest.fn (env := det_Smallest.env) (tbl := det_Smallest.tbl) (gOut := det_Smallest.out) (nin := 0) (cuts := []) (fuel := 100000) rfl (by kernel_rfl) (by kernel_rfl) (by kernel_rfl) (fun x hx => by
    simp only [det_Smallest.tbl, List.mem_cons, List.not_mem_nil, or_false] at hx
    subst hx
    · exact det_Smallest.h9
) det_Smallest.o det_Smallest.h (fun k _ => by unfold det_Smallest.env; exact (envC_ok (fun ds K r h => by
    obtain ⟨x0, d0, rfl, h0⟩ := pop_some h
    obtain ⟨x1, d1, rfl, h1⟩ := pop_some h0
    obtain ⟨x2, d2, rfl, h2⟩ := pop_some h1
    obtain ⟨x3, d3, rfl, h3⟩ := pop_some h2
    obtain ⟨x4, d4, rfl, h4⟩ := pop_some h3
    obtain ⟨x5, d5, rfl, h5⟩ := pop_some h4
    obtain ⟨x6, d6, rfl, h6⟩ := pop_some h5
    obtain ⟨x7, d7, rfl, h7⟩ := pop_some h6
    obtain ⟨x8, d8, rfl, h8⟩ := pop_some h7
    obtain ⟨rfl, g⟩ := popN_some h8
    obtain ⟨r1, h1, h2⟩ := bind_some g
    exact ⟨_, h2, det_Explore_int_.con k _ h1⟩) (envC_ok (fun ds K r h => by
    obtain ⟨x0, d0, rfl, h0⟩ := pop_some h
    obtain ⟨rfl, g⟩ := popN_some h0
    obtain ⟨r1, h1, h2⟩ := bind_some g
    exact ⟨_, h2, det_Classes.con k _ h1⟩) env0_ok)))
theorem det_Smallest.con (k : Nat) {x0 : (Int × (Int × ((List (List Int)) × ((List Int) × Unit))))} (r : Int × Int × (List (List Int)) × (List Int)) (h : det_Smallest.f k x0 = some r) : Con Try.prog 100 1 det_Smallest.ti det_Smallest.to [⟨(.pair (.int .i64) (.pair (.int .i64) (.pair (.slice (.slice (.int .i64))) (.pair (.slice (.int .i64)) .unit)))), x0⟩] (det_Smallest.rs r) :=
  det_Smallest.con' (k + 1) _ r (by show det_Smallest.c k _ = some r; unfold det_Smallest.c; simp only [pop_self, popN]; exact h)
mutual
def two_Det.l8 : Nat → Int → Int → Int → List (List ((Int × (Int × Unit)))) → List (Int) → Int → Int → Int → Int → Int → Int → Int → Int → List (List (Int)) → List (Int) → Option (Int × Int × Int × List (List Int) × List Int)
 | 0, _, _, _, _, _, _, _, _, _, _, _, _, _, _, _ => none
 | k + 1, x22, t1_0, t1_1, t1_2, t1_3, x2_0, x2_1, n5_0, begin7_0, begin7_1, begin7_2, begin7_3, begin7_4, c5, c6 =>
  if x22 < 4 then
   if 0 ≤ x22 then
   if x22 < (↑5 : Int) then
    if x22 < n5_0 then
      (two_Det_1.f k (if x22.toNat = 0 then Int.instNegInt.1 1 else begin7_0, if x22.toNat = 0 + 1 then Int.instNegInt.1 1 else begin7_1, if x22.toNat = 0 + 1 + 1 then Int.instNegInt.1 1 else begin7_2, if x22.toNat = 0 + 1 + 1 + 1 then Int.instNegInt.1 1 else begin7_3, if x22.toNat = 0 + 1 + 1 + 1 + 1 then Int.instNegInt.1 1 else begin7_4, ()) true x22 t1_0 n5_0 t1_0 t1_1 t1_2 t1_3).bind fun r6 =>
       if 0 ≤ x22 then
       if x22 < (↑5 : Int) then
        two_Det.j13 k x22 r6.snd.snd.fst r6.snd.snd.snd.fst r6.snd.snd.snd.snd.fst r6.snd.snd.snd.snd.snd x2_0 x2_1 r6.snd.fst (if x22.toNat = 0 then r6.fst else if x22.toNat = 0 then Int.instNegInt.1 1 else begin7_0) (if x22.toNat = 0 + 1 then r6.fst else if x22.toNat = 0 + 1 then Int.instNegInt.1 1 else begin7_1) (if x22.toNat = 0 + 1 + 1 then r6.fst else if x22.toNat = 0 + 1 + 1 then Int.instNegInt.1 1 else begin7_2) (if x22.toNat = 0 + 1 + 1 + 1 then r6.fst else if x22.toNat = 0 + 1 + 1 + 1 then Int.instNegInt.1 1 else begin7_3) (if x22.toNat = 0 + 1 + 1 + 1 + 1 then r6.fst else if x22.toNat = 0 + 1 + 1 + 1 + 1 then Int.instNegInt.1 1 else begin7_4) c5 c6
        else none
       else none
     else
      two_Det.j13 k x22 t1_0 t1_1 t1_2 t1_3 x2_0 x2_1 n5_0 (if x22.toNat = 0 then Int.instNegInt.1 1 else begin7_0) (if x22.toNat = 0 + 1 then Int.instNegInt.1 1 else begin7_1) (if x22.toNat = 0 + 1 + 1 then Int.instNegInt.1 1 else begin7_2) (if x22.toNat = 0 + 1 + 1 + 1 then Int.instNegInt.1 1 else begin7_3) (if x22.toNat = 0 + 1 + 1 + 1 + 1 then Int.instNegInt.1 1 else begin7_4) c5 c6
    else none
   else none
  else
   (two_Det_1.f k (begin7_0, begin7_1, begin7_2, begin7_3, begin7_4, ()) true t1_1 t1_0 n5_0 t1_0 t1_1 t1_2 t1_3).bind fun r3 =>
    (det_Explore_two_table_.f k r3.snd.snd.fst (begin7_0, begin7_1, begin7_2, begin7_3, r3.fst, ()) (Int.ofNat 1048576) r3.snd.fst r3.snd.snd.fst r3.snd.snd.snd.fst r3.snd.snd.snd.snd.fst r3.snd.snd.snd.snd.snd).bind fun r4 =>
     (det_Smallest.f k (r4.fst, r4.snd.fst, r4.snd.snd.snd.snd.snd.snd.snd.snd.fst, r4.snd.snd.snd.snd.snd.snd.snd.snd.snd, ())).bind fun r5 =>
      if r4.snd.snd.fst = true then
       if 3000 < (↑r5.snd.snd.fst.length : Int) then
        some (0, 0, 7, [], [])
       else
        some (r5.fst, r5.snd.fst, 0, r5.snd.snd.fst, r5.snd.snd.snd)
      else
       some (0, 0, 7, [], [])
def two_Det.j13 : Nat → Int → Int → Int → List (List ((Int × (Int × Unit)))) → List (Int) → Int → Int → Int → Int → Int → Int → Int → Int → List (List (Int)) → List (Int) → Option (Int × Int × Int × List (List Int) × List Int)
 | 0, _, _, _, _, _, _, _, _, _, _, _, _, _, _, _ => none
 | k + 1, x22, t1_0, t1_1, t1_2, t1_3, x2_0, x2_1, n5_0, begin7_0, begin7_1, begin7_2, begin7_3, begin7_4, c5, c6 =>
  two_Det.l8 k (Go.IntKind.i64.wrap (x22 + 1)) t1_0 t1_1 t1_2 t1_3 x2_0 x2_1 n5_0 begin7_0 begin7_1 begin7_2 begin7_3 begin7_4 c5 c6
end
def two_Det.f (k : Nat) (t0 : (Int × (Int × (List (List ((Int × (Int × Unit)))) × (List (Int) × Unit))))) : Option (Int × Int × Int × List (List Int) × List Int) :=
 (two_Check.f k (t0.fst, t0.snd.fst, t0.snd.snd.fst, t0.snd.snd.snd.fst, ())).bind fun r1 =>
  if r1 = 0 then
   two_Det.l8 k 0 t0.fst t0.snd.fst t0.snd.snd.fst t0.snd.snd.snd.fst 0 0 ((↑t0.snd.snd.fst.length : Int)) (Int.ofNat 0) (Int.ofNat 0) (Int.ofNat 0) (Int.ofNat 0) (Int.ofNat 0) [] []
  else
   some (0, 0, r1, [], [])

noncomputable def two_Det.body : Code := fnBody Try.f49
def two_Det.ti : Tm := ⟨[(0, .p (.pair (.int .i64) (.pair (.int .i64) (.pair (.slice (.slice (.pair (.int .i64) (.pair (.int .i64) .unit)))) (.pair (.slice (.int .i64)) .unit)))))], []⟩
def two_Det.to : Tm := ⟨[(0, .agg [.p (.int .i64), .p (.int .i64), .own 0, .own 1]), (1, .p (.int .i64))], [.own (.slice (.int .i64)), .own (.int .i64)]⟩
def two_Det.rs (r : Int × Int × Int × (List (List Int)) × (List Int)) : List Dat := [⟨(.int .i64), r.1⟩, ⟨(.int .i64), r.2.1⟩, ⟨(.int .i64), r.2.2.1⟩, ⟨(.slice (.slice (.int .i64))), r.2.2.2.1⟩, ⟨(.slice (.int .i64)), r.2.2.2.2⟩]
def two_Det.out (ds : List Dat) : Option (Int × Int × Int × (List (List Int)) × (List Int)) := pop (.int .i64) ds fun x0 ds => pop (.int .i64) ds fun x1 ds => pop (.int .i64) ds fun x2 ds => pop (.slice (.slice (.int .i64))) ds fun x3 ds => pop (.slice (.int .i64)) ds fun x4 ds => popN ds (some (x0, x1, x2, x3, x4))
def two_Det.c (k : Nat) (ds : List Dat) : Option (Int × Int × Int × (List (List Int)) × (List Int)) := pop (.pair (.int .i64) (.pair (.int .i64) (.pair (.slice (.slice (.pair (.int .i64) (.pair (.int .i64) .unit)))) (.pair (.slice (.int .i64)) .unit)))) ds fun x0 ds => popN ds (two_Det.f k x0)
def two_Det.g : Nat → List Dat → Option (Int × Int × Int × (List (List Int)) × (List Int))
 | 0, _ => none
 | k + 1, ds => two_Det.c k ds
def two_Det.env (k : Nat) : Nat → List SV → List Chunk → KT (Int × Int × Int × (List (List Int)) × (List Int)) → Option (Int × Int × Int × (List (List Int)) × (List Int)) := (envC 107 6 two_Det_1.ti two_Det_1.to (fun ds K => pop (.pair (.int .i64) (.pair (.int .i64) (.pair (.int .i64) (.pair (.int .i64) (.pair (.int .i64) .unit))))) ds fun x0 ds => pop .bool ds fun x1 ds => pop (.int .i64) ds fun x2 ds => pop (.int .i64) ds fun x3 ds => pop (.int .i64) ds fun x4 ds => pop (.int .i64) ds fun x5 ds => pop (.int .i64) ds fun x6 ds => pop (.slice (.slice (.pair (.int .i64) (.pair (.int .i64) .unit)))) ds fun x7 ds => pop (.slice (.int .i64)) ds fun x8 ds => popN ds ((two_Det_1.f k x0 x1 x2 x3 x4 x5 x6 x7 x8).bind fun r => K (two_Det_1.rs r))) (envC 108 5 det_Explore_two_table_.ti det_Explore_two_table_.to (fun ds K => pop (.int .i64) ds fun x0 ds => pop (.pair (.int .i64) (.pair (.int .i64) (.pair (.int .i64) (.pair (.int .i64) (.pair (.int .i64) .unit))))) ds fun x1 ds => pop (.int .i64) ds fun x2 ds => pop (.int .i64) ds fun x3 ds => pop (.int .i64) ds fun x4 ds => pop (.int .i64) ds fun x5 ds => pop (.slice (.slice (.pair (.int .i64) (.pair (.int .i64) .unit)))) ds fun x6 ds => pop (.slice (.int .i64)) ds fun x7 ds => popN ds ((det_Explore_two_table_.f k x0 x1 x2 x3 x4 x5 x6 x7).bind fun r => K (det_Explore_two_table_.rs r))) (envC 100 1 det_Smallest.ti det_Smallest.to (fun ds K => pop (.pair (.int .i64) (.pair (.int .i64) (.pair (.slice (.slice (.int .i64))) (.pair (.slice (.int .i64)) .unit)))) ds fun x0 ds => popN ds ((det_Smallest.f k x0).bind fun r => K (det_Smallest.rs r))) (envC 106 1 two_Check.ti two_Check.to (fun ds K => pop (.pair (.int .i64) (.pair (.int .i64) (.pair (.slice (.slice (.pair (.int .i64) (.pair (.int .i64) .unit)))) (.pair (.slice (.int .i64)) .unit)))) ds fun x0 ds => popN ds ((two_Check.f k x0).bind fun r => K (two_Check.rs r))) env0))))
def two_Det.t17 : Tm := ⟨[(1, .ptr 0 0), (2, .ptr 1 0), (5, .ptr 2 0), (6, .ptr 3 0), (7, .ptr 4 0), (22, .p (.int .i64))], [.box [.p (.int .i64), .p (.int .i64), .p (.slice (.slice (.pair (.int .i64) (.pair (.int .i64) .unit)))), .p (.slice (.int .i64))] 76, .box [.p (.int .i64), .p (.int .i64), .own 5, .own 6] 58, .box [.p (.int .i64)] 3, .box [.fn 107 [.ptr 2 0, .ptr 0 0]] 143, .box [.p (.int .i64), .p (.int .i64), .p (.int .i64), .p (.int .i64), .p (.int .i64)] 142, .own (.slice (.int .i64)), .own (.int .i64)]⟩
def two_Det.c17 (k : Nat) (ds : List Dat) : Option (Int × Int × Int × (List (List Int)) × (List Int)) := pop (.int .i64) ds fun x0 ds => pop (.int .i64) ds fun x1 ds => pop (.int .i64) ds fun x2 ds => pop (.slice (.slice (.pair (.int .i64) (.pair (.int .i64) .unit)))) ds fun x3 ds => pop (.slice (.int .i64)) ds fun x4 ds => pop (.int .i64) ds fun x5 ds => pop (.int .i64) ds fun x6 ds => pop (.int .i64) ds fun x7 ds => pop (.int .i64) ds fun x8 ds => pop (.int .i64) ds fun x9 ds => pop (.int .i64) ds fun x10 ds => pop (.int .i64) ds fun x11 ds => pop (.int .i64) ds fun x12 ds => pop (.slice (.slice (.int .i64))) ds fun x13 ds => pop (.slice (.int .i64)) ds fun x14 ds => popN ds (two_Det.l8 k x0 x1 x2 x3 x4 x5 x6 x7 x8 x9 x10 x11 x12 x13 x14)
def two_Det.t26 : Tm := ⟨[(1, .ptr 0 0), (2, .ptr 1 0), (5, .ptr 2 0), (6, .ptr 3 0), (7, .ptr 4 0), (22, .p (.int .i64))], [.box [.p (.int .i64), .p (.int .i64), .p (.slice (.slice (.pair (.int .i64) (.pair (.int .i64) .unit)))), .p (.slice (.int .i64))] 76, .box [.p (.int .i64), .p (.int .i64), .own 5, .own 6] 58, .box [.p (.int .i64)] 3, .box [.fn 107 [.ptr 2 0, .ptr 0 0]] 143, .box [.p (.int .i64), .p (.int .i64), .p (.int .i64), .p (.int .i64), .p (.int .i64)] 142, .own (.slice (.int .i64)), .own (.int .i64)]⟩
def two_Det.c26 (k : Nat) (ds : List Dat) : Option (Int × Int × Int × (List (List Int)) × (List Int)) := pop (.int .i64) ds fun x0 ds => pop (.int .i64) ds fun x1 ds => pop (.int .i64) ds fun x2 ds => pop (.slice (.slice (.pair (.int .i64) (.pair (.int .i64) .unit)))) ds fun x3 ds => pop (.slice (.int .i64)) ds fun x4 ds => pop (.int .i64) ds fun x5 ds => pop (.int .i64) ds fun x6 ds => pop (.int .i64) ds fun x7 ds => pop (.int .i64) ds fun x8 ds => pop (.int .i64) ds fun x9 ds => pop (.int .i64) ds fun x10 ds => pop (.int .i64) ds fun x11 ds => pop (.int .i64) ds fun x12 ds => pop (.slice (.slice (.int .i64))) ds fun x13 ds => pop (.slice (.int .i64)) ds fun x14 ds => popN ds (two_Det.j13 k x0 x1 x2 x3 x4 x5 x6 x7 x8 x9 x10 x11 x12 x13 x14)
def two_Det.tbl : List (Nat × Tm × (Nat → List Dat → Option (Int × Int × Int × (List (List Int)) × (List Int)))) := [(17, two_Det.t17, two_Det.c17), (26, two_Det.t26, two_Det.c26)]
noncomputable abbrev two_Det.R (k : Nat) := run T (two_Det.env k) Try.f49.ntmps (cutE 0 two_Det.tbl k) (finE 0 two_Det.to two_Det.out) (fnRes Try.f49) [13] 100000 true
theorem two_Det.e17 (k : Nat) (x0 : Int) (x1 : Int) (x2 : Int) (x3 : (List (List (Int × (Int × Unit))))) (x4 : (List Int)) (x5 : Int) (x6 : Int) (x7 : Int) (x8 : Int) (x9 : Int) (x10 : Int) (x11 : Int) (x12 : Int) (x13 : (List (List Int))) (x14 : (List Int)) : two_Det.l8 (k + 1) x0 x1 x2 x3 x4 x5 x6 x7 x8 x9 x10 x11 x12 x13 x14 = two_Det.R k (start (stackOf 17 two_Det.body)) (two_Det.t17.fill [⟨(.int .i64), x0⟩, ⟨(.int .i64), x1⟩, ⟨(.int .i64), x2⟩, ⟨(.slice (.slice (.pair (.int .i64) (.pair (.int .i64) .unit)))), x3⟩, ⟨(.slice (.int .i64)), x4⟩, ⟨(.int .i64), x5⟩, ⟨(.int .i64), x6⟩, ⟨(.int .i64), x7⟩, ⟨(.int .i64), x8⟩, ⟨(.int .i64), x9⟩, ⟨(.int .i64), x10⟩, ⟨(.int .i64), x11⟩, ⟨(.int .i64), x12⟩, ⟨(.slice (.slice (.int .i64))), x13⟩, ⟨(.slice (.int .i64)), x14⟩]) := by kernel_rfl
theorem two_Det.s17 : stackAt 17 two_Det.body [] = some (stackOf 17 two_Det.body) := by kernel_rfl
theorem two_Det.h17 (k : Nat) (ds : List Dat) (r : Int × Int × Int × (List (List Int)) × (List Int)) (h : two_Det.c17 k ds = some r) : ∃ k', k' < k ∧ ∃ s, stackAt 17 two_Det.body [] = some s ∧ two_Det.R k' (start s) (two_Det.t17.fill ds) = some r := by
  unfold two_Det.c17 at h
  obtain ⟨x0, d0, rfl, h0⟩ := pop_some h
  obtain ⟨x1, d1, rfl, h1⟩ := pop_some h0
  obtain ⟨x2, d2, rfl, h2⟩ := pop_some h1
  obtain ⟨x3, d3, rfl, h3⟩ := pop_some h2
  obtain ⟨x4, d4, rfl, h4⟩ := pop_some h3
  obtain ⟨x5, d5, rfl, h5⟩ := pop_some h4
  obtain ⟨x6, d6, rfl, h6⟩ := pop_some h5
  obtain ⟨x7, d7, rfl, h7⟩ := pop_some h6
  obtain ⟨x8, d8, rfl, h8⟩ := pop_some h7
  obtain ⟨x9, d9, rfl, h9⟩ := pop_some h8
  obtain ⟨x10, d10, rfl, h10⟩ := pop_some h9
  obtain ⟨x11, d11, rfl, h11⟩ := pop_some h10
  obtain ⟨x12, d12, rfl, h12⟩ := pop_some h11
  obtain ⟨x13, d13, rfl, h13⟩ := pop_some h12
  obtain ⟨x14, d14, rfl, h14⟩ := pop_some h13
  obtain ⟨rfl, g⟩ := popN_some h14
  cases k with
  | zero => cases (show none = some r from g)
  | succ k => exact ⟨k, Nat.lt_succ_self k, _, two_Det.s17, (two_Det.e17 k x0 x1 x2 x3 x4 x5 x6 x7 x8 x9 x10 x11 x12 x13 x14).symm.trans g⟩
theorem two_Det.e26 (k : Nat) (x0 : Int) (x1 : Int) (x2 : Int) (x3 : (List (List (Int × (Int × Unit))))) (x4 : (List Int)) (x5 : Int) (x6 : Int) (x7 : Int) (x8 : Int) (x9 : Int) (x10 : Int) (x11 : Int) (x12 : Int) (x13 : (List (List Int))) (x14 : (List Int)) : two_Det.j13 (k + 1) x0 x1 x2 x3 x4 x5 x6 x7 x8 x9 x10 x11 x12 x13 x14 = two_Det.R k (start (stackOf 26 two_Det.body)) (two_Det.t26.fill [⟨(.int .i64), x0⟩, ⟨(.int .i64), x1⟩, ⟨(.int .i64), x2⟩, ⟨(.slice (.slice (.pair (.int .i64) (.pair (.int .i64) .unit)))), x3⟩, ⟨(.slice (.int .i64)), x4⟩, ⟨(.int .i64), x5⟩, ⟨(.int .i64), x6⟩, ⟨(.int .i64), x7⟩, ⟨(.int .i64), x8⟩, ⟨(.int .i64), x9⟩, ⟨(.int .i64), x10⟩, ⟨(.int .i64), x11⟩, ⟨(.int .i64), x12⟩, ⟨(.slice (.slice (.int .i64))), x13⟩, ⟨(.slice (.int .i64)), x14⟩]) := by kernel_rfl
theorem two_Det.s26 : stackAt 26 two_Det.body [] = some (stackOf 26 two_Det.body) := by kernel_rfl
theorem two_Det.h26 (k : Nat) (ds : List Dat) (r : Int × Int × Int × (List (List Int)) × (List Int)) (h : two_Det.c26 k ds = some r) : ∃ k', k' < k ∧ ∃ s, stackAt 26 two_Det.body [] = some s ∧ two_Det.R k' (start s) (two_Det.t26.fill ds) = some r := by
  unfold two_Det.c26 at h
  obtain ⟨x0, d0, rfl, h0⟩ := pop_some h
  obtain ⟨x1, d1, rfl, h1⟩ := pop_some h0
  obtain ⟨x2, d2, rfl, h2⟩ := pop_some h1
  obtain ⟨x3, d3, rfl, h3⟩ := pop_some h2
  obtain ⟨x4, d4, rfl, h4⟩ := pop_some h3
  obtain ⟨x5, d5, rfl, h5⟩ := pop_some h4
  obtain ⟨x6, d6, rfl, h6⟩ := pop_some h5
  obtain ⟨x7, d7, rfl, h7⟩ := pop_some h6
  obtain ⟨x8, d8, rfl, h8⟩ := pop_some h7
  obtain ⟨x9, d9, rfl, h9⟩ := pop_some h8
  obtain ⟨x10, d10, rfl, h10⟩ := pop_some h9
  obtain ⟨x11, d11, rfl, h11⟩ := pop_some h10
  obtain ⟨x12, d12, rfl, h12⟩ := pop_some h11
  obtain ⟨x13, d13, rfl, h13⟩ := pop_some h12
  obtain ⟨x14, d14, rfl, h14⟩ := pop_some h13
  obtain ⟨rfl, g⟩ := popN_some h14
  cases k with
  | zero => cases (show none = some r from g)
  | succ k => exact ⟨k, Nat.lt_succ_self k, _, two_Det.s26, (two_Det.e26 k x0 x1 x2 x3 x4 x5 x6 x7 x8 x9 x10 x11 x12 x13 x14).symm.trans g⟩
theorem two_Det.e (k : Nat) (x0 : (Int × (Int × ((List (List (Int × (Int × Unit)))) × ((List Int) × Unit))))) : two_Det.f k x0 = two_Det.R k ([.code two_Det.body]) (two_Det.ti.fill [⟨(.pair (.int .i64) (.pair (.int .i64) (.pair (.slice (.slice (.pair (.int .i64) (.pair (.int .i64) .unit)))) (.pair (.slice (.int .i64)) .unit)))), x0⟩]) := by kernel_rfl
theorem two_Det.h (k : Nat) (ds : List Dat) (r : Int × Int × Int × (List (List Int)) × (List Int)) (h : two_Det.g k ds = some r) : ∃ k', k' < k ∧ two_Det.R k' ([.code two_Det.body]) (two_Det.ti.fill ds) = some r := by
  cases k with
  | zero => cases (show none = some r from h)
  | succ k =>
  replace h : two_Det.c k ds = some r := h
  unfold two_Det.c at h
  obtain ⟨x0, d0, rfl, h0⟩ := pop_some h
  obtain ⟨rfl, g⟩ := popN_some h0
  exact ⟨k, Nat.lt_succ_self k, (two_Det.e k x0).symm.trans g⟩
theorem two_Det.o (ds : List Dat) (r : Int × Int × Int × (List (List Int)) × (List Int)) (h : two_Det.out ds = some r) : ds = two_Det.rs r := by
  unfold two_Det.out at h
  obtain ⟨x0, d0, rfl, h0⟩ := pop_some h
  obtain ⟨x1, d1, rfl, h1⟩ := pop_some h0
  obtain ⟨x2, d2, rfl, h2⟩ := pop_some h1
  obtain ⟨x3, d3, rfl, h3⟩ := pop_some h2
  obtain ⟨x4, d4, rfl, h4⟩ := pop_some h3
  obtain ⟨rfl, g⟩ := popN_some h4
  cases g
  rfl
theorem two_Det.fn : FnOk Try.prog 49 Try.f49 two_Det.body Try.f49.ntmps 1 (fnRes Try.f49) :=
  fnOk_of (by kernel_rfl) (by kernel_rfl) (by kernel_rfl) (by kernel_rfl)
theorem two_Det.con' : ∀ k ds r, two_Det.g k ds = some r → Con Try.prog 49 1 two_Det.ti two_Det.to ds (two_Det.rs r) :=
  fun_ok (T := T) T_ok mixed two_Det.fn (env := two_Det.env) (tbl := two_Det.tbl) (gOut := two_Det.out) (nin := 0) (cuts := [13]) (fuel := 100000) rfl (by kernel_rfl) (by kernel_rfl) (by kernel_rfl) (fun x hx => by
    simp only [two_Det.tbl, List.mem_cons, List.not_mem_nil, or_false] at hx
    rcases hx with rfl | rfl
    · exact two_Det.h17
    · exact two_Det.h26
) two_Det.o two_Det.h (fun k _ => by unfold two_Det.env; exact (envC_ok (fun ds K r h => by
    obtain ⟨x0, d0, rfl, h0⟩ := pop_some h
    obtain ⟨x1, d1, rfl, h1⟩ := pop_some h0
    obtain ⟨x2, d2, rfl, h2⟩ := pop_some h1
    obtain ⟨x3, d3, rfl, h3⟩ := pop_some h2
    obtain ⟨x4, d4, rfl, h4⟩ := pop_some h3
    obtain ⟨x5, d5, rfl, h5⟩ := pop_some h4
    obtain ⟨x6, d6, rfl, h6⟩ := pop_some h5
    obtain ⟨x7, d7, rfl, h7⟩ := pop_some h6
    obtain ⟨x8, d8, rfl, h8⟩ := pop_some h7
    obtain ⟨rfl, g⟩ := popN_some h8
    obtain ⟨r1, h1, h2⟩ := bind_some g
    exact ⟨_, h2, two_Det_1.con k _ h1⟩) (envC_ok (fun ds K r h => by
    obtain ⟨x0, d0, rfl, h0⟩ := pop_some h
    obtain ⟨x1, d1, rfl, h1⟩ := pop_some h0
    obtain ⟨x2, d2, rfl, h2⟩ := pop_some h1
    obtain ⟨x3, d3, rfl, h3⟩ := pop_some h2
    obtain ⟨x4, d4, rfl, h4⟩ := pop_some h3
    obtain ⟨x5, d5, rfl, h5⟩ := pop_some h4
    obtain ⟨x6, d6, rfl, h6⟩ := pop_some h5
    obtain ⟨x7, d7, rfl, h7⟩ := pop_some h6
    obtain ⟨rfl, g⟩ := popN_some h7
    obtain ⟨r1, h1, h2⟩ := bind_some g
    exact ⟨_, h2, det_Explore_two_table_.con k _ h1⟩) (envC_ok (fun ds K r h => by
    obtain ⟨x0, d0, rfl, h0⟩ := pop_some h
    obtain ⟨rfl, g⟩ := popN_some h0
    obtain ⟨r1, h1, h2⟩ := bind_some g
    exact ⟨_, h2, det_Smallest.con k _ h1⟩) (envC_ok (fun ds K r h => by
    obtain ⟨x0, d0, rfl, h0⟩ := pop_some h
    obtain ⟨rfl, g⟩ := popN_some h0
    obtain ⟨r1, h1, h2⟩ := bind_some g
    exact ⟨_, h2, two_Check.con k _ h1⟩) env0_ok)))))
theorem two_Det.con (k : Nat) {x0 : (Int × (Int × ((List (List (Int × (Int × Unit)))) × ((List Int) × Unit))))} (r : Int × Int × Int × (List (List Int)) × (List Int)) (h : two_Det.f k x0 = some r) : Con Try.prog 49 1 two_Det.ti two_Det.to [⟨(.pair (.int .i64) (.pair (.int .i64) (.pair (.slice (.slice (.pair (.int .i64) (.pair (.int .i64) .unit)))) (.pair (.slice (.int .i64)) .unit)))), x0⟩] (two_Det.rs r) :=
  two_Det.con' (k + 1) _ r (by show two_Det.c k _ = some r; unfold two_Det.c; simp only [pop_self, popN]; exact h)
mutual
def evermoreref25_Check.l9 : Nat → Int → Int → Int → Int → List (List ((Int × (Int × Unit)))) → List (Int) → Option (Int)
 | 0, _, _, _, _, _, _ => none
 | k + 1, n3, q4, t1_0, t1_1, t1_2, t1_3 =>
  if q4 < n3 then
   if 0 ≤ q4 then
   if q4 < (↑t1_2.length : Int) then
    if (↑(Go.Proofs.YtiiioobebeaafaaSx.rd [] t1_2 q4).length : Int) = Go.IntKind.i64.wrap (t1_0 + 2) then
      evermoreref25_Check.l9 k n3 (Go.IntKind.i64.wrap (q4 + 1)) t1_0 t1_1 t1_2 t1_3
     else
      some (3)
    else none
   else none
  else
   if t1_1 < 0 then
    some (2)
   else
    if n3 ≤ t1_1 then
     some (2)
    else
     evermoreref25_Check.l16 k n3 0 t1_0 t1_1 t1_2 t1_3
def evermoreref25_Check.l16 : Nat → Int → Int → Int → Int → List (List ((Int × (Int × Unit)))) → List (Int) → Option (Int)
 | 0, _, _, _, _, _, _ => none
 | k + 1, n3, q5, t1_0, t1_1, t1_2, t1_3 =>
  if q5 < n3 then
   evermoreref25_Check.l19 k n3 q5 0 t1_0 t1_1 t1_2 t1_3
  else
   some (0)
def evermoreref25_Check.l19 : Nat → Int → Int → Int → Int → Int → List (List ((Int × (Int × Unit)))) → List (Int) → Option (Int)
 | 0, _, _, _, _, _, _, _ => none
 | k + 1, n3, q5, a6, t1_0, t1_1, t1_2, t1_3 =>
  if a6 < Go.IntKind.i64.wrap (t1_0 + 2) then
   if 0 ≤ q5 then
   if q5 < (↑t1_2.length : Int) then
    if 0 ≤ a6 then
     if a6 < (↑(Go.Proofs.YtiiioobebeaafaaSx.rd [] t1_2 q5).length : Int) then
      if (Go.Proofs.YtiiioobebeaafaaSx.rd (Int.ofNat 0, Int.ofNat 0, ()) (Go.Proofs.YtiiioobebeaafaaSx.rd [] t1_2 q5) a6).fst < 0 then
        some (2)
       else
        if n3 ≤ (Go.Proofs.YtiiioobebeaafaaSx.rd (Int.ofNat 0, Int.ofNat 0, ()) (Go.Proofs.YtiiioobebeaafaaSx.rd [] t1_2 q5) a6).fst then
         some (2)
        else
         if (Go.Proofs.YtiiioobebeaafaaSx.rd (Int.ofNat 0, Int.ofNat 0, ()) (Go.Proofs.YtiiioobebeaafaaSx.rd [] t1_2 q5) a6).snd.fst = 1 then
          evermoreref25_Check.l19 k n3 q5 (Go.IntKind.i64.wrap (a6 + 1)) t1_0 t1_1 t1_2 t1_3
         else
          if (Go.Proofs.YtiiioobebeaafaaSx.rd (Int.ofNat 0, Int.ofNat 0, ()) (Go.Proofs.YtiiioobebeaafaaSx.rd [] t1_2 q5) a6).snd.fst = -1 then
           evermoreref25_Check.l19 k n3 q5 (Go.IntKind.i64.wrap (a6 + 1)) t1_0 t1_1 t1_2 t1_3
          else
           some (2)
      else none
     else none
    else none
   else none
  else
   if 0 ≤ q5 then
   if q5 < (↑t1_3.length : Int) then
    if Go.Proofs.YtiiioobebeaafaaSx.rd (Int.ofNat 0) t1_3 q5 = 0 then
      evermoreref25_Check.l16 k n3 (Go.IntKind.i64.wrap (q5 + 1)) t1_0 t1_1 t1_2 t1_3
     else
      if 0 ≤ q5 then
      if q5 < (↑t1_3.length : Int) then
       if Go.Proofs.YtiiioobebeaafaaSx.rd (Int.ofNat 0) t1_3 q5 = 1 then
         evermoreref25_Check.l16 k n3 (Go.IntKind.i64.wrap (q5 + 1)) t1_0 t1_1 t1_2 t1_3
        else
         some (2)
       else none
      else none
    else none
   else none
end
def evermoreref25_Check.f (k : Nat) (t0 : (Int × (Int × (List (List ((Int × (Int × Unit)))) × (List (Int) × Unit))))) : Option (Int) :=
 if t0.fst < 1 then
  some (2)
 else
  if 4 < t0.fst then
   some (2)
  else
   if (↑t0.snd.snd.fst.length : Int) < 1 then
    some (1)
   else
    if 4 < (↑t0.snd.snd.fst.length : Int) then
     some (1)
    else
     if (↑t0.snd.snd.snd.fst.length : Int) = (↑t0.snd.snd.fst.length : Int) then
      evermoreref25_Check.l9 k ((↑t0.snd.snd.fst.length : Int)) 0 t0.fst t0.snd.fst t0.snd.snd.fst t0.snd.snd.snd.fst
     else
      some (3)

noncomputable def evermoreref25_Check.body : Code := fnBody Try.f55
def evermoreref25_Check.ti : Tm := ⟨[(0, .p (.pair (.int .i64) (.pair (.int .i64) (.pair (.slice (.slice (.pair (.int .i64) (.pair (.int .i64) .unit)))) (.pair (.slice (.int .i64)) .unit)))))], []⟩
def evermoreref25_Check.to : Tm := ⟨[(0, .p (.int .i64))], []⟩
def evermoreref25_Check.rs (r : Int) : List Dat := [⟨(.int .i64), r⟩]
def evermoreref25_Check.out (ds : List Dat) : Option (Int) := pop (.int .i64) ds fun x0 ds => popN ds (some (x0))
def evermoreref25_Check.c (k : Nat) (ds : List Dat) : Option (Int) := pop (.pair (.int .i64) (.pair (.int .i64) (.pair (.slice (.slice (.pair (.int .i64) (.pair (.int .i64) .unit)))) (.pair (.slice (.int .i64)) .unit)))) ds fun x0 ds => popN ds (evermoreref25_Check.f k x0)
def evermoreref25_Check.g : Nat → List Dat → Option (Int)
 | 0, _ => none
 | k + 1, ds => evermoreref25_Check.c k ds
def evermoreref25_Check.env (k : Nat) : Nat → List SV → List Chunk → KT (Int) → Option (Int) := env0
def evermoreref25_Check.t19 : Tm := ⟨[(1, .ptr 0 0), (3, .p (.int .i64)), (4, .p (.int .i64))], [.box [.p (.int .i64), .p (.int .i64), .p (.slice (.slice (.pair (.int .i64) (.pair (.int .i64) .unit)))), .p (.slice (.int .i64))] 76]⟩
def evermoreref25_Check.c19 (k : Nat) (ds : List Dat) : Option (Int) := pop (.int .i64) ds fun x0 ds => pop (.int .i64) ds fun x1 ds => pop (.int .i64) ds fun x2 ds => pop (.int .i64) ds fun x3 ds => pop (.slice (.slice (.pair (.int .i64) (.pair (.int .i64) .unit)))) ds fun x4 ds => pop (.slice (.int .i64)) ds fun x5 ds => popN ds (evermoreref25_Check.l9 k x0 x1 x2 x3 x4 x5)
def evermoreref25_Check.t33 : Tm := ⟨[(1, .ptr 0 0), (3, .p (.int .i64)), (5, .p (.int .i64))], [.box [.p (.int .i64), .p (.int .i64), .p (.slice (.slice (.pair (.int .i64) (.pair (.int .i64) .unit)))), .p (.slice (.int .i64))] 76]⟩
def evermoreref25_Check.c33 (k : Nat) (ds : List Dat) : Option (Int) := pop (.int .i64) ds fun x0 ds => pop (.int .i64) ds fun x1 ds => pop (.int .i64) ds fun x2 ds => pop (.int .i64) ds fun x3 ds => pop (.slice (.slice (.pair (.int .i64) (.pair (.int .i64) .unit)))) ds fun x4 ds => pop (.slice (.int .i64)) ds fun x5 ds => popN ds (evermoreref25_Check.l16 k x0 x1 x2 x3 x4 x5)
def evermoreref25_Check.t39 : Tm := ⟨[(1, .ptr 0 0), (3, .p (.int .i64)), (5, .p (.int .i64)), (6, .p (.int .i64))], [.box [.p (.int .i64), .p (.int .i64), .p (.slice (.slice (.pair (.int .i64) (.pair (.int .i64) .unit)))), .p (.slice (.int .i64))] 76]⟩
def evermoreref25_Check.c39 (k : Nat) (ds : List Dat) : Option (Int) := pop (.int .i64) ds fun x0 ds => pop (.int .i64) ds fun x1 ds => pop (.int .i64) ds fun x2 ds => pop (.int .i64) ds fun x3 ds => pop (.int .i64) ds fun x4 ds => pop (.slice (.slice (.pair (.int .i64) (.pair (.int .i64) .unit)))) ds fun x5 ds => pop (.slice (.int .i64)) ds fun x6 ds => popN ds (evermoreref25_Check.l19 k x0 x1 x2 x3 x4 x5 x6)
def evermoreref25_Check.tbl : List (Nat × Tm × (Nat → List Dat → Option (Int))) := [(19, evermoreref25_Check.t19, evermoreref25_Check.c19), (33, evermoreref25_Check.t33, evermoreref25_Check.c33), (39, evermoreref25_Check.t39, evermoreref25_Check.c39)]
noncomputable abbrev evermoreref25_Check.R (k : Nat) := run T (evermoreref25_Check.env k) Try.f55.ntmps (cutE 0 evermoreref25_Check.tbl k) (finE 0 evermoreref25_Check.to evermoreref25_Check.out) (fnRes Try.f55) [] 100000 true
theorem evermoreref25_Check.e19 (k : Nat) (x0 : Int) (x1 : Int) (x2 : Int) (x3 : Int) (x4 : (List (List (Int × (Int × Unit))))) (x5 : (List Int)) : evermoreref25_Check.l9 (k + 1) x0 x1 x2 x3 x4 x5 = evermoreref25_Check.R k (start (stackOf 19 evermoreref25_Check.body)) (evermoreref25_Check.t19.fill [⟨(.int .i64), x0⟩, ⟨(.int .i64), x1⟩, ⟨(.int .i64), x2⟩, ⟨(.int .i64), x3⟩, ⟨(.slice (.slice (.pair (.int .i64) (.pair (.int .i64) .unit)))), x4⟩, ⟨(.slice (.int .i64)), x5⟩]) := by kernel_rfl
theorem evermoreref25_Check.s19 : stackAt 19 evermoreref25_Check.body [] = some (stackOf 19 evermoreref25_Check.body) := by kernel_rfl
theorem evermoreref25_Check.h19 (k : Nat) (ds : List Dat) (r : Int) (h : evermoreref25_Check.c19 k ds = some r) : ∃ k', k' < k ∧ ∃ s, stackAt 19 evermoreref25_Check.body [] = some s ∧ evermoreref25_Check.R k' (start s) (evermoreref25_Check.t19.fill ds) = some r := by
  unfold evermoreref25_Check.c19 at h
  obtain ⟨x0, d0, rfl, h0⟩ := pop_some h
  obtain ⟨x1, d1, rfl, h1⟩ := pop_some h0
  obtain ⟨x2, d2, rfl, h2⟩ := pop_some h1
  obtain ⟨x3, d3, rfl, h3⟩ := pop_some h2
  obtain ⟨x4, d4, rfl, h4⟩ := pop_some h3
  obtain ⟨x5, d5, rfl, h5⟩ := pop_some h4
  obtain ⟨rfl, g⟩ := popN_some h5
  cases k with
  | zero => cases (show none = some r from g)
  | succ k => exact ⟨k, Nat.lt_succ_self k, _, evermoreref25_Check.s19, (evermoreref25_Check.e19 k x0 x1 x2 x3 x4 x5).symm.trans g⟩
theorem evermoreref25_Check.e33 (k : Nat) (x0 : Int) (x1 : Int) (x2 : Int) (x3 : Int) (x4 : (List (List (Int × (Int × Unit))))) (x5 : (List Int)) : evermoreref25_Check.l16 (k + 1) x0 x1 x2 x3 x4 x5 = evermoreref25_Check.R k (start (stackOf 33 evermoreref25_Check.body)) (evermoreref25_Check.t33.fill [⟨(.int .i64), x0⟩, ⟨(.int .i64), x1⟩, ⟨(.int .i64), x2⟩, ⟨(.int .i64), x3⟩, ⟨(.slice (.slice (.pair (.int .i64) (.pair (.int .i64) .unit)))), x4⟩, ⟨(.slice (.int .i64)), x5⟩]) := by kernel_rfl
theorem evermoreref25_Check.s33 : stackAt 33 evermoreref25_Check.body [] = some (stackOf 33 evermoreref25_Check.body) := by kernel_rfl
theorem evermoreref25_Check.h33 (k : Nat) (ds : List Dat) (r : Int) (h : evermoreref25_Check.c33 k ds = some r) : ∃ k', k' < k ∧ ∃ s, stackAt 33 evermoreref25_Check.body [] = some s ∧ evermoreref25_Check.R k' (start s) (evermoreref25_Check.t33.fill ds) = some r := by
  unfold evermoreref25_Check.c33 at h
  obtain ⟨x0, d0, rfl, h0⟩ := pop_some h
  obtain ⟨x1, d1, rfl, h1⟩ := pop_some h0
  obtain ⟨x2, d2, rfl, h2⟩ := pop_some h1
  obtain ⟨x3, d3, rfl, h3⟩ := pop_some h2
  obtain ⟨x4, d4, rfl, h4⟩ := pop_some h3
  obtain ⟨x5, d5, rfl, h5⟩ := pop_some h4
  obtain ⟨rfl, g⟩ := popN_some h5
  cases k with
  | zero => cases (show none = some r from g)
  | succ k => exact ⟨k, Nat.lt_succ_self k, _, evermoreref25_Check.s33, (evermoreref25_Check.e33 k x0 x1 x2 x3 x4 x5).symm.trans g⟩
theorem evermoreref25_Check.e39 (k : Nat) (x0 : Int) (x1 : Int) (x2 : Int) (x3 : Int) (x4 : Int) (x5 : (List (List (Int × (Int × Unit))))) (x6 : (List Int)) : evermoreref25_Check.l19 (k + 1) x0 x1 x2 x3 x4 x5 x6 = evermoreref25_Check.R k (start (stackOf 39 evermoreref25_Check.body)) (evermoreref25_Check.t39.fill [⟨(.int .i64), x0⟩, ⟨(.int .i64), x1⟩, ⟨(.int .i64), x2⟩, ⟨(.int .i64), x3⟩, ⟨(.int .i64), x4⟩, ⟨(.slice (.slice (.pair (.int .i64) (.pair (.int .i64) .unit)))), x5⟩, ⟨(.slice (.int .i64)), x6⟩]) := by kernel_rfl
theorem evermoreref25_Check.s39 : stackAt 39 evermoreref25_Check.body [] = some (stackOf 39 evermoreref25_Check.body) := by kernel_rfl
theorem evermoreref25_Check.h39 (k : Nat) (ds : List Dat) (r : Int) (h : evermoreref25_Check.c39 k ds = some r) : ∃ k', k' < k ∧ ∃ s, stackAt 39 evermoreref25_Check.body [] = some s ∧ evermoreref25_Check.R k' (start s) (evermoreref25_Check.t39.fill ds) = some r := by
  unfold evermoreref25_Check.c39 at h
  obtain ⟨x0, d0, rfl, h0⟩ := pop_some h
  obtain ⟨x1, d1, rfl, h1⟩ := pop_some h0
  obtain ⟨x2, d2, rfl, h2⟩ := pop_some h1
  obtain ⟨x3, d3, rfl, h3⟩ := pop_some h2
  obtain ⟨x4, d4, rfl, h4⟩ := pop_some h3
  obtain ⟨x5, d5, rfl, h5⟩ := pop_some h4
  obtain ⟨x6, d6, rfl, h6⟩ := pop_some h5
  obtain ⟨rfl, g⟩ := popN_some h6
  cases k with
  | zero => cases (show none = some r from g)
  | succ k => exact ⟨k, Nat.lt_succ_self k, _, evermoreref25_Check.s39, (evermoreref25_Check.e39 k x0 x1 x2 x3 x4 x5 x6).symm.trans g⟩
theorem evermoreref25_Check.e (k : Nat) (x0 : (Int × (Int × ((List (List (Int × (Int × Unit)))) × ((List Int) × Unit))))) : evermoreref25_Check.f k x0 = evermoreref25_Check.R k ([.code evermoreref25_Check.body]) (evermoreref25_Check.ti.fill [⟨(.pair (.int .i64) (.pair (.int .i64) (.pair (.slice (.slice (.pair (.int .i64) (.pair (.int .i64) .unit)))) (.pair (.slice (.int .i64)) .unit)))), x0⟩]) := by kernel_rfl
theorem evermoreref25_Check.h (k : Nat) (ds : List Dat) (r : Int) (h : evermoreref25_Check.g k ds = some r) : ∃ k', k' < k ∧ evermoreref25_Check.R k' ([.code evermoreref25_Check.body]) (evermoreref25_Check.ti.fill ds) = some r := by
  cases k with
  | zero => cases (show none = some r from h)
  | succ k =>
  replace h : evermoreref25_Check.c k ds = some r := h
  unfold evermoreref25_Check.c at h
  obtain ⟨x0, d0, rfl, h0⟩ := pop_some h
  obtain ⟨rfl, g⟩ := popN_some h0
  exact ⟨k, Nat.lt_succ_self k, (evermoreref25_Check.e k x0).symm.trans g⟩
theorem evermoreref25_Check.o (ds : List Dat) (r : Int) (h : evermoreref25_Check.out ds = some r) : ds = evermoreref25_Check.rs r := by
  unfold evermoreref25_Check.out at h
  obtain ⟨x0, d0, rfl, h0⟩ := pop_some h
  obtain ⟨rfl, g⟩ := popN_some h0
  cases g
  rfl
theorem evermoreref25_Check.fn : FnOk Try.prog 55 Try.f55 evermoreref25_Check.body Try.f55.ntmps 1 (fnRes Try.f55) :=
  fnOk_of (by kernel_rfl) (by kernel_rfl) (by kernel_rfl) (by kernel_rfl)
theorem evermoreref25_Check.con' : ∀ k ds r, evermoreref25_Check.g k ds = some r → Con Try.prog 55 1 evermoreref25_Check.ti evermoreref25_Check.to ds (evermoreref25_Check.rs r) :=
  fun_ok (T := T) T_ok mixed evermoreref25_Check.fn (env := evermoreref25_Check.env) (tbl := evermoreref25_Check.tbl) (gOut := evermoreref25_Check.out) (nin := 0) (cuts := []) (fuel := 100000) rfl (by kernel_rfl) (by kernel_rfl) (by kernel_rfl) (fun x hx => by
    simp only [evermoreref25_Check.tbl, List.mem_cons, List.not_mem_nil, or_false] at hx
    rcases hx with rfl | rfl | rfl
    · exact evermoreref25_Check.h19
    · exact evermoreref25_Check.h33
    · exact evermoreref25_Check.h39
) evermoreref25_Check.o evermoreref25_Check.h (fun k _ => by unfold evermoreref25_Check.env; exact env0_ok)
theorem evermoreref25_Check.con (k : Nat) {x0 : (Int × (Int × ((List (List (Int × (Int × Unit)))) × ((List Int) × Unit))))} (r : Int) (h : evermoreref25_Check.f k x0 = some r) : Con Try.prog 55 1 evermoreref25_Check.ti evermoreref25_Check.to [⟨(.pair (.int .i64) (.pair (.int .i64) (.pair (.slice (.slice (.pair (.int .i64) (.pair (.int .i64) .unit)))) (.pair (.slice (.int .i64)) .unit)))), x0⟩] (evermoreref25_Check.rs r) :=
  evermoreref25_Check.con' (k + 1) _ r (by show evermoreref25_Check.c k _ = some r; unfold evermoreref25_Check.c; simp only [pop_self, popN]; exact h)
end Go.Proofs.YtiiioobebeaafaaSx
