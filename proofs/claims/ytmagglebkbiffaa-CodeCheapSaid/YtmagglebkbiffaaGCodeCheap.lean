import Derived.Test.YtmagglebkbiffaaSxT
import Derived.Test.YtmagglebkbiffaaSxQ
import Derived.Test.YtmagglebkbiffaaSxV2
import Derived.Test.YtmagglebkbiffaaSxW
import Derived.KernelRfl
import Derived.Test.YtmagglebkbiffaaProg
set_option linter.unusedVariables false
set_option maxRecDepth 100000
namespace Go.Proofs.YtmagglebkbiffaaSx
open Go Go.Proofs
theorem T_check : T.check Try.prog = true := by kernel_rfl
theorem T_ok : TOk Try.prog T := TT.check_ok T_check
theorem mixed : Try.prog.follows .mixedOrders = true := by kernel_rfl
def cmp_isNaN_int_.f (k : Nat) (x0 : Int) : Option (Bool) :=
 some (!decide (x0 = x0))

noncomputable def cmp_isNaN_int_.body : Code := fnBody Try.f182
def cmp_isNaN_int_.ti : Tm := ⟨[(0, .p (.int .i64))], []⟩
def cmp_isNaN_int_.to : Tm := ⟨[(0, .p .bool)], []⟩
def cmp_isNaN_int_.rs (r : Bool) : List Dat := [⟨.bool, r⟩]
def cmp_isNaN_int_.out (ds : List Dat) : Option (Bool) := pop .bool ds fun x0 ds => popN ds (some (x0))
def cmp_isNaN_int_.c (k : Nat) (ds : List Dat) : Option (Bool) := pop (.int .i64) ds fun x0 ds => popN ds (cmp_isNaN_int_.f k x0)
def cmp_isNaN_int_.g : Nat → List Dat → Option (Bool)
 | 0, _ => none
 | k + 1, ds => cmp_isNaN_int_.c k ds
def cmp_isNaN_int_.env (k : Nat) : Nat → List SV → List Chunk → KT (Bool) → Option (Bool) := env0
def cmp_isNaN_int_.tbl : List (Nat × Tm × (Nat → List Dat → Option (Bool))) := []
noncomputable abbrev cmp_isNaN_int_.R (k : Nat) := run T (cmp_isNaN_int_.env k) Try.f182.ntmps (cutE 0 cmp_isNaN_int_.tbl k) (finE 0 cmp_isNaN_int_.to cmp_isNaN_int_.out) (fnRes Try.f182) [] 100000 true
theorem cmp_isNaN_int_.e (k : Nat) (x0 : Int) : cmp_isNaN_int_.f k x0 = cmp_isNaN_int_.R k ([.code cmp_isNaN_int_.body]) (cmp_isNaN_int_.ti.fill [⟨(.int .i64), x0⟩]) := by kernel_rfl
theorem cmp_isNaN_int_.h (k : Nat) (ds : List Dat) (r : Bool) (h : cmp_isNaN_int_.g k ds = some r) : ∃ k', k' < k ∧ cmp_isNaN_int_.R k' ([.code cmp_isNaN_int_.body]) (cmp_isNaN_int_.ti.fill ds) = some r := by
  cases k with
  | zero => cases (show none = some r from h)
  | succ k =>
  replace h : cmp_isNaN_int_.c k ds = some r := h
  unfold cmp_isNaN_int_.c at h
  obtain ⟨x0, d0, rfl, h0⟩ := pop_some h
  obtain ⟨rfl, g⟩ := popN_some h0
  exact ⟨k, Nat.lt_succ_self k, (cmp_isNaN_int_.e k x0).symm.trans g⟩
theorem cmp_isNaN_int_.o (ds : List Dat) (r : Bool) (h : cmp_isNaN_int_.out ds = some r) : ds = cmp_isNaN_int_.rs r := by
  unfold cmp_isNaN_int_.out at h
  obtain ⟨x0, d0, rfl, h0⟩ := pop_some h
  obtain ⟨rfl, g⟩ := popN_some h0
  cases g
  rfl
theorem cmp_isNaN_int_.fn : FnOk Try.prog 182 Try.f182 cmp_isNaN_int_.body Try.f182.ntmps 1 (fnRes Try.f182) :=
  fnOk_of (by kernel_rfl) (by kernel_rfl) (by kernel_rfl) (by kernel_rfl)
theorem cmp_isNaN_int_.con' : ∀ k ds r, cmp_isNaN_int_.g k ds = some r → Con Try.prog 182 1 cmp_isNaN_int_.ti cmp_isNaN_int_.to ds (cmp_isNaN_int_.rs r) :=
  fun_ok (T := T) T_ok mixed cmp_isNaN_int_.fn (env := cmp_isNaN_int_.env) (tbl := cmp_isNaN_int_.tbl) (gOut := cmp_isNaN_int_.out) (nin := 0) (cuts := []) (fuel := 100000) rfl (by kernel_rfl) (by kernel_rfl) (by kernel_rfl) (fun x hx => by simp [cmp_isNaN_int_.tbl] at hx) cmp_isNaN_int_.o cmp_isNaN_int_.h (fun k _ => by unfold cmp_isNaN_int_.env; exact env0_ok)
theorem cmp_isNaN_int_.con (k : Nat) {x0 : Int} (r : Bool) (h : cmp_isNaN_int_.f k x0 = some r) : Con Try.prog 182 1 cmp_isNaN_int_.ti cmp_isNaN_int_.to [⟨(.int .i64), x0⟩] (cmp_isNaN_int_.rs r) :=
  cmp_isNaN_int_.con' (k + 1) _ r (by show cmp_isNaN_int_.c k _ = some r; unfold cmp_isNaN_int_.c; simp only [pop_self, popN]; exact h)
def cmp_Compare_int_.f (k : Nat) (x0 : Int) (y1 : Int) : Option (Int) :=
 (cmp_isNaN_int_.f k x0).bind fun r_1 =>
  (cmp_isNaN_int_.f k y1).bind fun r_2 =>
   if r_1 = true then
    if r_2 = true then
     some (0)
    else
     some (-1)
   else
    if r_2 = true then
     some (1)
    else
     if x0 < y1 then
      some (-1)
     else
      if y1 < x0 then
       some (1)
      else
       some (0)

noncomputable def cmp_Compare_int_.body : Code := fnBody Try.f128
def cmp_Compare_int_.ti : Tm := ⟨[(0, .p (.int .i64)), (1, .p (.int .i64))], []⟩
def cmp_Compare_int_.to : Tm := ⟨[(0, .p (.int .i64))], []⟩
def cmp_Compare_int_.rs (r : Int) : List Dat := [⟨(.int .i64), r⟩]
def cmp_Compare_int_.out (ds : List Dat) : Option (Int) := pop (.int .i64) ds fun x0 ds => popN ds (some (x0))
def cmp_Compare_int_.c (k : Nat) (ds : List Dat) : Option (Int) := pop (.int .i64) ds fun x0 ds => pop (.int .i64) ds fun x1 ds => popN ds (cmp_Compare_int_.f k x0 x1)
def cmp_Compare_int_.g : Nat → List Dat → Option (Int)
 | 0, _ => none
 | k + 1, ds => cmp_Compare_int_.c k ds
def cmp_Compare_int_.env (k : Nat) : Nat → List SV → List Chunk → KT (Int) → Option (Int) := (envC 182 1 cmp_isNaN_int_.ti cmp_isNaN_int_.to (fun ds K => pop (.int .i64) ds fun x0 ds => popN ds ((cmp_isNaN_int_.f k x0).bind fun r => K (cmp_isNaN_int_.rs r))) env0)
def cmp_Compare_int_.tbl : List (Nat × Tm × (Nat → List Dat → Option (Int))) := []
noncomputable abbrev cmp_Compare_int_.R (k : Nat) := run T (cmp_Compare_int_.env k) Try.f128.ntmps (cutE 0 cmp_Compare_int_.tbl k) (finE 0 cmp_Compare_int_.to cmp_Compare_int_.out) (fnRes Try.f128) [] 100000 true
theorem cmp_Compare_int_.e (k : Nat) (x0 : Int) (x1 : Int) : cmp_Compare_int_.f k x0 x1 = cmp_Compare_int_.R k ([.code cmp_Compare_int_.body]) (cmp_Compare_int_.ti.fill [⟨(.int .i64), x0⟩, ⟨(.int .i64), x1⟩]) := by kernel_rfl
theorem cmp_Compare_int_.h (k : Nat) (ds : List Dat) (r : Int) (h : cmp_Compare_int_.g k ds = some r) : ∃ k', k' < k ∧ cmp_Compare_int_.R k' ([.code cmp_Compare_int_.body]) (cmp_Compare_int_.ti.fill ds) = some r := by
  cases k with
  | zero => cases (show none = some r from h)
  | succ k =>
  replace h : cmp_Compare_int_.c k ds = some r := h
  unfold cmp_Compare_int_.c at h
  obtain ⟨x0, d0, rfl, h0⟩ := pop_some h
  obtain ⟨x1, d1, rfl, h1⟩ := pop_some h0
  obtain ⟨rfl, g⟩ := popN_some h1
  exact ⟨k, Nat.lt_succ_self k, (cmp_Compare_int_.e k x0 x1).symm.trans g⟩
theorem cmp_Compare_int_.o (ds : List Dat) (r : Int) (h : cmp_Compare_int_.out ds = some r) : ds = cmp_Compare_int_.rs r := by
  unfold cmp_Compare_int_.out at h
  obtain ⟨x0, d0, rfl, h0⟩ := pop_some h
  obtain ⟨rfl, g⟩ := popN_some h0
  cases g
  rfl
theorem cmp_Compare_int_.fn : FnOk Try.prog 128 Try.f128 cmp_Compare_int_.body Try.f128.ntmps 2 (fnRes Try.f128) :=
  fnOk_of (by kernel_rfl) (by kernel_rfl) (by kernel_rfl) (by kernel_rfl)
theorem cmp_Compare_int_.con' : ∀ k ds r, cmp_Compare_int_.g k ds = some r → Con Try.prog 128 2 cmp_Compare_int_.ti cmp_Compare_int_.to ds (cmp_Compare_int_.rs r) :=
  fun_ok (T := T) T_ok mixed cmp_Compare_int_.fn (env := cmp_Compare_int_.env) (tbl := cmp_Compare_int_.tbl) (gOut := cmp_Compare_int_.out) (nin := 0) (cuts := []) (fuel := 100000) rfl (by kernel_rfl) (by kernel_rfl) (by kernel_rfl) (fun x hx => by simp [cmp_Compare_int_.tbl] at hx) cmp_Compare_int_.o cmp_Compare_int_.h (fun k _ => by unfold cmp_Compare_int_.env; exact (envC_ok (fun ds K r h => by
    obtain ⟨x0, d0, rfl, h0⟩ := pop_some h
    obtain ⟨rfl, g⟩ := popN_some h0
    obtain ⟨r1, h1, h2⟩ := bind_some g
    exact ⟨_, h2, cmp_isNaN_int_.con k _ h1⟩) env0_ok))
theorem cmp_Compare_int_.con (k : Nat) {x0 : Int} {x1 : Int} (r : Int) (h : cmp_Compare_int_.f k x0 x1 = some r) : Con Try.prog 128 2 cmp_Compare_int_.ti cmp_Compare_int_.to [⟨(.int .i64), x0⟩, ⟨(.int .i64), x1⟩] (cmp_Compare_int_.rs r) :=
  cmp_Compare_int_.con' (k + 1) _ r (by show cmp_Compare_int_.c k _ = some r; unfold cmp_Compare_int_.c; simp only [pop_self, popN]; exact h)
def code_Cheap_1.f (k : Nat) (x0 : (Int × (List (Int) × Unit))) (y1 : (Int × (List (Int) × Unit))) : Option (Int) :=
 (cmp_Compare_int_.f k x0.fst y1.fst).bind fun r_1 =>
  some (r_1)

noncomputable def code_Cheap_1.body : Code := fnBody Try.f127
def code_Cheap_1.ti : Tm := ⟨[(0, .p (.pair (.int .i64) (.pair (.slice (.int .i64)) .unit))), (1, .p (.pair (.int .i64) (.pair (.slice (.int .i64)) .unit)))], []⟩
def code_Cheap_1.to : Tm := ⟨[(0, .p (.int .i64))], []⟩
def code_Cheap_1.rs (r : Int) : List Dat := [⟨(.int .i64), r⟩]
def code_Cheap_1.out (ds : List Dat) : Option (Int) := pop (.int .i64) ds fun x0 ds => popN ds (some (x0))
def code_Cheap_1.c (k : Nat) (ds : List Dat) : Option (Int) := pop (.pair (.int .i64) (.pair (.slice (.int .i64)) .unit)) ds fun x0 ds => pop (.pair (.int .i64) (.pair (.slice (.int .i64)) .unit)) ds fun x1 ds => popN ds (code_Cheap_1.f k x0 x1)
def code_Cheap_1.g : Nat → List Dat → Option (Int)
 | 0, _ => none
 | k + 1, ds => code_Cheap_1.c k ds
def code_Cheap_1.env (k : Nat) : Nat → List SV → List Chunk → KT (Int) → Option (Int) := (envC 128 2 cmp_Compare_int_.ti cmp_Compare_int_.to (fun ds K => pop (.int .i64) ds fun x0 ds => pop (.int .i64) ds fun x1 ds => popN ds ((cmp_Compare_int_.f k x0 x1).bind fun r => K (cmp_Compare_int_.rs r))) env0)
def code_Cheap_1.tbl : List (Nat × Tm × (Nat → List Dat → Option (Int))) := []
noncomputable abbrev code_Cheap_1.R (k : Nat) := run T (code_Cheap_1.env k) Try.f127.ntmps (cutE 0 code_Cheap_1.tbl k) (finE 0 code_Cheap_1.to code_Cheap_1.out) (fnRes Try.f127) [] 100000 true
theorem code_Cheap_1.e (k : Nat) (x0 : (Int × ((List Int) × Unit))) (x1 : (Int × ((List Int) × Unit))) : code_Cheap_1.f k x0 x1 = code_Cheap_1.R k ([.code code_Cheap_1.body]) (code_Cheap_1.ti.fill [⟨(.pair (.int .i64) (.pair (.slice (.int .i64)) .unit)), x0⟩, ⟨(.pair (.int .i64) (.pair (.slice (.int .i64)) .unit)), x1⟩]) := by kernel_rfl
theorem code_Cheap_1.h (k : Nat) (ds : List Dat) (r : Int) (h : code_Cheap_1.g k ds = some r) : ∃ k', k' < k ∧ code_Cheap_1.R k' ([.code code_Cheap_1.body]) (code_Cheap_1.ti.fill ds) = some r := by
  cases k with
  | zero => cases (show none = some r from h)
  | succ k =>
  replace h : code_Cheap_1.c k ds = some r := h
  unfold code_Cheap_1.c at h
  obtain ⟨x0, d0, rfl, h0⟩ := pop_some h
  obtain ⟨x1, d1, rfl, h1⟩ := pop_some h0
  obtain ⟨rfl, g⟩ := popN_some h1
  exact ⟨k, Nat.lt_succ_self k, (code_Cheap_1.e k x0 x1).symm.trans g⟩
theorem code_Cheap_1.o (ds : List Dat) (r : Int) (h : code_Cheap_1.out ds = some r) : ds = code_Cheap_1.rs r := by
  unfold code_Cheap_1.out at h
  obtain ⟨x0, d0, rfl, h0⟩ := pop_some h
  obtain ⟨rfl, g⟩ := popN_some h0
  cases g
  rfl
theorem code_Cheap_1.fn : FnOk Try.prog 127 Try.f127 code_Cheap_1.body Try.f127.ntmps 2 (fnRes Try.f127) :=
  fnOk_of (by kernel_rfl) (by kernel_rfl) (by kernel_rfl) (by kernel_rfl)
theorem code_Cheap_1.con' : ∀ k ds r, code_Cheap_1.g k ds = some r → Con Try.prog 127 2 code_Cheap_1.ti code_Cheap_1.to ds (code_Cheap_1.rs r) :=
  fun_ok (T := T) T_ok mixed code_Cheap_1.fn (env := code_Cheap_1.env) (tbl := code_Cheap_1.tbl) (gOut := code_Cheap_1.out) (nin := 0) (cuts := []) (fuel := 100000) rfl (by kernel_rfl) (by kernel_rfl) (by kernel_rfl) (fun x hx => by simp [code_Cheap_1.tbl] at hx) code_Cheap_1.o code_Cheap_1.h (fun k _ => by unfold code_Cheap_1.env; exact (envC_ok (fun ds K r h => by
    obtain ⟨x0, d0, rfl, h0⟩ := pop_some h
    obtain ⟨x1, d1, rfl, h1⟩ := pop_some h0
    obtain ⟨rfl, g⟩ := popN_some h1
    obtain ⟨r1, h1, h2⟩ := bind_some g
    exact ⟨_, h2, cmp_Compare_int_.con k _ h1⟩) env0_ok))
theorem code_Cheap_1.con (k : Nat) {x0 : (Int × ((List Int) × Unit))} {x1 : (Int × ((List Int) × Unit))} (r : Int) (h : code_Cheap_1.f k x0 x1 = some r) : Con Try.prog 127 2 code_Cheap_1.ti code_Cheap_1.to [⟨(.pair (.int .i64) (.pair (.slice (.int .i64)) .unit)), x0⟩, ⟨(.pair (.int .i64) (.pair (.slice (.int .i64)) .unit)), x1⟩] (code_Cheap_1.rs r) :=
  code_Cheap_1.con' (k + 1) _ r (by show code_Cheap_1.c k _ = some r; unfold code_Cheap_1.c; simp only [pop_self, popN]; exact h)
mutual
def slices_insertionSortCmpFunc_code_tree_.l1 : Nat → Int → Int → Int → List ((Int × (List (Int) × Unit))) → Option (List (Int × List Int × Unit))
 | 0, _, _, _, _ => none
 | k + 1, a1, b2, i8, data0 =>
  if i8 < b2 then
   slices_insertionSortCmpFunc_code_tree_.l4 k a1 b2 i8 i8 data0
  else
   some (data0)
def slices_insertionSortCmpFunc_code_tree_.l4 : Nat → Int → Int → Int → Int → List ((Int × (List (Int) × Unit))) → Option (List (Int × List Int × Unit))
 | 0, _, _, _, _, _ => none
 | k + 1, a1, b2, i8, j9, data0 =>
  if a1 < j9 then
   if 0 ≤ j9 then
   if j9 < (↑data0.length : Int) then
    if 0 ≤ Go.IntKind.i64.wrap (j9 - 1) then
     if Go.IntKind.i64.wrap (j9 - 1) < (↑data0.length : Int) then
      (code_Cheap_1.f k (data0.getD j9.toNat (Int.ofNat 0, [], ())) (data0.getD (Go.IntKind.i64.wrap (j9 - 1)).toNat (Int.ofNat 0, [], ()))).bind fun r_7 =>
        if r_7 < 0 then
         if 0 ≤ Go.IntKind.i64.wrap (j9 - 1) then
         if Go.IntKind.i64.wrap (j9 - 1) < (↑data0.length : Int) then
          if 0 ≤ j9 then
           if j9 < (↑data0.length : Int) then
            if 0 ≤ j9 then
             if j9 < (↑data0.length : Int) then
              if 0 ≤ Go.IntKind.i64.wrap (j9 - 1) then
               if Go.IntKind.i64.wrap (j9 - 1) < (↑(data0.set j9.toNat (data0.getD (Go.IntKind.i64.wrap (j9 - 1)).toNat (Int.ofNat 0, [], ()))).length : Int) then
                slices_insertionSortCmpFunc_code_tree_.l4 k a1 b2 i8 (Go.IntKind.i64.wrap (j9 - 1)) ((data0.set j9.toNat (data0.getD (Go.IntKind.i64.wrap (j9 - 1)).toNat (Int.ofNat 0, [], ()))).set (Go.IntKind.i64.wrap (j9 - 1)).toNat (data0.getD j9.toNat (Int.ofNat 0, [], ())))
                else none
               else none
              else none
             else none
            else none
           else none
          else none
         else none
        else
         slices_insertionSortCmpFunc_code_tree_.l1 k a1 b2 (Go.IntKind.i64.wrap (i8 + 1)) data0
      else none
     else none
    else none
   else none
  else
   slices_insertionSortCmpFunc_code_tree_.l1 k a1 b2 (Go.IntKind.i64.wrap (i8 + 1)) data0
end
def slices_insertionSortCmpFunc_code_tree_.f (k : Nat) (a1 : Int) (b2 : Int) (data0 : List ((Int × (List (Int) × Unit)))) : Option (List (Int × List Int × Unit)) :=
 slices_insertionSortCmpFunc_code_tree_.l1 k a1 b2 (Go.IntKind.i64.wrap (a1 + 1)) data0

noncomputable def slices_insertionSortCmpFunc_code_tree_.body : Code := fnBody Try.f202
def slices_insertionSortCmpFunc_code_tree_.ti : Tm := ⟨[(0, .own 0), (1, .p (.int .i64)), (2, .p (.int .i64)), (3, .fn 127 [])], [.own (.pair (.int .i64) (.pair (.slice (.int .i64)) .unit))]⟩
def slices_insertionSortCmpFunc_code_tree_.to : Tm := ⟨[], [.own (.pair (.int .i64) (.pair (.slice (.int .i64)) .unit))]⟩
def slices_insertionSortCmpFunc_code_tree_.rs (r : (List (Int × ((List Int) × Unit)))) : List Dat := [⟨(.slice (.pair (.int .i64) (.pair (.slice (.int .i64)) .unit))), r⟩]
def slices_insertionSortCmpFunc_code_tree_.out (ds : List Dat) : Option ((List (Int × ((List Int) × Unit)))) := pop (.slice (.pair (.int .i64) (.pair (.slice (.int .i64)) .unit))) ds fun x0 ds => popN ds (some (x0))
def slices_insertionSortCmpFunc_code_tree_.c (k : Nat) (ds : List Dat) : Option ((List (Int × ((List Int) × Unit)))) := pop (.int .i64) ds fun x0 ds => pop (.int .i64) ds fun x1 ds => pop (.slice (.pair (.int .i64) (.pair (.slice (.int .i64)) .unit))) ds fun x2 ds => popN ds (slices_insertionSortCmpFunc_code_tree_.f k x0 x1 x2)
def slices_insertionSortCmpFunc_code_tree_.g : Nat → List Dat → Option ((List (Int × ((List Int) × Unit))))
 | 0, _ => none
 | k + 1, ds => slices_insertionSortCmpFunc_code_tree_.c k ds
def slices_insertionSortCmpFunc_code_tree_.env (k : Nat) : Nat → List SV → List Chunk → KT ((List (Int × ((List Int) × Unit)))) → Option ((List (Int × ((List Int) × Unit)))) := (envC 127 2 code_Cheap_1.ti code_Cheap_1.to (fun ds K => pop (.pair (.int .i64) (.pair (.slice (.int .i64)) .unit)) ds fun x0 ds => pop (.pair (.int .i64) (.pair (.slice (.int .i64)) .unit)) ds fun x1 ds => popN ds ((code_Cheap_1.f k x0 x1).bind fun r => K (code_Cheap_1.rs r))) env0)
def slices_insertionSortCmpFunc_code_tree_.t3 : Tm := ⟨[(0, .own 0), (1, .p (.int .i64)), (2, .p (.int .i64)), (3, .fn 127 []), (8, .p (.int .i64))], [.own (.pair (.int .i64) (.pair (.slice (.int .i64)) .unit))]⟩
def slices_insertionSortCmpFunc_code_tree_.c3 (k : Nat) (ds : List Dat) : Option ((List (Int × ((List Int) × Unit)))) := pop (.int .i64) ds fun x0 ds => pop (.int .i64) ds fun x1 ds => pop (.int .i64) ds fun x2 ds => pop (.slice (.pair (.int .i64) (.pair (.slice (.int .i64)) .unit))) ds fun x3 ds => popN ds (slices_insertionSortCmpFunc_code_tree_.l1 k x0 x1 x2 x3)
def slices_insertionSortCmpFunc_code_tree_.t9 : Tm := ⟨[(0, .own 0), (1, .p (.int .i64)), (2, .p (.int .i64)), (3, .fn 127 []), (8, .p (.int .i64)), (9, .p (.int .i64))], [.own (.pair (.int .i64) (.pair (.slice (.int .i64)) .unit))]⟩
def slices_insertionSortCmpFunc_code_tree_.c9 (k : Nat) (ds : List Dat) : Option ((List (Int × ((List Int) × Unit)))) := pop (.int .i64) ds fun x0 ds => pop (.int .i64) ds fun x1 ds => pop (.int .i64) ds fun x2 ds => pop (.int .i64) ds fun x3 ds => pop (.slice (.pair (.int .i64) (.pair (.slice (.int .i64)) .unit))) ds fun x4 ds => popN ds (slices_insertionSortCmpFunc_code_tree_.l4 k x0 x1 x2 x3 x4)
def slices_insertionSortCmpFunc_code_tree_.tbl : List (Nat × Tm × (Nat → List Dat → Option ((List (Int × ((List Int) × Unit)))))) := [(3, slices_insertionSortCmpFunc_code_tree_.t3, slices_insertionSortCmpFunc_code_tree_.c3), (9, slices_insertionSortCmpFunc_code_tree_.t9, slices_insertionSortCmpFunc_code_tree_.c9)]
noncomputable abbrev slices_insertionSortCmpFunc_code_tree_.R (k : Nat) := run T (slices_insertionSortCmpFunc_code_tree_.env k) Try.f202.ntmps (cutE 1 slices_insertionSortCmpFunc_code_tree_.tbl k) (finE 1 slices_insertionSortCmpFunc_code_tree_.to slices_insertionSortCmpFunc_code_tree_.out) (fnRes Try.f202) [] 100000 true
theorem slices_insertionSortCmpFunc_code_tree_.e3 (k : Nat) (x0 : Int) (x1 : Int) (x2 : Int) (x3 : (List (Int × ((List Int) × Unit)))) : slices_insertionSortCmpFunc_code_tree_.l1 (k + 1) x0 x1 x2 x3 = slices_insertionSortCmpFunc_code_tree_.R k (start (stackOf 3 slices_insertionSortCmpFunc_code_tree_.body)) (slices_insertionSortCmpFunc_code_tree_.t3.fill [⟨(.int .i64), x0⟩, ⟨(.int .i64), x1⟩, ⟨(.int .i64), x2⟩, ⟨(.slice (.pair (.int .i64) (.pair (.slice (.int .i64)) .unit))), x3⟩]) := by kernel_rfl
theorem slices_insertionSortCmpFunc_code_tree_.s3 : stackAt 3 slices_insertionSortCmpFunc_code_tree_.body [] = some (stackOf 3 slices_insertionSortCmpFunc_code_tree_.body) := by kernel_rfl
theorem slices_insertionSortCmpFunc_code_tree_.h3 (k : Nat) (ds : List Dat) (r : (List (Int × ((List Int) × Unit)))) (h : slices_insertionSortCmpFunc_code_tree_.c3 k ds = some r) : ∃ k', k' < k ∧ ∃ s, stackAt 3 slices_insertionSortCmpFunc_code_tree_.body [] = some s ∧ slices_insertionSortCmpFunc_code_tree_.R k' (start s) (slices_insertionSortCmpFunc_code_tree_.t3.fill ds) = some r := by
  unfold slices_insertionSortCmpFunc_code_tree_.c3 at h
  obtain ⟨x0, d0, rfl, h0⟩ := pop_some h
  obtain ⟨x1, d1, rfl, h1⟩ := pop_some h0
  obtain ⟨x2, d2, rfl, h2⟩ := pop_some h1
  obtain ⟨x3, d3, rfl, h3⟩ := pop_some h2
  obtain ⟨rfl, g⟩ := popN_some h3
  cases k with
  | zero => cases (show none = some r from g)
  | succ k => exact ⟨k, Nat.lt_succ_self k, _, slices_insertionSortCmpFunc_code_tree_.s3, (slices_insertionSortCmpFunc_code_tree_.e3 k x0 x1 x2 x3).symm.trans g⟩
theorem slices_insertionSortCmpFunc_code_tree_.e9 (k : Nat) (x0 : Int) (x1 : Int) (x2 : Int) (x3 : Int) (x4 : (List (Int × ((List Int) × Unit)))) : slices_insertionSortCmpFunc_code_tree_.l4 (k + 1) x0 x1 x2 x3 x4 = slices_insertionSortCmpFunc_code_tree_.R k (start (stackOf 9 slices_insertionSortCmpFunc_code_tree_.body)) (slices_insertionSortCmpFunc_code_tree_.t9.fill [⟨(.int .i64), x0⟩, ⟨(.int .i64), x1⟩, ⟨(.int .i64), x2⟩, ⟨(.int .i64), x3⟩, ⟨(.slice (.pair (.int .i64) (.pair (.slice (.int .i64)) .unit))), x4⟩]) := by kernel_rfl
theorem slices_insertionSortCmpFunc_code_tree_.s9 : stackAt 9 slices_insertionSortCmpFunc_code_tree_.body [] = some (stackOf 9 slices_insertionSortCmpFunc_code_tree_.body) := by kernel_rfl
theorem slices_insertionSortCmpFunc_code_tree_.h9 (k : Nat) (ds : List Dat) (r : (List (Int × ((List Int) × Unit)))) (h : slices_insertionSortCmpFunc_code_tree_.c9 k ds = some r) : ∃ k', k' < k ∧ ∃ s, stackAt 9 slices_insertionSortCmpFunc_code_tree_.body [] = some s ∧ slices_insertionSortCmpFunc_code_tree_.R k' (start s) (slices_insertionSortCmpFunc_code_tree_.t9.fill ds) = some r := by
  unfold slices_insertionSortCmpFunc_code_tree_.c9 at h
  obtain ⟨x0, d0, rfl, h0⟩ := pop_some h
  obtain ⟨x1, d1, rfl, h1⟩ := pop_some h0
  obtain ⟨x2, d2, rfl, h2⟩ := pop_some h1
  obtain ⟨x3, d3, rfl, h3⟩ := pop_some h2
  obtain ⟨x4, d4, rfl, h4⟩ := pop_some h3
  obtain ⟨rfl, g⟩ := popN_some h4
  cases k with
  | zero => cases (show none = some r from g)
  | succ k => exact ⟨k, Nat.lt_succ_self k, _, slices_insertionSortCmpFunc_code_tree_.s9, (slices_insertionSortCmpFunc_code_tree_.e9 k x0 x1 x2 x3 x4).symm.trans g⟩
theorem slices_insertionSortCmpFunc_code_tree_.e (k : Nat) (x0 : Int) (x1 : Int) (x2 : (List (Int × ((List Int) × Unit)))) : slices_insertionSortCmpFunc_code_tree_.f k x0 x1 x2 = slices_insertionSortCmpFunc_code_tree_.R k ([.code slices_insertionSortCmpFunc_code_tree_.body]) (slices_insertionSortCmpFunc_code_tree_.ti.fill [⟨(.int .i64), x0⟩, ⟨(.int .i64), x1⟩, ⟨(.slice (.pair (.int .i64) (.pair (.slice (.int .i64)) .unit))), x2⟩]) := by kernel_rfl
theorem slices_insertionSortCmpFunc_code_tree_.h (k : Nat) (ds : List Dat) (r : (List (Int × ((List Int) × Unit)))) (h : slices_insertionSortCmpFunc_code_tree_.g k ds = some r) : ∃ k', k' < k ∧ slices_insertionSortCmpFunc_code_tree_.R k' ([.code slices_insertionSortCmpFunc_code_tree_.body]) (slices_insertionSortCmpFunc_code_tree_.ti.fill ds) = some r := by
  cases k with
  | zero => cases (show none = some r from h)
  | succ k =>
  replace h : slices_insertionSortCmpFunc_code_tree_.c k ds = some r := h
  unfold slices_insertionSortCmpFunc_code_tree_.c at h
  obtain ⟨x0, d0, rfl, h0⟩ := pop_some h
  obtain ⟨x1, d1, rfl, h1⟩ := pop_some h0
  obtain ⟨x2, d2, rfl, h2⟩ := pop_some h1
  obtain ⟨rfl, g⟩ := popN_some h2
  exact ⟨k, Nat.lt_succ_self k, (slices_insertionSortCmpFunc_code_tree_.e k x0 x1 x2).symm.trans g⟩
theorem slices_insertionSortCmpFunc_code_tree_.o (ds : List Dat) (r : (List (Int × ((List Int) × Unit)))) (h : slices_insertionSortCmpFunc_code_tree_.out ds = some r) : ds = slices_insertionSortCmpFunc_code_tree_.rs r := by
  unfold slices_insertionSortCmpFunc_code_tree_.out at h
  obtain ⟨x0, d0, rfl, h0⟩ := pop_some h
  obtain ⟨rfl, g⟩ := popN_some h0
  cases g
  rfl
theorem slices_insertionSortCmpFunc_code_tree_.fn : FnOk Try.prog 202 Try.f202 slices_insertionSortCmpFunc_code_tree_.body Try.f202.ntmps 4 (fnRes Try.f202) :=
  fnOk_of (by kernel_rfl) (by kernel_rfl) (by kernel_rfl) (by kernel_rfl)
theorem slices_insertionSortCmpFunc_code_tree_.con' : ∀ k ds r, slices_insertionSortCmpFunc_code_tree_.g k ds = some r → Con Try.prog 202 4 slices_insertionSortCmpFunc_code_tree_.ti slices_insertionSortCmpFunc_code_tree_.to ds (slices_insertionSortCmpFunc_code_tree_.rs r) :=
  fun_ok (T := T) T_ok mixed slices_insertionSortCmpFunc_code_tree_.fn (env := slices_insertionSortCmpFunc_code_tree_.env) (tbl := slices_insertionSortCmpFunc_code_tree_.tbl) (gOut := slices_insertionSortCmpFunc_code_tree_.out) (nin := 1) (cuts := []) (fuel := 100000) rfl (by kernel_rfl) (by kernel_rfl) (by kernel_rfl) (fun x hx => by
    simp only [slices_insertionSortCmpFunc_code_tree_.tbl, List.mem_cons, List.not_mem_nil, or_false] at hx
    rcases hx with rfl | rfl
    · exact slices_insertionSortCmpFunc_code_tree_.h3
    · exact slices_insertionSortCmpFunc_code_tree_.h9
) slices_insertionSortCmpFunc_code_tree_.o slices_insertionSortCmpFunc_code_tree_.h (fun k _ => by unfold slices_insertionSortCmpFunc_code_tree_.env; exact (envC_ok (fun ds K r h => by
    obtain ⟨x0, d0, rfl, h0⟩ := pop_some h
    obtain ⟨x1, d1, rfl, h1⟩ := pop_some h0
    obtain ⟨rfl, g⟩ := popN_some h1
    obtain ⟨r1, h1, h2⟩ := bind_some g
    exact ⟨_, h2, code_Cheap_1.con k _ h1⟩) env0_ok))
theorem slices_insertionSortCmpFunc_code_tree_.con (k : Nat) {x0 : Int} {x1 : Int} {x2 : (List (Int × ((List Int) × Unit)))} (r : (List (Int × ((List Int) × Unit)))) (h : slices_insertionSortCmpFunc_code_tree_.f k x0 x1 x2 = some r) : Con Try.prog 202 4 slices_insertionSortCmpFunc_code_tree_.ti slices_insertionSortCmpFunc_code_tree_.to [⟨(.int .i64), x0⟩, ⟨(.int .i64), x1⟩, ⟨(.slice (.pair (.int .i64) (.pair (.slice (.int .i64)) .unit))), x2⟩] (slices_insertionSortCmpFunc_code_tree_.rs r) :=
  slices_insertionSortCmpFunc_code_tree_.con' (k + 1) _ r (by show slices_insertionSortCmpFunc_code_tree_.c k _ = some r; unfold slices_insertionSortCmpFunc_code_tree_.c; simp only [pop_self, popN]; exact h)
mutual
def slices_swapRangeCmpFunc_code_tree_.l1 : Nat → Int → Int → Int → Int → List ((Int × (List (Int) × Unit))) → Option (List (Int × List Int × Unit))
 | 0, _, _, _, _, _ => none
 | k + 1, a1, b2, n3, i10, data0 =>
  if i10 < n3 then
   if 0 ≤ Go.IntKind.i64.wrap (b2 + i10) then
   if Go.IntKind.i64.wrap (b2 + i10) < (↑data0.length : Int) then
    if 0 ≤ Go.IntKind.i64.wrap (a1 + i10) then
     if Go.IntKind.i64.wrap (a1 + i10) < (↑data0.length : Int) then
      if 0 ≤ Go.IntKind.i64.wrap (a1 + i10) then
       if Go.IntKind.i64.wrap (a1 + i10) < (↑data0.length : Int) then
        if 0 ≤ Go.IntKind.i64.wrap (b2 + i10) then
         if Go.IntKind.i64.wrap (b2 + i10) < (↑(data0.set (Go.IntKind.i64.wrap (a1 + i10)).toNat (data0.getD (Go.IntKind.i64.wrap (b2 + i10)).toNat (Int.ofNat 0, [], ()))).length : Int) then
          slices_swapRangeCmpFunc_code_tree_.l1 k a1 b2 n3 (Go.IntKind.i64.wrap (i10 + 1)) ((data0.set (Go.IntKind.i64.wrap (a1 + i10)).toNat (data0.getD (Go.IntKind.i64.wrap (b2 + i10)).toNat (Int.ofNat 0, [], ()))).set (Go.IntKind.i64.wrap (b2 + i10)).toNat (data0.getD (Go.IntKind.i64.wrap (a1 + i10)).toNat (Int.ofNat 0, [], ())))
          else none
         else none
        else none
       else none
      else none
     else none
    else none
   else none
  else
   some (data0)
end
def slices_swapRangeCmpFunc_code_tree_.f (k : Nat) (a1 : Int) (b2 : Int) (n3 : Int) (data0 : List ((Int × (List (Int) × Unit)))) : Option (List (Int × List Int × Unit)) :=
 slices_swapRangeCmpFunc_code_tree_.l1 k a1 b2 n3 0 data0

noncomputable def slices_swapRangeCmpFunc_code_tree_.body : Code := fnBody Try.f208
def slices_swapRangeCmpFunc_code_tree_.ti : Tm := ⟨[(0, .own 0), (1, .p (.int .i64)), (2, .p (.int .i64)), (3, .p (.int .i64)), (4, .fn 127 [])], [.own (.pair (.int .i64) (.pair (.slice (.int .i64)) .unit))]⟩
def slices_swapRangeCmpFunc_code_tree_.to : Tm := ⟨[], [.own (.pair (.int .i64) (.pair (.slice (.int .i64)) .unit))]⟩
def slices_swapRangeCmpFunc_code_tree_.rs (r : (List (Int × ((List Int) × Unit)))) : List Dat := [⟨(.slice (.pair (.int .i64) (.pair (.slice (.int .i64)) .unit))), r⟩]
def slices_swapRangeCmpFunc_code_tree_.out (ds : List Dat) : Option ((List (Int × ((List Int) × Unit)))) := pop (.slice (.pair (.int .i64) (.pair (.slice (.int .i64)) .unit))) ds fun x0 ds => popN ds (some (x0))
def slices_swapRangeCmpFunc_code_tree_.c (k : Nat) (ds : List Dat) : Option ((List (Int × ((List Int) × Unit)))) := pop (.int .i64) ds fun x0 ds => pop (.int .i64) ds fun x1 ds => pop (.int .i64) ds fun x2 ds => pop (.slice (.pair (.int .i64) (.pair (.slice (.int .i64)) .unit))) ds fun x3 ds => popN ds (slices_swapRangeCmpFunc_code_tree_.f k x0 x1 x2 x3)
def slices_swapRangeCmpFunc_code_tree_.g : Nat → List Dat → Option ((List (Int × ((List Int) × Unit))))
 | 0, _ => none
 | k + 1, ds => slices_swapRangeCmpFunc_code_tree_.c k ds
def slices_swapRangeCmpFunc_code_tree_.env (k : Nat) : Nat → List SV → List Chunk → KT ((List (Int × ((List Int) × Unit)))) → Option ((List (Int × ((List Int) × Unit)))) := env0
def slices_swapRangeCmpFunc_code_tree_.t3 : Tm := ⟨[(0, .own 0), (1, .p (.int .i64)), (2, .p (.int .i64)), (3, .p (.int .i64)), (10, .p (.int .i64))], [.own (.pair (.int .i64) (.pair (.slice (.int .i64)) .unit))]⟩
def slices_swapRangeCmpFunc_code_tree_.c3 (k : Nat) (ds : List Dat) : Option ((List (Int × ((List Int) × Unit)))) := pop (.int .i64) ds fun x0 ds => pop (.int .i64) ds fun x1 ds => pop (.int .i64) ds fun x2 ds => pop (.int .i64) ds fun x3 ds => pop (.slice (.pair (.int .i64) (.pair (.slice (.int .i64)) .unit))) ds fun x4 ds => popN ds (slices_swapRangeCmpFunc_code_tree_.l1 k x0 x1 x2 x3 x4)
def slices_swapRangeCmpFunc_code_tree_.tbl : List (Nat × Tm × (Nat → List Dat → Option ((List (Int × ((List Int) × Unit)))))) := [(3, slices_swapRangeCmpFunc_code_tree_.t3, slices_swapRangeCmpFunc_code_tree_.c3)]
noncomputable abbrev slices_swapRangeCmpFunc_code_tree_.R (k : Nat) := run T (slices_swapRangeCmpFunc_code_tree_.env k) Try.f208.ntmps (cutE 1 slices_swapRangeCmpFunc_code_tree_.tbl k) (finE 1 slices_swapRangeCmpFunc_code_tree_.to slices_swapRangeCmpFunc_code_tree_.out) (fnRes Try.f208) [] 100000 true
theorem slices_swapRangeCmpFunc_code_tree_.e3 (k : Nat) (x0 : Int) (x1 : Int) (x2 : Int) (x3 : Int) (x4 : (List (Int × ((List Int) × Unit)))) : slices_swapRangeCmpFunc_code_tree_.l1 (k + 1) x0 x1 x2 x3 x4 = slices_swapRangeCmpFunc_code_tree_.R k (start (stackOf 3 slices_swapRangeCmpFunc_code_tree_.body)) (slices_swapRangeCmpFunc_code_tree_.t3.fill [⟨(.int .i64), x0⟩, ⟨(.int .i64), x1⟩, ⟨(.int .i64), x2⟩, ⟨(.int .i64), x3⟩, ⟨(.slice (.pair (.int .i64) (.pair (.slice (.int .i64)) .unit))), x4⟩]) := by kernel_rfl
theorem slices_swapRangeCmpFunc_code_tree_.s3 : stackAt 3 slices_swapRangeCmpFunc_code_tree_.body [] = some (stackOf 3 slices_swapRangeCmpFunc_code_tree_.body) := by kernel_rfl
theorem slices_swapRangeCmpFunc_code_tree_.h3 (k : Nat) (ds : List Dat) (r : (List (Int × ((List Int) × Unit)))) (h : slices_swapRangeCmpFunc_code_tree_.c3 k ds = some r) : ∃ k', k' < k ∧ ∃ s, stackAt 3 slices_swapRangeCmpFunc_code_tree_.body [] = some s ∧ slices_swapRangeCmpFunc_code_tree_.R k' (start s) (slices_swapRangeCmpFunc_code_tree_.t3.fill ds) = some r := by
  unfold slices_swapRangeCmpFunc_code_tree_.c3 at h
  obtain ⟨x0, d0, rfl, h0⟩ := pop_some h
  obtain ⟨x1, d1, rfl, h1⟩ := pop_some h0
  obtain ⟨x2, d2, rfl, h2⟩ := pop_some h1
  obtain ⟨x3, d3, rfl, h3⟩ := pop_some h2
  obtain ⟨x4, d4, rfl, h4⟩ := pop_some h3
  obtain ⟨rfl, g⟩ := popN_some h4
  cases k with
  | zero => cases (show none = some r from g)
  | succ k => exact ⟨k, Nat.lt_succ_self k, _, slices_swapRangeCmpFunc_code_tree_.s3, (slices_swapRangeCmpFunc_code_tree_.e3 k x0 x1 x2 x3 x4).symm.trans g⟩
theorem slices_swapRangeCmpFunc_code_tree_.e (k : Nat) (x0 : Int) (x1 : Int) (x2 : Int) (x3 : (List (Int × ((List Int) × Unit)))) : slices_swapRangeCmpFunc_code_tree_.f k x0 x1 x2 x3 = slices_swapRangeCmpFunc_code_tree_.R k ([.code slices_swapRangeCmpFunc_code_tree_.body]) (slices_swapRangeCmpFunc_code_tree_.ti.fill [⟨(.int .i64), x0⟩, ⟨(.int .i64), x1⟩, ⟨(.int .i64), x2⟩, ⟨(.slice (.pair (.int .i64) (.pair (.slice (.int .i64)) .unit))), x3⟩]) := by kernel_rfl
theorem slices_swapRangeCmpFunc_code_tree_.h (k : Nat) (ds : List Dat) (r : (List (Int × ((List Int) × Unit)))) (h : slices_swapRangeCmpFunc_code_tree_.g k ds = some r) : ∃ k', k' < k ∧ slices_swapRangeCmpFunc_code_tree_.R k' ([.code slices_swapRangeCmpFunc_code_tree_.body]) (slices_swapRangeCmpFunc_code_tree_.ti.fill ds) = some r := by
  cases k with
  | zero => cases (show none = some r from h)
  | succ k =>
  replace h : slices_swapRangeCmpFunc_code_tree_.c k ds = some r := h
  unfold slices_swapRangeCmpFunc_code_tree_.c at h
  obtain ⟨x0, d0, rfl, h0⟩ := pop_some h
  obtain ⟨x1, d1, rfl, h1⟩ := pop_some h0
  obtain ⟨x2, d2, rfl, h2⟩ := pop_some h1
  obtain ⟨x3, d3, rfl, h3⟩ := pop_some h2
  obtain ⟨rfl, g⟩ := popN_some h3
  exact ⟨k, Nat.lt_succ_self k, (slices_swapRangeCmpFunc_code_tree_.e k x0 x1 x2 x3).symm.trans g⟩
theorem slices_swapRangeCmpFunc_code_tree_.o (ds : List Dat) (r : (List (Int × ((List Int) × Unit)))) (h : slices_swapRangeCmpFunc_code_tree_.out ds = some r) : ds = slices_swapRangeCmpFunc_code_tree_.rs r := by
  unfold slices_swapRangeCmpFunc_code_tree_.out at h
  obtain ⟨x0, d0, rfl, h0⟩ := pop_some h
  obtain ⟨rfl, g⟩ := popN_some h0
  cases g
  rfl
theorem slices_swapRangeCmpFunc_code_tree_.fn : FnOk Try.prog 208 Try.f208 slices_swapRangeCmpFunc_code_tree_.body Try.f208.ntmps 5 (fnRes Try.f208) :=
  fnOk_of (by kernel_rfl) (by kernel_rfl) (by kernel_rfl) (by kernel_rfl)
theorem slices_swapRangeCmpFunc_code_tree_.con' : ∀ k ds r, slices_swapRangeCmpFunc_code_tree_.g k ds = some r → Con Try.prog 208 5 slices_swapRangeCmpFunc_code_tree_.ti slices_swapRangeCmpFunc_code_tree_.to ds (slices_swapRangeCmpFunc_code_tree_.rs r) :=
  fun_ok (T := T) T_ok mixed slices_swapRangeCmpFunc_code_tree_.fn (env := slices_swapRangeCmpFunc_code_tree_.env) (tbl := slices_swapRangeCmpFunc_code_tree_.tbl) (gOut := slices_swapRangeCmpFunc_code_tree_.out) (nin := 1) (cuts := []) (fuel := 100000) rfl (by kernel_rfl) (by kernel_rfl) (by kernel_rfl) (fun x hx => by
    simp only [slices_swapRangeCmpFunc_code_tree_.tbl, List.mem_cons, List.not_mem_nil, or_false] at hx
    subst hx
    · exact slices_swapRangeCmpFunc_code_tree_.h3
) slices_swapRangeCmpFunc_code_tree_.o slices_swapRangeCmpFunc_code_tree_.h (fun k _ => by unfold slices_swapRangeCmpFunc_code_tree_.env; exact env0_ok)
theorem slices_swapRangeCmpFunc_code_tree_.con (k : Nat) {x0 : Int} {x1 : Int} {x2 : Int} {x3 : (List (Int × ((List Int) × Unit)))} (r : (List (Int × ((List Int) × Unit)))) (h : slices_swapRangeCmpFunc_code_tree_.f k x0 x1 x2 x3 = some r) : Con Try.prog 208 5 slices_swapRangeCmpFunc_code_tree_.ti slices_swapRangeCmpFunc_code_tree_.to [⟨(.int .i64), x0⟩, ⟨(.int .i64), x1⟩, ⟨(.int .i64), x2⟩, ⟨(.slice (.pair (.int .i64) (.pair (.slice (.int .i64)) .unit))), x3⟩] (slices_swapRangeCmpFunc_code_tree_.rs r) :=
  slices_swapRangeCmpFunc_code_tree_.con' (k + 1) _ r (by show slices_swapRangeCmpFunc_code_tree_.c k _ = some r; unfold slices_swapRangeCmpFunc_code_tree_.c; simp only [pop_self, popN]; exact h)
mutual
def slices_rotateCmpFunc_code_tree_.l2 : Nat → Int → Int → Int → List ((Int × (List (Int) × Unit))) → Option (List (Int × List Int × Unit))
 | 0, _, _, _, _ => none
 | k + 1, m2, i10, j11, data0 =>
  if i10 = j11 then
   (slices_swapRangeCmpFunc_code_tree_.f k (Go.IntKind.i64.wrap (m2 - i10)) m2 i10 data0).bind fun r_3 =>
    some (r_3)
  else
   if j11 < i10 then
    (slices_swapRangeCmpFunc_code_tree_.f k (Go.IntKind.i64.wrap (m2 - i10)) m2 j11 data0).bind fun r_4 =>
     slices_rotateCmpFunc_code_tree_.l2 k m2 (Go.IntKind.i64.wrap (i10 - j11)) j11 r_4
   else
    (slices_swapRangeCmpFunc_code_tree_.f k (Go.IntKind.i64.wrap (m2 - i10)) (Go.IntKind.i64.wrap (Go.IntKind.i64.wrap (m2 + j11) - i10)) i10 data0).bind fun r_4 =>
     slices_rotateCmpFunc_code_tree_.l2 k m2 i10 (Go.IntKind.i64.wrap (j11 - i10)) r_4
end
def slices_rotateCmpFunc_code_tree_.f (k : Nat) (a1 : Int) (m2 : Int) (b3 : Int) (data0 : List ((Int × (List (Int) × Unit)))) : Option (List (Int × List Int × Unit)) :=
 slices_rotateCmpFunc_code_tree_.l2 k m2 (Go.IntKind.i64.wrap (m2 - a1)) (Go.IntKind.i64.wrap (b3 - m2)) data0

noncomputable def slices_rotateCmpFunc_code_tree_.body : Code := fnBody Try.f206
def slices_rotateCmpFunc_code_tree_.ti : Tm := ⟨[(0, .own 0), (1, .p (.int .i64)), (2, .p (.int .i64)), (3, .p (.int .i64)), (4, .fn 127 [])], [.own (.pair (.int .i64) (.pair (.slice (.int .i64)) .unit))]⟩
def slices_rotateCmpFunc_code_tree_.to : Tm := ⟨[], [.own (.pair (.int .i64) (.pair (.slice (.int .i64)) .unit))]⟩
def slices_rotateCmpFunc_code_tree_.rs (r : (List (Int × ((List Int) × Unit)))) : List Dat := [⟨(.slice (.pair (.int .i64) (.pair (.slice (.int .i64)) .unit))), r⟩]
def slices_rotateCmpFunc_code_tree_.out (ds : List Dat) : Option ((List (Int × ((List Int) × Unit)))) := pop (.slice (.pair (.int .i64) (.pair (.slice (.int .i64)) .unit))) ds fun x0 ds => popN ds (some (x0))
def slices_rotateCmpFunc_code_tree_.c (k : Nat) (ds : List Dat) : Option ((List (Int × ((List Int) × Unit)))) := pop (.int .i64) ds fun x0 ds => pop (.int .i64) ds fun x1 ds => pop (.int .i64) ds fun x2 ds => pop (.slice (.pair (.int .i64) (.pair (.slice (.int .i64)) .unit))) ds fun x3 ds => popN ds (slices_rotateCmpFunc_code_tree_.f k x0 x1 x2 x3)
def slices_rotateCmpFunc_code_tree_.g : Nat → List Dat → Option ((List (Int × ((List Int) × Unit))))
 | 0, _ => none
 | k + 1, ds => slices_rotateCmpFunc_code_tree_.c k ds
def slices_rotateCmpFunc_code_tree_.env (k : Nat) : Nat → List SV → List Chunk → KT ((List (Int × ((List Int) × Unit)))) → Option ((List (Int × ((List Int) × Unit)))) := (envC 208 5 slices_swapRangeCmpFunc_code_tree_.ti slices_swapRangeCmpFunc_code_tree_.to (fun ds K => pop (.int .i64) ds fun x0 ds => pop (.int .i64) ds fun x1 ds => pop (.int .i64) ds fun x2 ds => pop (.slice (.pair (.int .i64) (.pair (.slice (.int .i64)) .unit))) ds fun x3 ds => popN ds ((slices_swapRangeCmpFunc_code_tree_.f k x0 x1 x2 x3).bind fun r => K (slices_swapRangeCmpFunc_code_tree_.rs r))) env0)
def slices_rotateCmpFunc_code_tree_.t5 : Tm := ⟨[(0, .own 0), (2, .p (.int .i64)), (4, .fn 127 []), (10, .p (.int .i64)), (11, .p (.int .i64))], [.own (.pair (.int .i64) (.pair (.slice (.int .i64)) .unit))]⟩
def slices_rotateCmpFunc_code_tree_.c5 (k : Nat) (ds : List Dat) : Option ((List (Int × ((List Int) × Unit)))) := pop (.int .i64) ds fun x0 ds => pop (.int .i64) ds fun x1 ds => pop (.int .i64) ds fun x2 ds => pop (.slice (.pair (.int .i64) (.pair (.slice (.int .i64)) .unit))) ds fun x3 ds => popN ds (slices_rotateCmpFunc_code_tree_.l2 k x0 x1 x2 x3)
def slices_rotateCmpFunc_code_tree_.tbl : List (Nat × Tm × (Nat → List Dat → Option ((List (Int × ((List Int) × Unit)))))) := [(5, slices_rotateCmpFunc_code_tree_.t5, slices_rotateCmpFunc_code_tree_.c5)]
noncomputable abbrev slices_rotateCmpFunc_code_tree_.R (k : Nat) := run T (slices_rotateCmpFunc_code_tree_.env k) Try.f206.ntmps (cutE 1 slices_rotateCmpFunc_code_tree_.tbl k) (finE 1 slices_rotateCmpFunc_code_tree_.to slices_rotateCmpFunc_code_tree_.out) (fnRes Try.f206) [] 100000 true
theorem slices_rotateCmpFunc_code_tree_.e5 (k : Nat) (x0 : Int) (x1 : Int) (x2 : Int) (x3 : (List (Int × ((List Int) × Unit)))) : slices_rotateCmpFunc_code_tree_.l2 (k + 1) x0 x1 x2 x3 = slices_rotateCmpFunc_code_tree_.R k (start (stackOf 5 slices_rotateCmpFunc_code_tree_.body)) (slices_rotateCmpFunc_code_tree_.t5.fill [⟨(.int .i64), x0⟩, ⟨(.int .i64), x1⟩, ⟨(.int .i64), x2⟩, ⟨(.slice (.pair (.int .i64) (.pair (.slice (.int .i64)) .unit))), x3⟩]) := by kernel_rfl
theorem slices_rotateCmpFunc_code_tree_.s5 : stackAt 5 slices_rotateCmpFunc_code_tree_.body [] = some (stackOf 5 slices_rotateCmpFunc_code_tree_.body) := by kernel_rfl
theorem slices_rotateCmpFunc_code_tree_.h5 (k : Nat) (ds : List Dat) (r : (List (Int × ((List Int) × Unit)))) (h : slices_rotateCmpFunc_code_tree_.c5 k ds = some r) : ∃ k', k' < k ∧ ∃ s, stackAt 5 slices_rotateCmpFunc_code_tree_.body [] = some s ∧ slices_rotateCmpFunc_code_tree_.R k' (start s) (slices_rotateCmpFunc_code_tree_.t5.fill ds) = some r := by
  unfold slices_rotateCmpFunc_code_tree_.c5 at h
  obtain ⟨x0, d0, rfl, h0⟩ := pop_some h
  obtain ⟨x1, d1, rfl, h1⟩ := pop_some h0
  obtain ⟨x2, d2, rfl, h2⟩ := pop_some h1
  obtain ⟨x3, d3, rfl, h3⟩ := pop_some h2
  obtain ⟨rfl, g⟩ := popN_some h3
  cases k with
  | zero => cases (show none = some r from g)
  | succ k => exact ⟨k, Nat.lt_succ_self k, _, slices_rotateCmpFunc_code_tree_.s5, (slices_rotateCmpFunc_code_tree_.e5 k x0 x1 x2 x3).symm.trans g⟩
theorem slices_rotateCmpFunc_code_tree_.e (k : Nat) (x0 : Int) (x1 : Int) (x2 : Int) (x3 : (List (Int × ((List Int) × Unit)))) : slices_rotateCmpFunc_code_tree_.f k x0 x1 x2 x3 = slices_rotateCmpFunc_code_tree_.R k ([.code slices_rotateCmpFunc_code_tree_.body]) (slices_rotateCmpFunc_code_tree_.ti.fill [⟨(.int .i64), x0⟩, ⟨(.int .i64), x1⟩, ⟨(.int .i64), x2⟩, ⟨(.slice (.pair (.int .i64) (.pair (.slice (.int .i64)) .unit))), x3⟩]) := by kernel_rfl
theorem slices_rotateCmpFunc_code_tree_.h (k : Nat) (ds : List Dat) (r : (List (Int × ((List Int) × Unit)))) (h : slices_rotateCmpFunc_code_tree_.g k ds = some r) : ∃ k', k' < k ∧ slices_rotateCmpFunc_code_tree_.R k' ([.code slices_rotateCmpFunc_code_tree_.body]) (slices_rotateCmpFunc_code_tree_.ti.fill ds) = some r := by
  cases k with
  | zero => cases (show none = some r from h)
  | succ k =>
  replace h : slices_rotateCmpFunc_code_tree_.c k ds = some r := h
  unfold slices_rotateCmpFunc_code_tree_.c at h
  obtain ⟨x0, d0, rfl, h0⟩ := pop_some h
  obtain ⟨x1, d1, rfl, h1⟩ := pop_some h0
  obtain ⟨x2, d2, rfl, h2⟩ := pop_some h1
  obtain ⟨x3, d3, rfl, h3⟩ := pop_some h2
  obtain ⟨rfl, g⟩ := popN_some h3
  exact ⟨k, Nat.lt_succ_self k, (slices_rotateCmpFunc_code_tree_.e k x0 x1 x2 x3).symm.trans g⟩
theorem slices_rotateCmpFunc_code_tree_.o (ds : List Dat) (r : (List (Int × ((List Int) × Unit)))) (h : slices_rotateCmpFunc_code_tree_.out ds = some r) : ds = slices_rotateCmpFunc_code_tree_.rs r := by
  unfold slices_rotateCmpFunc_code_tree_.out at h
  obtain ⟨x0, d0, rfl, h0⟩ := pop_some h
  obtain ⟨rfl, g⟩ := popN_some h0
  cases g
  rfl
theorem slices_rotateCmpFunc_code_tree_.fn : FnOk Try.prog 206 Try.f206 slices_rotateCmpFunc_code_tree_.body Try.f206.ntmps 5 (fnRes Try.f206) :=
  fnOk_of (by kernel_rfl) (by kernel_rfl) (by kernel_rfl) (by kernel_rfl)
theorem slices_rotateCmpFunc_code_tree_.con' : ∀ k ds r, slices_rotateCmpFunc_code_tree_.g k ds = some r → Con Try.prog 206 5 slices_rotateCmpFunc_code_tree_.ti slices_rotateCmpFunc_code_tree_.to ds (slices_rotateCmpFunc_code_tree_.rs r) :=
  fun_ok (T := T) T_ok mixed slices_rotateCmpFunc_code_tree_.fn (env := slices_rotateCmpFunc_code_tree_.env) (tbl := slices_rotateCmpFunc_code_tree_.tbl) (gOut := slices_rotateCmpFunc_code_tree_.out) (nin := 1) (cuts := []) (fuel := 100000) rfl (by kernel_rfl) (by kernel_rfl) (by kernel_rfl) (fun x hx => by
    simp only [slices_rotateCmpFunc_code_tree_.tbl, List.mem_cons, List.not_mem_nil, or_false] at hx
    subst hx
    · exact slices_rotateCmpFunc_code_tree_.h5
) slices_rotateCmpFunc_code_tree_.o slices_rotateCmpFunc_code_tree_.h (fun k _ => by unfold slices_rotateCmpFunc_code_tree_.env; exact (envC_ok (fun ds K r h => by
    obtain ⟨x0, d0, rfl, h0⟩ := pop_some h
    obtain ⟨x1, d1, rfl, h1⟩ := pop_some h0
    obtain ⟨x2, d2, rfl, h2⟩ := pop_some h1
    obtain ⟨x3, d3, rfl, h3⟩ := pop_some h2
    obtain ⟨rfl, g⟩ := popN_some h3
    obtain ⟨r1, h1, h2⟩ := bind_some g
    exact ⟨_, h2, slices_swapRangeCmpFunc_code_tree_.con k _ h1⟩) env0_ok))
theorem slices_rotateCmpFunc_code_tree_.con (k : Nat) {x0 : Int} {x1 : Int} {x2 : Int} {x3 : (List (Int × ((List Int) × Unit)))} (r : (List (Int × ((List Int) × Unit)))) (h : slices_rotateCmpFunc_code_tree_.f k x0 x1 x2 x3 = some r) : Con Try.prog 206 5 slices_rotateCmpFunc_code_tree_.ti slices_rotateCmpFunc_code_tree_.to [⟨(.int .i64), x0⟩, ⟨(.int .i64), x1⟩, ⟨(.int .i64), x2⟩, ⟨(.slice (.pair (.int .i64) (.pair (.slice (.int .i64)) .unit))), x3⟩] (slices_rotateCmpFunc_code_tree_.rs r) :=
  slices_rotateCmpFunc_code_tree_.con' (k + 1) _ r (by show slices_rotateCmpFunc_code_tree_.c k _ = some r; unfold slices_rotateCmpFunc_code_tree_.c; simp only [pop_self, popN]; exact h)
mutual
def slices_symMergeCmpFunc_code_tree_.l3 : Nat → Int → Int → Int → List ((Int × (List (Int) × Unit))) → Option (List (Int × List Int × Unit))
 | 0, _, _, _, _ => none
 | k + 1, a1, i10, j11, data0 =>
  if i10 < j11 then
   if 0 ≤ 1 then
   if 0 ≤ Go.IntKind.i64.wrap ((Go.IntKind.u64.wrap (Go.IntKind.i64.wrap (i10 + j11))).fdiv (2 ^ min (Int.toNat 1) Go.IntKind.u64.bits)) then
    if Go.IntKind.i64.wrap ((Go.IntKind.u64.wrap (Go.IntKind.i64.wrap (i10 + j11))).fdiv (2 ^ min (Int.toNat 1) Go.IntKind.u64.bits)) < (↑data0.length : Int) then
     if 0 ≤ a1 then
      if a1 < (↑data0.length : Int) then
       (code_Cheap_1.f k (data0.getD (Go.IntKind.i64.wrap ((Go.IntKind.u64.wrap (Go.IntKind.i64.wrap (i10 + j11))).fdiv (2 ^ min (Int.toNat 1) Go.IntKind.u64.bits))).toNat (Int.ofNat 0, [], ())) (data0.getD a1.toNat (Int.ofNat 0, [], ()))).bind fun r_8 =>
         if r_8 < 0 then
          slices_symMergeCmpFunc_code_tree_.l3 k a1 (Go.IntKind.i64.wrap (Go.IntKind.i64.wrap ((Go.IntKind.u64.wrap (Go.IntKind.i64.wrap (i10 + j11))).fdiv (2 ^ min (Int.toNat 1) Go.IntKind.u64.bits)) + 1)) j11 data0
         else
          slices_symMergeCmpFunc_code_tree_.l3 k a1 i10 (Go.IntKind.i64.wrap ((Go.IntKind.u64.wrap (Go.IntKind.i64.wrap (i10 + j11))).fdiv (2 ^ min (Int.toNat 1) Go.IntKind.u64.bits))) data0
       else none
      else none
     else none
    else none
   else none
  else
   slices_symMergeCmpFunc_code_tree_.l9 k i10 a1 data0
def slices_symMergeCmpFunc_code_tree_.l15 : Nat → Int → Int → Int → List ((Int × (List (Int) × Unit))) → Option (List (Int × List Int × Unit))
 | 0, _, _, _, _ => none
 | k + 1, m2, i14, j15, data0 =>
  if i14 < j15 then
   if 0 ≤ 1 then
   if 0 ≤ m2 then
    if m2 < (↑data0.length : Int) then
     if 0 ≤ Go.IntKind.i64.wrap ((Go.IntKind.u64.wrap (Go.IntKind.i64.wrap (i14 + j15))).fdiv (2 ^ min (Int.toNat 1) Go.IntKind.u64.bits)) then
      if Go.IntKind.i64.wrap ((Go.IntKind.u64.wrap (Go.IntKind.i64.wrap (i14 + j15))).fdiv (2 ^ min (Int.toNat 1) Go.IntKind.u64.bits)) < (↑data0.length : Int) then
       (code_Cheap_1.f k (data0.getD m2.toNat (Int.ofNat 0, [], ())) (data0.getD (Go.IntKind.i64.wrap ((Go.IntKind.u64.wrap (Go.IntKind.i64.wrap (i14 + j15))).fdiv (2 ^ min (Int.toNat 1) Go.IntKind.u64.bits))).toNat (Int.ofNat 0, [], ()))).bind fun r_8 =>
         if r_8 < 0 then
          slices_symMergeCmpFunc_code_tree_.l15 k m2 i14 (Go.IntKind.i64.wrap ((Go.IntKind.u64.wrap (Go.IntKind.i64.wrap (i14 + j15))).fdiv (2 ^ min (Int.toNat 1) Go.IntKind.u64.bits))) data0
         else
          slices_symMergeCmpFunc_code_tree_.l15 k m2 (Go.IntKind.i64.wrap (Go.IntKind.i64.wrap ((Go.IntKind.u64.wrap (Go.IntKind.i64.wrap (i14 + j15))).fdiv (2 ^ min (Int.toNat 1) Go.IntKind.u64.bits)) + 1)) j15 data0
       else none
      else none
     else none
    else none
   else none
  else
   slices_symMergeCmpFunc_code_tree_.l21 k i14 m2 data0
def slices_symMergeCmpFunc_code_tree_.j32 : Nat → Int → Int → Int → Int → Int → Int → Int → List ((Int × (List (Int) × Unit))) → Option (List (Int × List Int × Unit))
 | 0, _, _, _, _, _, _, _, _ => none
 | k + 1, a1, m2, b3, mid18, n19, start20, r21, data0 =>
  slices_symMergeCmpFunc_code_tree_.l33 k a1 m2 b3 mid18 n19 start20 r21 (Go.IntKind.i64.wrap (n19 - 1)) data0
def slices_symMergeCmpFunc_code_tree_.l9 : Nat → Int → Int → List ((Int × (List (Int) × Unit))) → Option (List (Int × List Int × Unit))
 | 0, _, _, _ => none
 | k + 1, i10, k13, data0 =>
  if k13 < Go.IntKind.i64.wrap (i10 - 1) then
   if 0 ≤ Go.IntKind.i64.wrap (k13 + 1) then
   if Go.IntKind.i64.wrap (k13 + 1) < (↑data0.length : Int) then
    if 0 ≤ k13 then
     if k13 < (↑data0.length : Int) then
      if 0 ≤ k13 then
       if k13 < (↑data0.length : Int) then
        if 0 ≤ Go.IntKind.i64.wrap (k13 + 1) then
         if Go.IntKind.i64.wrap (k13 + 1) < (↑(data0.set k13.toNat (data0.getD (Go.IntKind.i64.wrap (k13 + 1)).toNat (Int.ofNat 0, [], ()))).length : Int) then
          slices_symMergeCmpFunc_code_tree_.l9 k i10 (Go.IntKind.i64.wrap (k13 + 1)) ((data0.set k13.toNat (data0.getD (Go.IntKind.i64.wrap (k13 + 1)).toNat (Int.ofNat 0, [], ()))).set (Go.IntKind.i64.wrap (k13 + 1)).toNat (data0.getD k13.toNat (Int.ofNat 0, [], ())))
          else none
         else none
        else none
       else none
      else none
     else none
    else none
   else none
  else
   some (data0)
def slices_symMergeCmpFunc_code_tree_.l21 : Nat → Int → Int → List ((Int × (List (Int) × Unit))) → Option (List (Int × List Int × Unit))
 | 0, _, _, _ => none
 | k + 1, i14, k17, data0 =>
  if i14 < k17 then
   if 0 ≤ Go.IntKind.i64.wrap (k17 - 1) then
   if Go.IntKind.i64.wrap (k17 - 1) < (↑data0.length : Int) then
    if 0 ≤ k17 then
     if k17 < (↑data0.length : Int) then
      if 0 ≤ k17 then
       if k17 < (↑data0.length : Int) then
        if 0 ≤ Go.IntKind.i64.wrap (k17 - 1) then
         if Go.IntKind.i64.wrap (k17 - 1) < (↑(data0.set k17.toNat (data0.getD (Go.IntKind.i64.wrap (k17 - 1)).toNat (Int.ofNat 0, [], ()))).length : Int) then
          slices_symMergeCmpFunc_code_tree_.l21 k i14 (Go.IntKind.i64.wrap (k17 - 1)) ((data0.set k17.toNat (data0.getD (Go.IntKind.i64.wrap (k17 - 1)).toNat (Int.ofNat 0, [], ()))).set (Go.IntKind.i64.wrap (k17 - 1)).toNat (data0.getD k17.toNat (Int.ofNat 0, [], ())))
          else none
         else none
        else none
       else none
      else none
     else none
    else none
   else none
  else
   some (data0)
def slices_symMergeCmpFunc_code_tree_.l33 : Nat → Int → Int → Int → Int → Int → Int → Int → Int → List ((Int × (List (Int) × Unit))) → Option (List (Int × List Int × Unit))
 | 0, _, _, _, _, _, _, _, _, _ => none
 | k + 1, a1, m2, b3, mid18, n19, start20, r21, p22, data0 =>
  if start20 < r21 then
   if 0 ≤ 1 then
   if 0 ≤ Go.IntKind.i64.wrap (p22 - Go.IntKind.i64.wrap ((Go.IntKind.u64.wrap (Go.IntKind.i64.wrap (start20 + r21))).fdiv (2 ^ min (Int.toNat 1) Go.IntKind.u64.bits))) then
    if Go.IntKind.i64.wrap (p22 - Go.IntKind.i64.wrap ((Go.IntKind.u64.wrap (Go.IntKind.i64.wrap (start20 + r21))).fdiv (2 ^ min (Int.toNat 1) Go.IntKind.u64.bits))) < (↑data0.length : Int) then
     if 0 ≤ Go.IntKind.i64.wrap ((Go.IntKind.u64.wrap (Go.IntKind.i64.wrap (start20 + r21))).fdiv (2 ^ min (Int.toNat 1) Go.IntKind.u64.bits)) then
      if Go.IntKind.i64.wrap ((Go.IntKind.u64.wrap (Go.IntKind.i64.wrap (start20 + r21))).fdiv (2 ^ min (Int.toNat 1) Go.IntKind.u64.bits)) < (↑data0.length : Int) then
       (code_Cheap_1.f k (data0.getD (Go.IntKind.i64.wrap (p22 - Go.IntKind.i64.wrap ((Go.IntKind.u64.wrap (Go.IntKind.i64.wrap (start20 + r21))).fdiv (2 ^ min (Int.toNat 1) Go.IntKind.u64.bits)))).toNat (Int.ofNat 0, [], ())) (data0.getD (Go.IntKind.i64.wrap ((Go.IntKind.u64.wrap (Go.IntKind.i64.wrap (start20 + r21))).fdiv (2 ^ min (Int.toNat 1) Go.IntKind.u64.bits))).toNat (Int.ofNat 0, [], ()))).bind fun r_8 =>
         if r_8 < 0 then
          slices_symMergeCmpFunc_code_tree_.l33 k a1 m2 b3 mid18 n19 start20 (Go.IntKind.i64.wrap ((Go.IntKind.u64.wrap (Go.IntKind.i64.wrap (start20 + r21))).fdiv (2 ^ min (Int.toNat 1) Go.IntKind.u64.bits))) p22 data0
         else
          slices_symMergeCmpFunc_code_tree_.l33 k a1 m2 b3 mid18 n19 (Go.IntKind.i64.wrap (Go.IntKind.i64.wrap ((Go.IntKind.u64.wrap (Go.IntKind.i64.wrap (start20 + r21))).fdiv (2 ^ min (Int.toNat 1) Go.IntKind.u64.bits)) + 1)) r21 p22 data0
       else none
      else none
     else none
    else none
   else none
  else
   if start20 < m2 then
    if m2 < Go.IntKind.i64.wrap (n19 - start20) then
     (slices_rotateCmpFunc_code_tree_.f k start20 m2 (Go.IntKind.i64.wrap (n19 - start20)) data0).bind fun r_5 =>
      slices_symMergeCmpFunc_code_tree_.j41 k a1 b3 mid18 start20 (Go.IntKind.i64.wrap (n19 - start20)) r_5
    else
     slices_symMergeCmpFunc_code_tree_.j41 k a1 b3 mid18 start20 (Go.IntKind.i64.wrap (n19 - start20)) data0
   else
    slices_symMergeCmpFunc_code_tree_.j41 k a1 b3 mid18 start20 (Go.IntKind.i64.wrap (n19 - start20)) data0
def slices_symMergeCmpFunc_code_tree_.j41 : Nat → Int → Int → Int → Int → Int → List ((Int × (List (Int) × Unit))) → Option (List (Int × List Int × Unit))
 | 0, _, _, _, _, _, _ => none
 | k + 1, a1, b3, mid18, start20, end24, data0 =>
  if a1 < start20 then
   if start20 < mid18 then
    (slices_symMergeCmpFunc_code_tree_.f k a1 start20 mid18 data0).bind fun r_4 =>
     slices_symMergeCmpFunc_code_tree_.j43 k b3 mid18 end24 r_4
   else
    slices_symMergeCmpFunc_code_tree_.j43 k b3 mid18 end24 data0
  else
   slices_symMergeCmpFunc_code_tree_.j43 k b3 mid18 end24 data0
def slices_symMergeCmpFunc_code_tree_.j43 : Nat → Int → Int → Int → List ((Int × (List (Int) × Unit))) → Option (List (Int × List Int × Unit))
 | 0, _, _, _, _ => none
 | k + 1, b3, mid18, end24, data0 =>
  if mid18 < end24 then
   if end24 < b3 then
    (slices_symMergeCmpFunc_code_tree_.f k mid18 end24 b3 data0).bind fun r_4 =>
     some (r_4)
   else
    some (data0)
  else
   some (data0)
def slices_symMergeCmpFunc_code_tree_.f : Nat → Int → Int → Int → (List ((Int × (List (Int) × Unit)))) → Option (List (Int × List Int × Unit))
 | 0, _, _, _, _ => none
 | k + 1, a1, m2, b3, data0 =>
 if Go.IntKind.i64.wrap (m2 - a1) = 1 then
  slices_symMergeCmpFunc_code_tree_.l3 k a1 m2 b3 data0
 else
  if Go.IntKind.i64.wrap (b3 - m2) = 1 then
   slices_symMergeCmpFunc_code_tree_.l15 k m2 a1 m2 data0
  else
   if 0 ≤ 1 then
   if Go.IntKind.i64.wrap ((Go.IntKind.u64.wrap (Go.IntKind.i64.wrap (a1 + b3))).fdiv (2 ^ min (Int.toNat 1) Go.IntKind.u64.bits)) < m2 then
     slices_symMergeCmpFunc_code_tree_.j32 k a1 m2 b3 (Go.IntKind.i64.wrap ((Go.IntKind.u64.wrap (Go.IntKind.i64.wrap (a1 + b3))).fdiv (2 ^ min (Int.toNat 1) Go.IntKind.u64.bits))) (Go.IntKind.i64.wrap (Go.IntKind.i64.wrap ((Go.IntKind.u64.wrap (Go.IntKind.i64.wrap (a1 + b3))).fdiv (2 ^ min (Int.toNat 1) Go.IntKind.u64.bits)) + m2)) (Go.IntKind.i64.wrap (Go.IntKind.i64.wrap (Go.IntKind.i64.wrap ((Go.IntKind.u64.wrap (Go.IntKind.i64.wrap (a1 + b3))).fdiv (2 ^ min (Int.toNat 1) Go.IntKind.u64.bits)) + m2) - b3)) (Go.IntKind.i64.wrap ((Go.IntKind.u64.wrap (Go.IntKind.i64.wrap (a1 + b3))).fdiv (2 ^ min (Int.toNat 1) Go.IntKind.u64.bits))) data0
    else
     slices_symMergeCmpFunc_code_tree_.j32 k a1 m2 b3 (Go.IntKind.i64.wrap ((Go.IntKind.u64.wrap (Go.IntKind.i64.wrap (a1 + b3))).fdiv (2 ^ min (Int.toNat 1) Go.IntKind.u64.bits))) (Go.IntKind.i64.wrap (Go.IntKind.i64.wrap ((Go.IntKind.u64.wrap (Go.IntKind.i64.wrap (a1 + b3))).fdiv (2 ^ min (Int.toNat 1) Go.IntKind.u64.bits)) + m2)) a1 m2 data0
   else none
end

noncomputable def slices_symMergeCmpFunc_code_tree_.body : Code := fnBody Try.f203
def slices_symMergeCmpFunc_code_tree_.ti : Tm := ⟨[(0, .own 0), (1, .p (.int .i64)), (2, .p (.int .i64)), (3, .p (.int .i64)), (4, .fn 127 [])], [.own (.pair (.int .i64) (.pair (.slice (.int .i64)) .unit))]⟩
def slices_symMergeCmpFunc_code_tree_.to : Tm := ⟨[], [.own (.pair (.int .i64) (.pair (.slice (.int .i64)) .unit))]⟩
def slices_symMergeCmpFunc_code_tree_.rs (r : (List (Int × ((List Int) × Unit)))) : List Dat := [⟨(.slice (.pair (.int .i64) (.pair (.slice (.int .i64)) .unit))), r⟩]
def slices_symMergeCmpFunc_code_tree_.out (ds : List Dat) : Option ((List (Int × ((List Int) × Unit)))) := pop (.slice (.pair (.int .i64) (.pair (.slice (.int .i64)) .unit))) ds fun x0 ds => popN ds (some (x0))
def slices_symMergeCmpFunc_code_tree_.c (k : Nat) (ds : List Dat) : Option ((List (Int × ((List Int) × Unit)))) := pop (.int .i64) ds fun x0 ds => pop (.int .i64) ds fun x1 ds => pop (.int .i64) ds fun x2 ds => pop (.slice (.pair (.int .i64) (.pair (.slice (.int .i64)) .unit))) ds fun x3 ds => popN ds (slices_symMergeCmpFunc_code_tree_.f k x0 x1 x2 x3)
def slices_symMergeCmpFunc_code_tree_.g (k : Nat) (ds : List Dat) : Option ((List (Int × ((List Int) × Unit)))) := slices_symMergeCmpFunc_code_tree_.c k ds
def slices_symMergeCmpFunc_code_tree_.env (k : Nat) : Nat → List SV → List Chunk → KT ((List (Int × ((List Int) × Unit)))) → Option ((List (Int × ((List Int) × Unit)))) := (envC 203 5 slices_symMergeCmpFunc_code_tree_.ti slices_symMergeCmpFunc_code_tree_.to (fun ds K => pop (.int .i64) ds fun x0 ds => pop (.int .i64) ds fun x1 ds => pop (.int .i64) ds fun x2 ds => pop (.slice (.pair (.int .i64) (.pair (.slice (.int .i64)) .unit))) ds fun x3 ds => popN ds ((slices_symMergeCmpFunc_code_tree_.f k x0 x1 x2 x3).bind fun r => K (slices_symMergeCmpFunc_code_tree_.rs r))) (envC 127 2 code_Cheap_1.ti code_Cheap_1.to (fun ds K => pop (.pair (.int .i64) (.pair (.slice (.int .i64)) .unit)) ds fun x0 ds => pop (.pair (.int .i64) (.pair (.slice (.int .i64)) .unit)) ds fun x1 ds => popN ds ((code_Cheap_1.f k x0 x1).bind fun r => K (code_Cheap_1.rs r))) (envC 206 5 slices_rotateCmpFunc_code_tree_.ti slices_rotateCmpFunc_code_tree_.to (fun ds K => pop (.int .i64) ds fun x0 ds => pop (.int .i64) ds fun x1 ds => pop (.int .i64) ds fun x2 ds => pop (.slice (.pair (.int .i64) (.pair (.slice (.int .i64)) .unit))) ds fun x3 ds => popN ds ((slices_rotateCmpFunc_code_tree_.f k x0 x1 x2 x3).bind fun r => K (slices_rotateCmpFunc_code_tree_.rs r))) env0)))
def slices_symMergeCmpFunc_code_tree_.t7 : Tm := ⟨[(0, .own 0), (1, .p (.int .i64)), (4, .fn 127 []), (10, .p (.int .i64)), (11, .p (.int .i64))], [.own (.pair (.int .i64) (.pair (.slice (.int .i64)) .unit))]⟩
def slices_symMergeCmpFunc_code_tree_.c7 (k : Nat) (ds : List Dat) : Option ((List (Int × ((List Int) × Unit)))) := pop (.int .i64) ds fun x0 ds => pop (.int .i64) ds fun x1 ds => pop (.int .i64) ds fun x2 ds => pop (.slice (.pair (.int .i64) (.pair (.slice (.int .i64)) .unit))) ds fun x3 ds => popN ds (slices_symMergeCmpFunc_code_tree_.l3 k x0 x1 x2 x3)
def slices_symMergeCmpFunc_code_tree_.t31 : Tm := ⟨[(0, .own 0), (2, .p (.int .i64)), (4, .fn 127 []), (14, .p (.int .i64)), (15, .p (.int .i64))], [.own (.pair (.int .i64) (.pair (.slice (.int .i64)) .unit))]⟩
def slices_symMergeCmpFunc_code_tree_.c31 (k : Nat) (ds : List Dat) : Option ((List (Int × ((List Int) × Unit)))) := pop (.int .i64) ds fun x0 ds => pop (.int .i64) ds fun x1 ds => pop (.int .i64) ds fun x2 ds => pop (.slice (.pair (.int .i64) (.pair (.slice (.int .i64)) .unit))) ds fun x3 ds => popN ds (slices_symMergeCmpFunc_code_tree_.l15 k x0 x1 x2 x3)
def slices_symMergeCmpFunc_code_tree_.t64 : Tm := ⟨[(0, .own 0), (1, .p (.int .i64)), (2, .p (.int .i64)), (3, .p (.int .i64)), (4, .fn 127 []), (18, .p (.int .i64)), (19, .p (.int .i64)), (20, .p (.int .i64)), (21, .p (.int .i64))], [.own (.pair (.int .i64) (.pair (.slice (.int .i64)) .unit))]⟩
def slices_symMergeCmpFunc_code_tree_.c64 (k : Nat) (ds : List Dat) : Option ((List (Int × ((List Int) × Unit)))) := pop (.int .i64) ds fun x0 ds => pop (.int .i64) ds fun x1 ds => pop (.int .i64) ds fun x2 ds => pop (.int .i64) ds fun x3 ds => pop (.int .i64) ds fun x4 ds => pop (.int .i64) ds fun x5 ds => pop (.int .i64) ds fun x6 ds => pop (.slice (.pair (.int .i64) (.pair (.slice (.int .i64)) .unit))) ds fun x7 ds => popN ds (slices_symMergeCmpFunc_code_tree_.j32 k x0 x1 x2 x3 x4 x5 x6 x7)
def slices_symMergeCmpFunc_code_tree_.t19 : Tm := ⟨[(0, .own 0), (10, .p (.int .i64)), (13, .p (.int .i64))], [.own (.pair (.int .i64) (.pair (.slice (.int .i64)) .unit))]⟩
def slices_symMergeCmpFunc_code_tree_.c19 (k : Nat) (ds : List Dat) : Option ((List (Int × ((List Int) × Unit)))) := pop (.int .i64) ds fun x0 ds => pop (.int .i64) ds fun x1 ds => pop (.slice (.pair (.int .i64) (.pair (.slice (.int .i64)) .unit))) ds fun x2 ds => popN ds (slices_symMergeCmpFunc_code_tree_.l9 k x0 x1 x2)
def slices_symMergeCmpFunc_code_tree_.t43 : Tm := ⟨[(0, .own 0), (14, .p (.int .i64)), (17, .p (.int .i64))], [.own (.pair (.int .i64) (.pair (.slice (.int .i64)) .unit))]⟩
def slices_symMergeCmpFunc_code_tree_.c43 (k : Nat) (ds : List Dat) : Option ((List (Int × ((List Int) × Unit)))) := pop (.int .i64) ds fun x0 ds => pop (.int .i64) ds fun x1 ds => pop (.slice (.pair (.int .i64) (.pair (.slice (.int .i64)) .unit))) ds fun x2 ds => popN ds (slices_symMergeCmpFunc_code_tree_.l21 k x0 x1 x2)
def slices_symMergeCmpFunc_code_tree_.t67 : Tm := ⟨[(0, .own 0), (1, .p (.int .i64)), (2, .p (.int .i64)), (3, .p (.int .i64)), (4, .fn 127 []), (18, .p (.int .i64)), (19, .p (.int .i64)), (20, .p (.int .i64)), (21, .p (.int .i64)), (22, .p (.int .i64))], [.own (.pair (.int .i64) (.pair (.slice (.int .i64)) .unit))]⟩
def slices_symMergeCmpFunc_code_tree_.c67 (k : Nat) (ds : List Dat) : Option ((List (Int × ((List Int) × Unit)))) := pop (.int .i64) ds fun x0 ds => pop (.int .i64) ds fun x1 ds => pop (.int .i64) ds fun x2 ds => pop (.int .i64) ds fun x3 ds => pop (.int .i64) ds fun x4 ds => pop (.int .i64) ds fun x5 ds => pop (.int .i64) ds fun x6 ds => pop (.int .i64) ds fun x7 ds => pop (.slice (.pair (.int .i64) (.pair (.slice (.int .i64)) .unit))) ds fun x8 ds => popN ds (slices_symMergeCmpFunc_code_tree_.l33 k x0 x1 x2 x3 x4 x5 x6 x7 x8)
def slices_symMergeCmpFunc_code_tree_.t82 : Tm := ⟨[(0, .own 0), (1, .p (.int .i64)), (3, .p (.int .i64)), (4, .fn 127 []), (18, .p (.int .i64)), (20, .p (.int .i64)), (24, .p (.int .i64))], [.own (.pair (.int .i64) (.pair (.slice (.int .i64)) .unit))]⟩
def slices_symMergeCmpFunc_code_tree_.c82 (k : Nat) (ds : List Dat) : Option ((List (Int × ((List Int) × Unit)))) := pop (.int .i64) ds fun x0 ds => pop (.int .i64) ds fun x1 ds => pop (.int .i64) ds fun x2 ds => pop (.int .i64) ds fun x3 ds => pop (.int .i64) ds fun x4 ds => pop (.slice (.pair (.int .i64) (.pair (.slice (.int .i64)) .unit))) ds fun x5 ds => popN ds (slices_symMergeCmpFunc_code_tree_.j41 k x0 x1 x2 x3 x4 x5)
def slices_symMergeCmpFunc_code_tree_.t86 : Tm := ⟨[(0, .own 0), (3, .p (.int .i64)), (4, .fn 127 []), (18, .p (.int .i64)), (24, .p (.int .i64))], [.own (.pair (.int .i64) (.pair (.slice (.int .i64)) .unit))]⟩
def slices_symMergeCmpFunc_code_tree_.c86 (k : Nat) (ds : List Dat) : Option ((List (Int × ((List Int) × Unit)))) := pop (.int .i64) ds fun x0 ds => pop (.int .i64) ds fun x1 ds => pop (.int .i64) ds fun x2 ds => pop (.slice (.pair (.int .i64) (.pair (.slice (.int .i64)) .unit))) ds fun x3 ds => popN ds (slices_symMergeCmpFunc_code_tree_.j43 k x0 x1 x2 x3)
def slices_symMergeCmpFunc_code_tree_.tbl : List (Nat × Tm × (Nat → List Dat → Option ((List (Int × ((List Int) × Unit)))))) := [(7, slices_symMergeCmpFunc_code_tree_.t7, slices_symMergeCmpFunc_code_tree_.c7), (31, slices_symMergeCmpFunc_code_tree_.t31, slices_symMergeCmpFunc_code_tree_.c31), (64, slices_symMergeCmpFunc_code_tree_.t64, slices_symMergeCmpFunc_code_tree_.c64), (19, slices_symMergeCmpFunc_code_tree_.t19, slices_symMergeCmpFunc_code_tree_.c19), (43, slices_symMergeCmpFunc_code_tree_.t43, slices_symMergeCmpFunc_code_tree_.c43), (67, slices_symMergeCmpFunc_code_tree_.t67, slices_symMergeCmpFunc_code_tree_.c67), (82, slices_symMergeCmpFunc_code_tree_.t82, slices_symMergeCmpFunc_code_tree_.c82), (86, slices_symMergeCmpFunc_code_tree_.t86, slices_symMergeCmpFunc_code_tree_.c86)]
noncomputable abbrev slices_symMergeCmpFunc_code_tree_.R (k : Nat) := run T (slices_symMergeCmpFunc_code_tree_.env k) Try.f203.ntmps (cutE 1 slices_symMergeCmpFunc_code_tree_.tbl k) (finE 1 slices_symMergeCmpFunc_code_tree_.to slices_symMergeCmpFunc_code_tree_.out) (fnRes Try.f203) [43, 41, 32] 100000 true
theorem slices_symMergeCmpFunc_code_tree_.e7 (k : Nat) (x0 : Int) (x1 : Int) (x2 : Int) (x3 : (List (Int × ((List Int) × Unit)))) : slices_symMergeCmpFunc_code_tree_.l3 (k + 1) x0 x1 x2 x3 = slices_symMergeCmpFunc_code_tree_.R k (start (stackOf 7 slices_symMergeCmpFunc_code_tree_.body)) (slices_symMergeCmpFunc_code_tree_.t7.fill [⟨(.int .i64), x0⟩, ⟨(.int .i64), x1⟩, ⟨(.int .i64), x2⟩, ⟨(.slice (.pair (.int .i64) (.pair (.slice (.int .i64)) .unit))), x3⟩]) := by kernel_rfl
theorem slices_symMergeCmpFunc_code_tree_.s7 : stackAt 7 slices_symMergeCmpFunc_code_tree_.body [] = some (stackOf 7 slices_symMergeCmpFunc_code_tree_.body) := by kernel_rfl
theorem slices_symMergeCmpFunc_code_tree_.h7 (k : Nat) (ds : List Dat) (r : (List (Int × ((List Int) × Unit)))) (h : slices_symMergeCmpFunc_code_tree_.c7 k ds = some r) : ∃ k', k' < k ∧ ∃ s, stackAt 7 slices_symMergeCmpFunc_code_tree_.body [] = some s ∧ slices_symMergeCmpFunc_code_tree_.R k' (start s) (slices_symMergeCmpFunc_code_tree_.t7.fill ds) = some r := by
  unfold slices_symMergeCmpFunc_code_tree_.c7 at h
  obtain ⟨x0, d0, rfl, h0⟩ := pop_some h
  obtain ⟨x1, d1, rfl, h1⟩ := pop_some h0
  obtain ⟨x2, d2, rfl, h2⟩ := pop_some h1
  obtain ⟨x3, d3, rfl, h3⟩ := pop_some h2
  obtain ⟨rfl, g⟩ := popN_some h3
  cases k with
  | zero => cases (show none = some r from g)
  | succ k => exact ⟨k, Nat.lt_succ_self k, _, slices_symMergeCmpFunc_code_tree_.s7, (slices_symMergeCmpFunc_code_tree_.e7 k x0 x1 x2 x3).symm.trans g⟩
theorem slices_symMergeCmpFunc_code_tree_.e31 (k : Nat) (x0 : Int) (x1 : Int) (x2 : Int) (x3 : (List (Int × ((List Int) × Unit)))) : slices_symMergeCmpFunc_code_tree_.l15 (k + 1) x0 x1 x2 x3 = slices_symMergeCmpFunc_code_tree_.R k (start (stackOf 31 slices_symMergeCmpFunc_code_tree_.body)) (slices_symMergeCmpFunc_code_tree_.t31.fill [⟨(.int .i64), x0⟩, ⟨(.int .i64), x1⟩, ⟨(.int .i64), x2⟩, ⟨(.slice (.pair (.int .i64) (.pair (.slice (.int .i64)) .unit))), x3⟩]) := by kernel_rfl
theorem slices_symMergeCmpFunc_code_tree_.s31 : stackAt 31 slices_symMergeCmpFunc_code_tree_.body [] = some (stackOf 31 slices_symMergeCmpFunc_code_tree_.body) := by kernel_rfl
theorem slices_symMergeCmpFunc_code_tree_.h31 (k : Nat) (ds : List Dat) (r : (List (Int × ((List Int) × Unit)))) (h : slices_symMergeCmpFunc_code_tree_.c31 k ds = some r) : ∃ k', k' < k ∧ ∃ s, stackAt 31 slices_symMergeCmpFunc_code_tree_.body [] = some s ∧ slices_symMergeCmpFunc_code_tree_.R k' (start s) (slices_symMergeCmpFunc_code_tree_.t31.fill ds) = some r := by
  unfold slices_symMergeCmpFunc_code_tree_.c31 at h
  obtain ⟨x0, d0, rfl, h0⟩ := pop_some h
  obtain ⟨x1, d1, rfl, h1⟩ := pop_some h0
  obtain ⟨x2, d2, rfl, h2⟩ := pop_some h1
  obtain ⟨x3, d3, rfl, h3⟩ := pop_some h2
  obtain ⟨rfl, g⟩ := popN_some h3
  cases k with
  | zero => cases (show none = some r from g)
  | succ k => exact ⟨k, Nat.lt_succ_self k, _, slices_symMergeCmpFunc_code_tree_.s31, (slices_symMergeCmpFunc_code_tree_.e31 k x0 x1 x2 x3).symm.trans g⟩
theorem slices_symMergeCmpFunc_code_tree_.e64 (k : Nat) (x0 : Int) (x1 : Int) (x2 : Int) (x3 : Int) (x4 : Int) (x5 : Int) (x6 : Int) (x7 : (List (Int × ((List Int) × Unit)))) : slices_symMergeCmpFunc_code_tree_.j32 (k + 1) x0 x1 x2 x3 x4 x5 x6 x7 = slices_symMergeCmpFunc_code_tree_.R k (start (stackOf 64 slices_symMergeCmpFunc_code_tree_.body)) (slices_symMergeCmpFunc_code_tree_.t64.fill [⟨(.int .i64), x0⟩, ⟨(.int .i64), x1⟩, ⟨(.int .i64), x2⟩, ⟨(.int .i64), x3⟩, ⟨(.int .i64), x4⟩, ⟨(.int .i64), x5⟩, ⟨(.int .i64), x6⟩, ⟨(.slice (.pair (.int .i64) (.pair (.slice (.int .i64)) .unit))), x7⟩]) := by kernel_rfl
theorem slices_symMergeCmpFunc_code_tree_.s64 : stackAt 64 slices_symMergeCmpFunc_code_tree_.body [] = some (stackOf 64 slices_symMergeCmpFunc_code_tree_.body) := by kernel_rfl
theorem slices_symMergeCmpFunc_code_tree_.h64 (k : Nat) (ds : List Dat) (r : (List (Int × ((List Int) × Unit)))) (h : slices_symMergeCmpFunc_code_tree_.c64 k ds = some r) : ∃ k', k' < k ∧ ∃ s, stackAt 64 slices_symMergeCmpFunc_code_tree_.body [] = some s ∧ slices_symMergeCmpFunc_code_tree_.R k' (start s) (slices_symMergeCmpFunc_code_tree_.t64.fill ds) = some r := by
  unfold slices_symMergeCmpFunc_code_tree_.c64 at h
  obtain ⟨x0, d0, rfl, h0⟩ := pop_some h
  obtain ⟨x1, d1, rfl, h1⟩ := pop_some h0
  obtain ⟨x2, d2, rfl, h2⟩ := pop_some h1
  obtain ⟨x3, d3, rfl, h3⟩ := pop_some h2
  obtain ⟨x4, d4, rfl, h4⟩ := pop_some h3
  obtain ⟨x5, d5, rfl, h5⟩ := pop_some h4
  obtain ⟨x6, d6, rfl, h6⟩ := pop_some h5
  obtain ⟨x7, d7, rfl, h7⟩ := pop_some h6
  obtain ⟨rfl, g⟩ := popN_some h7
  cases k with
  | zero => cases (show none = some r from g)
  | succ k => exact ⟨k, Nat.lt_succ_self k, _, slices_symMergeCmpFunc_code_tree_.s64, (slices_symMergeCmpFunc_code_tree_.e64 k x0 x1 x2 x3 x4 x5 x6 x7).symm.trans g⟩
theorem slices_symMergeCmpFunc_code_tree_.e19 (k : Nat) (x0 : Int) (x1 : Int) (x2 : (List (Int × ((List Int) × Unit)))) : slices_symMergeCmpFunc_code_tree_.l9 (k + 1) x0 x1 x2 = slices_symMergeCmpFunc_code_tree_.R k (start (stackOf 19 slices_symMergeCmpFunc_code_tree_.body)) (slices_symMergeCmpFunc_code_tree_.t19.fill [⟨(.int .i64), x0⟩, ⟨(.int .i64), x1⟩, ⟨(.slice (.pair (.int .i64) (.pair (.slice (.int .i64)) .unit))), x2⟩]) := by kernel_rfl
theorem slices_symMergeCmpFunc_code_tree_.s19 : stackAt 19 slices_symMergeCmpFunc_code_tree_.body [] = some (stackOf 19 slices_symMergeCmpFunc_code_tree_.body) := by kernel_rfl
theorem slices_symMergeCmpFunc_code_tree_.h19 (k : Nat) (ds : List Dat) (r : (List (Int × ((List Int) × Unit)))) (h : slices_symMergeCmpFunc_code_tree_.c19 k ds = some r) : ∃ k', k' < k ∧ ∃ s, stackAt 19 slices_symMergeCmpFunc_code_tree_.body [] = some s ∧ slices_symMergeCmpFunc_code_tree_.R k' (start s) (slices_symMergeCmpFunc_code_tree_.t19.fill ds) = some r := by
  unfold slices_symMergeCmpFunc_code_tree_.c19 at h
  obtain ⟨x0, d0, rfl, h0⟩ := pop_some h
  obtain ⟨x1, d1, rfl, h1⟩ := pop_some h0
  obtain ⟨x2, d2, rfl, h2⟩ := pop_some h1
  obtain ⟨rfl, g⟩ := popN_some h2
  cases k with
  | zero => cases (show none = some r from g)
  | succ k => exact ⟨k, Nat.lt_succ_self k, _, slices_symMergeCmpFunc_code_tree_.s19, (slices_symMergeCmpFunc_code_tree_.e19 k x0 x1 x2).symm.trans g⟩
theorem slices_symMergeCmpFunc_code_tree_.e43 (k : Nat) (x0 : Int) (x1 : Int) (x2 : (List (Int × ((List Int) × Unit)))) : slices_symMergeCmpFunc_code_tree_.l21 (k + 1) x0 x1 x2 = slices_symMergeCmpFunc_code_tree_.R k (start (stackOf 43 slices_symMergeCmpFunc_code_tree_.body)) (slices_symMergeCmpFunc_code_tree_.t43.fill [⟨(.int .i64), x0⟩, ⟨(.int .i64), x1⟩, ⟨(.slice (.pair (.int .i64) (.pair (.slice (.int .i64)) .unit))), x2⟩]) := by kernel_rfl
theorem slices_symMergeCmpFunc_code_tree_.s43 : stackAt 43 slices_symMergeCmpFunc_code_tree_.body [] = some (stackOf 43 slices_symMergeCmpFunc_code_tree_.body) := by kernel_rfl
theorem slices_symMergeCmpFunc_code_tree_.h43 (k : Nat) (ds : List Dat) (r : (List (Int × ((List Int) × Unit)))) (h : slices_symMergeCmpFunc_code_tree_.c43 k ds = some r) : ∃ k', k' < k ∧ ∃ s, stackAt 43 slices_symMergeCmpFunc_code_tree_.body [] = some s ∧ slices_symMergeCmpFunc_code_tree_.R k' (start s) (slices_symMergeCmpFunc_code_tree_.t43.fill ds) = some r := by
  unfold slices_symMergeCmpFunc_code_tree_.c43 at h
  obtain ⟨x0, d0, rfl, h0⟩ := pop_some h
  obtain ⟨x1, d1, rfl, h1⟩ := pop_some h0
  obtain ⟨x2, d2, rfl, h2⟩ := pop_some h1
  obtain ⟨rfl, g⟩ := popN_some h2
  cases k with
  | zero => cases (show none = some r from g)
  | succ k => exact ⟨k, Nat.lt_succ_self k, _, slices_symMergeCmpFunc_code_tree_.s43, (slices_symMergeCmpFunc_code_tree_.e43 k x0 x1 x2).symm.trans g⟩
theorem slices_symMergeCmpFunc_code_tree_.e67 (k : Nat) (x0 : Int) (x1 : Int) (x2 : Int) (x3 : Int) (x4 : Int) (x5 : Int) (x6 : Int) (x7 : Int) (x8 : (List (Int × ((List Int) × Unit)))) : slices_symMergeCmpFunc_code_tree_.l33 (k + 1) x0 x1 x2 x3 x4 x5 x6 x7 x8 = slices_symMergeCmpFunc_code_tree_.R k (start (stackOf 67 slices_symMergeCmpFunc_code_tree_.body)) (slices_symMergeCmpFunc_code_tree_.t67.fill [⟨(.int .i64), x0⟩, ⟨(.int .i64), x1⟩, ⟨(.int .i64), x2⟩, ⟨(.int .i64), x3⟩, ⟨(.int .i64), x4⟩, ⟨(.int .i64), x5⟩, ⟨(.int .i64), x6⟩, ⟨(.int .i64), x7⟩, ⟨(.slice (.pair (.int .i64) (.pair (.slice (.int .i64)) .unit))), x8⟩]) := by kernel_rfl
theorem slices_symMergeCmpFunc_code_tree_.s67 : stackAt 67 slices_symMergeCmpFunc_code_tree_.body [] = some (stackOf 67 slices_symMergeCmpFunc_code_tree_.body) := by kernel_rfl
theorem slices_symMergeCmpFunc_code_tree_.h67 (k : Nat) (ds : List Dat) (r : (List (Int × ((List Int) × Unit)))) (h : slices_symMergeCmpFunc_code_tree_.c67 k ds = some r) : ∃ k', k' < k ∧ ∃ s, stackAt 67 slices_symMergeCmpFunc_code_tree_.body [] = some s ∧ slices_symMergeCmpFunc_code_tree_.R k' (start s) (slices_symMergeCmpFunc_code_tree_.t67.fill ds) = some r := by
  unfold slices_symMergeCmpFunc_code_tree_.c67 at h
  obtain ⟨x0, d0, rfl, h0⟩ := pop_some h
  obtain ⟨x1, d1, rfl, h1⟩ := pop_some h0
  obtain ⟨x2, d2, rfl, h2⟩ := pop_some h1
  obtain ⟨x3, d3, rfl, h3⟩ := pop_some h2
  obtain ⟨x4, d4, rfl, h4⟩ := pop_some h3
  obtain ⟨x5, d5, rfl, h5⟩ := pop_some h4
  obtain ⟨x6, d6, rfl, h6⟩ := pop_some h5
  obtain ⟨x7, d7, rfl, h7⟩ := pop_some h6
  obtain ⟨x8, d8, rfl, h8⟩ := pop_some h7
  obtain ⟨rfl, g⟩ := popN_some h8
  cases k with
  | zero => cases (show none = some r from g)
  | succ k => exact ⟨k, Nat.lt_succ_self k, _, slices_symMergeCmpFunc_code_tree_.s67, (slices_symMergeCmpFunc_code_tree_.e67 k x0 x1 x2 x3 x4 x5 x6 x7 x8).symm.trans g⟩
theorem slices_symMergeCmpFunc_code_tree_.e82 (k : Nat) (x0 : Int) (x1 : Int) (x2 : Int) (x3 : Int) (x4 : Int) (x5 : (List (Int × ((List Int) × Unit)))) : slices_symMergeCmpFunc_code_tree_.j41 (k + 1) x0 x1 x2 x3 x4 x5 = slices_symMergeCmpFunc_code_tree_.R k (start (stackOf 82 slices_symMergeCmpFunc_code_tree_.body)) (slices_symMergeCmpFunc_code_tree_.t82.fill [⟨(.int .i64), x0⟩, ⟨(.int .i64), x1⟩, ⟨(.int .i64), x2⟩, ⟨(.int .i64), x3⟩, ⟨(.int .i64), x4⟩, ⟨(.slice (.pair (.int .i64) (.pair (.slice (.int .i64)) .unit))), x5⟩]) := by kernel_rfl
theorem slices_symMergeCmpFunc_code_tree_.s82 : stackAt 82 slices_symMergeCmpFunc_code_tree_.body [] = some (stackOf 82 slices_symMergeCmpFunc_code_tree_.body) := by kernel_rfl
theorem slices_symMergeCmpFunc_code_tree_.h82 (k : Nat) (ds : List Dat) (r : (List (Int × ((List Int) × Unit)))) (h : slices_symMergeCmpFunc_code_tree_.c82 k ds = some r) : ∃ k', k' < k ∧ ∃ s, stackAt 82 slices_symMergeCmpFunc_code_tree_.body [] = some s ∧ slices_symMergeCmpFunc_code_tree_.R k' (start s) (slices_symMergeCmpFunc_code_tree_.t82.fill ds) = some r := by
  unfold slices_symMergeCmpFunc_code_tree_.c82 at h
  obtain ⟨x0, d0, rfl, h0⟩ := pop_some h
  obtain ⟨x1, d1, rfl, h1⟩ := pop_some h0
  obtain ⟨x2, d2, rfl, h2⟩ := pop_some h1
  obtain ⟨x3, d3, rfl, h3⟩ := pop_some h2
  obtain ⟨x4, d4, rfl, h4⟩ := pop_some h3
  obtain ⟨x5, d5, rfl, h5⟩ := pop_some h4
  obtain ⟨rfl, g⟩ := popN_some h5
  cases k with
  | zero => cases (show none = some r from g)
  | succ k => exact ⟨k, Nat.lt_succ_self k, _, slices_symMergeCmpFunc_code_tree_.s82, (slices_symMergeCmpFunc_code_tree_.e82 k x0 x1 x2 x3 x4 x5).symm.trans g⟩
theorem slices_symMergeCmpFunc_code_tree_.e86 (k : Nat) (x0 : Int) (x1 : Int) (x2 : Int) (x3 : (List (Int × ((List Int) × Unit)))) : slices_symMergeCmpFunc_code_tree_.j43 (k + 1) x0 x1 x2 x3 = slices_symMergeCmpFunc_code_tree_.R k (start (stackOf 86 slices_symMergeCmpFunc_code_tree_.body)) (slices_symMergeCmpFunc_code_tree_.t86.fill [⟨(.int .i64), x0⟩, ⟨(.int .i64), x1⟩, ⟨(.int .i64), x2⟩, ⟨(.slice (.pair (.int .i64) (.pair (.slice (.int .i64)) .unit))), x3⟩]) := by kernel_rfl
theorem slices_symMergeCmpFunc_code_tree_.s86 : stackAt 86 slices_symMergeCmpFunc_code_tree_.body [] = some (stackOf 86 slices_symMergeCmpFunc_code_tree_.body) := by kernel_rfl
theorem slices_symMergeCmpFunc_code_tree_.h86 (k : Nat) (ds : List Dat) (r : (List (Int × ((List Int) × Unit)))) (h : slices_symMergeCmpFunc_code_tree_.c86 k ds = some r) : ∃ k', k' < k ∧ ∃ s, stackAt 86 slices_symMergeCmpFunc_code_tree_.body [] = some s ∧ slices_symMergeCmpFunc_code_tree_.R k' (start s) (slices_symMergeCmpFunc_code_tree_.t86.fill ds) = some r := by
  unfold slices_symMergeCmpFunc_code_tree_.c86 at h
  obtain ⟨x0, d0, rfl, h0⟩ := pop_some h
  obtain ⟨x1, d1, rfl, h1⟩ := pop_some h0
  obtain ⟨x2, d2, rfl, h2⟩ := pop_some h1
  obtain ⟨x3, d3, rfl, h3⟩ := pop_some h2
  obtain ⟨rfl, g⟩ := popN_some h3
  cases k with
  | zero => cases (show none = some r from g)
  | succ k => exact ⟨k, Nat.lt_succ_self k, _, slices_symMergeCmpFunc_code_tree_.s86, (slices_symMergeCmpFunc_code_tree_.e86 k x0 x1 x2 x3).symm.trans g⟩
theorem slices_symMergeCmpFunc_code_tree_.e (k : Nat) (x0 : Int) (x1 : Int) (x2 : Int) (x3 : (List (Int × ((List Int) × Unit)))) : slices_symMergeCmpFunc_code_tree_.f (k + 1) x0 x1 x2 x3 = slices_symMergeCmpFunc_code_tree_.R k ([.code slices_symMergeCmpFunc_code_tree_.body]) (slices_symMergeCmpFunc_code_tree_.ti.fill [⟨(.int .i64), x0⟩, ⟨(.int .i64), x1⟩, ⟨(.int .i64), x2⟩, ⟨(.slice (.pair (.int .i64) (.pair (.slice (.int .i64)) .unit))), x3⟩]) := by kernel_rfl
theorem slices_symMergeCmpFunc_code_tree_.h (k : Nat) (ds : List Dat) (r : (List (Int × ((List Int) × Unit)))) (h : slices_symMergeCmpFunc_code_tree_.g k ds = some r) : ∃ k', k' < k ∧ slices_symMergeCmpFunc_code_tree_.R k' ([.code slices_symMergeCmpFunc_code_tree_.body]) (slices_symMergeCmpFunc_code_tree_.ti.fill ds) = some r := by
  replace h : slices_symMergeCmpFunc_code_tree_.c k ds = some r := h
  unfold slices_symMergeCmpFunc_code_tree_.c at h
  obtain ⟨x0, d0, rfl, h0⟩ := pop_some h
  obtain ⟨x1, d1, rfl, h1⟩ := pop_some h0
  obtain ⟨x2, d2, rfl, h2⟩ := pop_some h1
  obtain ⟨x3, d3, rfl, h3⟩ := pop_some h2
  obtain ⟨rfl, g⟩ := popN_some h3
  cases k with
  | zero => cases (show none = some r from g)
  | succ k => exact ⟨k, Nat.lt_succ_self k, (slices_symMergeCmpFunc_code_tree_.e k x0 x1 x2 x3).symm.trans g⟩
theorem slices_symMergeCmpFunc_code_tree_.o (ds : List Dat) (r : (List (Int × ((List Int) × Unit)))) (h : slices_symMergeCmpFunc_code_tree_.out ds = some r) : ds = slices_symMergeCmpFunc_code_tree_.rs r := by
  unfold slices_symMergeCmpFunc_code_tree_.out at h
  obtain ⟨x0, d0, rfl, h0⟩ := pop_some h
  obtain ⟨rfl, g⟩ := popN_some h0
  cases g
  rfl
theorem slices_symMergeCmpFunc_code_tree_.fn : FnOk Try.prog 203 Try.f203 slices_symMergeCmpFunc_code_tree_.body Try.f203.ntmps 5 (fnRes Try.f203) :=
  fnOk_of (by kernel_rfl) (by kernel_rfl) (by kernel_rfl) (by kernel_rfl)
theorem slices_symMergeCmpFunc_code_tree_.con' : ∀ k ds r, slices_symMergeCmpFunc_code_tree_.g k ds = some r → Con Try.prog 203 5 slices_symMergeCmpFunc_code_tree_.ti slices_symMergeCmpFunc_code_tree_.to ds (slices_symMergeCmpFunc_code_tree_.rs r) :=
  fun_ok (T := T) T_ok mixed slices_symMergeCmpFunc_code_tree_.fn (env := slices_symMergeCmpFunc_code_tree_.env) (tbl := slices_symMergeCmpFunc_code_tree_.tbl) (gOut := slices_symMergeCmpFunc_code_tree_.out) (nin := 1) (cuts := [43, 41, 32]) (fuel := 100000) rfl (by kernel_rfl) (by kernel_rfl) (by kernel_rfl) (fun x hx => by
    simp only [slices_symMergeCmpFunc_code_tree_.tbl, List.mem_cons, List.not_mem_nil, or_false] at hx
    rcases hx with rfl | rfl | rfl | rfl | rfl | rfl | rfl | rfl
    · exact slices_symMergeCmpFunc_code_tree_.h7
    · exact slices_symMergeCmpFunc_code_tree_.h31
    · exact slices_symMergeCmpFunc_code_tree_.h64
    · exact slices_symMergeCmpFunc_code_tree_.h19
    · exact slices_symMergeCmpFunc_code_tree_.h43
    · exact slices_symMergeCmpFunc_code_tree_.h67
    · exact slices_symMergeCmpFunc_code_tree_.h82
    · exact slices_symMergeCmpFunc_code_tree_.h86
) slices_symMergeCmpFunc_code_tree_.o slices_symMergeCmpFunc_code_tree_.h (fun k ih => by unfold slices_symMergeCmpFunc_code_tree_.env; exact (envC_ok (fun ds K r h => by
    obtain ⟨x0, d0, rfl, h0⟩ := pop_some h
    obtain ⟨x1, d1, rfl, h1⟩ := pop_some h0
    obtain ⟨x2, d2, rfl, h2⟩ := pop_some h1
    obtain ⟨x3, d3, rfl, h3⟩ := pop_some h2
    obtain ⟨rfl, g⟩ := popN_some h3
    obtain ⟨r1, h1, h2⟩ := bind_some g
    exact ⟨_, h2, ih _ _ (by show slices_symMergeCmpFunc_code_tree_.c k _ = some r1; unfold slices_symMergeCmpFunc_code_tree_.c; simp only [pop_self, popN]; exact h1)⟩) (envC_ok (fun ds K r h => by
    obtain ⟨x0, d0, rfl, h0⟩ := pop_some h
    obtain ⟨x1, d1, rfl, h1⟩ := pop_some h0
    obtain ⟨rfl, g⟩ := popN_some h1
    obtain ⟨r1, h1, h2⟩ := bind_some g
    exact ⟨_, h2, code_Cheap_1.con k _ h1⟩) (envC_ok (fun ds K r h => by
    obtain ⟨x0, d0, rfl, h0⟩ := pop_some h
    obtain ⟨x1, d1, rfl, h1⟩ := pop_some h0
    obtain ⟨x2, d2, rfl, h2⟩ := pop_some h1
    obtain ⟨x3, d3, rfl, h3⟩ := pop_some h2
    obtain ⟨rfl, g⟩ := popN_some h3
    obtain ⟨r1, h1, h2⟩ := bind_some g
    exact ⟨_, h2, slices_rotateCmpFunc_code_tree_.con k _ h1⟩) env0_ok))))
theorem slices_symMergeCmpFunc_code_tree_.con (k : Nat) {x0 : Int} {x1 : Int} {x2 : Int} {x3 : (List (Int × ((List Int) × Unit)))} (r : (List (Int × ((List Int) × Unit)))) (h : slices_symMergeCmpFunc_code_tree_.f k x0 x1 x2 x3 = some r) : Con Try.prog 203 5 slices_symMergeCmpFunc_code_tree_.ti slices_symMergeCmpFunc_code_tree_.to [⟨(.int .i64), x0⟩, ⟨(.int .i64), x1⟩, ⟨(.int .i64), x2⟩, ⟨(.slice (.pair (.int .i64) (.pair (.slice (.int .i64)) .unit))), x3⟩] (slices_symMergeCmpFunc_code_tree_.rs r) :=
  slices_symMergeCmpFunc_code_tree_.con' k _ r (by show slices_symMergeCmpFunc_code_tree_.c k _ = some r; unfold slices_symMergeCmpFunc_code_tree_.c; simp only [pop_self, popN]; exact h)
mutual
def slices_stableCmpFunc_code_tree_.l2 : Nat → Int → Int → Int → Int → List ((Int × (List (Int) × Unit))) → Option (List (Int × List Int × Unit))
 | 0, _, _, _, _, _ => none
 | k + 1, n1, blockSize6, a7, b8, data0 =>
  if b8 ≤ n1 then
   (slices_insertionSortCmpFunc_code_tree_.f k a7 b8 data0).bind fun r_3 =>
    slices_stableCmpFunc_code_tree_.l2 k n1 blockSize6 b8 (Go.IntKind.i64.wrap (b8 + blockSize6)) r_3
  else
   (slices_insertionSortCmpFunc_code_tree_.f k a7 n1 data0).bind fun r_3 =>
    slices_stableCmpFunc_code_tree_.l7 k n1 blockSize6 r_3
def slices_stableCmpFunc_code_tree_.l7 : Nat → Int → Int → List ((Int × (List (Int) × Unit))) → Option (List (Int × List Int × Unit))
 | 0, _, _, _ => none
 | k + 1, n1, blockSize6, data0 =>
  if blockSize6 < n1 then
   slices_stableCmpFunc_code_tree_.l9 k n1 blockSize6 0 (Go.IntKind.i64.wrap (2 * blockSize6)) data0
  else
   some (data0)
def slices_stableCmpFunc_code_tree_.l9 : Nat → Int → Int → Int → Int → List ((Int × (List (Int) × Unit))) → Option (List (Int × List Int × Unit))
 | 0, _, _, _, _, _ => none
 | k + 1, n1, blockSize6, a7, b8, data0 =>
  if b8 ≤ n1 then
   (slices_symMergeCmpFunc_code_tree_.f k a7 (Go.IntKind.i64.wrap (a7 + blockSize6)) b8 data0).bind fun r_3 =>
    slices_stableCmpFunc_code_tree_.l9 k n1 blockSize6 b8 (Go.IntKind.i64.wrap (b8 + Go.IntKind.i64.wrap (2 * blockSize6))) r_3
  else
   if Go.IntKind.i64.wrap (a7 + blockSize6) < n1 then
    (slices_symMergeCmpFunc_code_tree_.f k a7 (Go.IntKind.i64.wrap (a7 + blockSize6)) n1 data0).bind fun r_4 =>
     slices_stableCmpFunc_code_tree_.j16 k n1 blockSize6 r_4
   else
    slices_stableCmpFunc_code_tree_.j16 k n1 blockSize6 data0
def slices_stableCmpFunc_code_tree_.j16 : Nat → Int → Int → List ((Int × (List (Int) × Unit))) → Option (List (Int × List Int × Unit))
 | 0, _, _, _ => none
 | k + 1, n1, blockSize6, data0 =>
  slices_stableCmpFunc_code_tree_.l7 k n1 (Go.IntKind.i64.wrap (blockSize6 * 2)) data0
end
def slices_stableCmpFunc_code_tree_.f (k : Nat) (n1 : Int) (data0 : List ((Int × (List (Int) × Unit)))) : Option (List (Int × List Int × Unit)) :=
 slices_stableCmpFunc_code_tree_.l2 k n1 20 0 20 data0

noncomputable def slices_stableCmpFunc_code_tree_.body : Code := fnBody Try.f181
def slices_stableCmpFunc_code_tree_.ti : Tm := ⟨[(0, .own 0), (1, .p (.int .i64)), (2, .fn 127 [])], [.own (.pair (.int .i64) (.pair (.slice (.int .i64)) .unit))]⟩
def slices_stableCmpFunc_code_tree_.to : Tm := ⟨[], [.own (.pair (.int .i64) (.pair (.slice (.int .i64)) .unit))]⟩
def slices_stableCmpFunc_code_tree_.rs (r : (List (Int × ((List Int) × Unit)))) : List Dat := [⟨(.slice (.pair (.int .i64) (.pair (.slice (.int .i64)) .unit))), r⟩]
def slices_stableCmpFunc_code_tree_.out (ds : List Dat) : Option ((List (Int × ((List Int) × Unit)))) := pop (.slice (.pair (.int .i64) (.pair (.slice (.int .i64)) .unit))) ds fun x0 ds => popN ds (some (x0))
def slices_stableCmpFunc_code_tree_.c (k : Nat) (ds : List Dat) : Option ((List (Int × ((List Int) × Unit)))) := pop (.int .i64) ds fun x0 ds => pop (.slice (.pair (.int .i64) (.pair (.slice (.int .i64)) .unit))) ds fun x1 ds => popN ds (slices_stableCmpFunc_code_tree_.f k x0 x1)
def slices_stableCmpFunc_code_tree_.g : Nat → List Dat → Option ((List (Int × ((List Int) × Unit))))
 | 0, _ => none
 | k + 1, ds => slices_stableCmpFunc_code_tree_.c k ds
def slices_stableCmpFunc_code_tree_.env (k : Nat) : Nat → List SV → List Chunk → KT ((List (Int × ((List Int) × Unit)))) → Option ((List (Int × ((List Int) × Unit)))) := (envC 202 4 slices_insertionSortCmpFunc_code_tree_.ti slices_insertionSortCmpFunc_code_tree_.to (fun ds K => pop (.int .i64) ds fun x0 ds => pop (.int .i64) ds fun x1 ds => pop (.slice (.pair (.int .i64) (.pair (.slice (.int .i64)) .unit))) ds fun x2 ds => popN ds ((slices_insertionSortCmpFunc_code_tree_.f k x0 x1 x2).bind fun r => K (slices_insertionSortCmpFunc_code_tree_.rs r))) (envC 203 5 slices_symMergeCmpFunc_code_tree_.ti slices_symMergeCmpFunc_code_tree_.to (fun ds K => pop (.int .i64) ds fun x0 ds => pop (.int .i64) ds fun x1 ds => pop (.int .i64) ds fun x2 ds => pop (.slice (.pair (.int .i64) (.pair (.slice (.int .i64)) .unit))) ds fun x3 ds => popN ds ((slices_symMergeCmpFunc_code_tree_.f k x0 x1 x2 x3).bind fun r => K (slices_symMergeCmpFunc_code_tree_.rs r))) env0))
def slices_stableCmpFunc_code_tree_.t5 : Tm := ⟨[(0, .own 0), (1, .p (.int .i64)), (2, .fn 127 []), (6, .p (.int .i64)), (7, .p (.int .i64)), (8, .p (.int .i64))], [.own (.pair (.int .i64) (.pair (.slice (.int .i64)) .unit))]⟩
def slices_stableCmpFunc_code_tree_.c5 (k : Nat) (ds : List Dat) : Option ((List (Int × ((List Int) × Unit)))) := pop (.int .i64) ds fun x0 ds => pop (.int .i64) ds fun x1 ds => pop (.int .i64) ds fun x2 ds => pop (.int .i64) ds fun x3 ds => pop (.slice (.pair (.int .i64) (.pair (.slice (.int .i64)) .unit))) ds fun x4 ds => popN ds (slices_stableCmpFunc_code_tree_.l2 k x0 x1 x2 x3 x4)
def slices_stableCmpFunc_code_tree_.t15 : Tm := ⟨[(0, .own 0), (1, .p (.int .i64)), (2, .fn 127 []), (6, .p (.int .i64))], [.own (.pair (.int .i64) (.pair (.slice (.int .i64)) .unit))]⟩
def slices_stableCmpFunc_code_tree_.c15 (k : Nat) (ds : List Dat) : Option ((List (Int × ((List Int) × Unit)))) := pop (.int .i64) ds fun x0 ds => pop (.int .i64) ds fun x1 ds => pop (.slice (.pair (.int .i64) (.pair (.slice (.int .i64)) .unit))) ds fun x2 ds => popN ds (slices_stableCmpFunc_code_tree_.l7 k x0 x1 x2)
def slices_stableCmpFunc_code_tree_.t19 : Tm := ⟨[(0, .own 0), (1, .p (.int .i64)), (2, .fn 127 []), (6, .p (.int .i64)), (7, .p (.int .i64)), (8, .p (.int .i64))], [.own (.pair (.int .i64) (.pair (.slice (.int .i64)) .unit))]⟩
def slices_stableCmpFunc_code_tree_.c19 (k : Nat) (ds : List Dat) : Option ((List (Int × ((List Int) × Unit)))) := pop (.int .i64) ds fun x0 ds => pop (.int .i64) ds fun x1 ds => pop (.int .i64) ds fun x2 ds => pop (.int .i64) ds fun x3 ds => pop (.slice (.pair (.int .i64) (.pair (.slice (.int .i64)) .unit))) ds fun x4 ds => popN ds (slices_stableCmpFunc_code_tree_.l9 k x0 x1 x2 x3 x4)
def slices_stableCmpFunc_code_tree_.t32 : Tm := ⟨[(0, .own 0), (1, .p (.int .i64)), (2, .fn 127 []), (6, .p (.int .i64))], [.own (.pair (.int .i64) (.pair (.slice (.int .i64)) .unit))]⟩
def slices_stableCmpFunc_code_tree_.c32 (k : Nat) (ds : List Dat) : Option ((List (Int × ((List Int) × Unit)))) := pop (.int .i64) ds fun x0 ds => pop (.int .i64) ds fun x1 ds => pop (.slice (.pair (.int .i64) (.pair (.slice (.int .i64)) .unit))) ds fun x2 ds => popN ds (slices_stableCmpFunc_code_tree_.j16 k x0 x1 x2)
def slices_stableCmpFunc_code_tree_.tbl : List (Nat × Tm × (Nat → List Dat → Option ((List (Int × ((List Int) × Unit)))))) := [(5, slices_stableCmpFunc_code_tree_.t5, slices_stableCmpFunc_code_tree_.c5), (15, slices_stableCmpFunc_code_tree_.t15, slices_stableCmpFunc_code_tree_.c15), (19, slices_stableCmpFunc_code_tree_.t19, slices_stableCmpFunc_code_tree_.c19), (32, slices_stableCmpFunc_code_tree_.t32, slices_stableCmpFunc_code_tree_.c32)]
noncomputable abbrev slices_stableCmpFunc_code_tree_.R (k : Nat) := run T (slices_stableCmpFunc_code_tree_.env k) Try.f181.ntmps (cutE 1 slices_stableCmpFunc_code_tree_.tbl k) (finE 1 slices_stableCmpFunc_code_tree_.to slices_stableCmpFunc_code_tree_.out) (fnRes Try.f181) [16] 100000 true
theorem slices_stableCmpFunc_code_tree_.e5 (k : Nat) (x0 : Int) (x1 : Int) (x2 : Int) (x3 : Int) (x4 : (List (Int × ((List Int) × Unit)))) : slices_stableCmpFunc_code_tree_.l2 (k + 1) x0 x1 x2 x3 x4 = slices_stableCmpFunc_code_tree_.R k (start (stackOf 5 slices_stableCmpFunc_code_tree_.body)) (slices_stableCmpFunc_code_tree_.t5.fill [⟨(.int .i64), x0⟩, ⟨(.int .i64), x1⟩, ⟨(.int .i64), x2⟩, ⟨(.int .i64), x3⟩, ⟨(.slice (.pair (.int .i64) (.pair (.slice (.int .i64)) .unit))), x4⟩]) := by kernel_rfl
theorem slices_stableCmpFunc_code_tree_.s5 : stackAt 5 slices_stableCmpFunc_code_tree_.body [] = some (stackOf 5 slices_stableCmpFunc_code_tree_.body) := by kernel_rfl
theorem slices_stableCmpFunc_code_tree_.h5 (k : Nat) (ds : List Dat) (r : (List (Int × ((List Int) × Unit)))) (h : slices_stableCmpFunc_code_tree_.c5 k ds = some r) : ∃ k', k' < k ∧ ∃ s, stackAt 5 slices_stableCmpFunc_code_tree_.body [] = some s ∧ slices_stableCmpFunc_code_tree_.R k' (start s) (slices_stableCmpFunc_code_tree_.t5.fill ds) = some r := by
  unfold slices_stableCmpFunc_code_tree_.c5 at h
  obtain ⟨x0, d0, rfl, h0⟩ := pop_some h
  obtain ⟨x1, d1, rfl, h1⟩ := pop_some h0
  obtain ⟨x2, d2, rfl, h2⟩ := pop_some h1
  obtain ⟨x3, d3, rfl, h3⟩ := pop_some h2
  obtain ⟨x4, d4, rfl, h4⟩ := pop_some h3
  obtain ⟨rfl, g⟩ := popN_some h4
  cases k with
  | zero => cases (show none = some r from g)
  | succ k => exact ⟨k, Nat.lt_succ_self k, _, slices_stableCmpFunc_code_tree_.s5, (slices_stableCmpFunc_code_tree_.e5 k x0 x1 x2 x3 x4).symm.trans g⟩
theorem slices_stableCmpFunc_code_tree_.e15 (k : Nat) (x0 : Int) (x1 : Int) (x2 : (List (Int × ((List Int) × Unit)))) : slices_stableCmpFunc_code_tree_.l7 (k + 1) x0 x1 x2 = slices_stableCmpFunc_code_tree_.R k (start (stackOf 15 slices_stableCmpFunc_code_tree_.body)) (slices_stableCmpFunc_code_tree_.t15.fill [⟨(.int .i64), x0⟩, ⟨(.int .i64), x1⟩, ⟨(.slice (.pair (.int .i64) (.pair (.slice (.int .i64)) .unit))), x2⟩]) := by kernel_rfl
theorem slices_stableCmpFunc_code_tree_.s15 : stackAt 15 slices_stableCmpFunc_code_tree_.body [] = some (stackOf 15 slices_stableCmpFunc_code_tree_.body) := by kernel_rfl
theorem slices_stableCmpFunc_code_tree_.h15 (k : Nat) (ds : List Dat) (r : (List (Int × ((List Int) × Unit)))) (h : slices_stableCmpFunc_code_tree_.c15 k ds = some r) : ∃ k', k' < k ∧ ∃ s, stackAt 15 slices_stableCmpFunc_code_tree_.body [] = some s ∧ slices_stableCmpFunc_code_tree_.R k' (start s) (slices_stableCmpFunc_code_tree_.t15.fill ds) = some r := by
  unfold slices_stableCmpFunc_code_tree_.c15 at h
  obtain ⟨x0, d0, rfl, h0⟩ := pop_some h
  obtain ⟨x1, d1, rfl, h1⟩ := pop_some h0
  obtain ⟨x2, d2, rfl, h2⟩ := pop_some h1
  obtain ⟨rfl, g⟩ := popN_some h2
  cases k with
  | zero => cases (show none = some r from g)
  | succ k => exact ⟨k, Nat.lt_succ_self k, _, slices_stableCmpFunc_code_tree_.s15, (slices_stableCmpFunc_code_tree_.e15 k x0 x1 x2).symm.trans g⟩
theorem slices_stableCmpFunc_code_tree_.e19 (k : Nat) (x0 : Int) (x1 : Int) (x2 : Int) (x3 : Int) (x4 : (List (Int × ((List Int) × Unit)))) : slices_stableCmpFunc_code_tree_.l9 (k + 1) x0 x1 x2 x3 x4 = slices_stableCmpFunc_code_tree_.R k (start (stackOf 19 slices_stableCmpFunc_code_tree_.body)) (slices_stableCmpFunc_code_tree_.t19.fill [⟨(.int .i64), x0⟩, ⟨(.int .i64), x1⟩, ⟨(.int .i64), x2⟩, ⟨(.int .i64), x3⟩, ⟨(.slice (.pair (.int .i64) (.pair (.slice (.int .i64)) .unit))), x4⟩]) := by kernel_rfl
theorem slices_stableCmpFunc_code_tree_.s19 : stackAt 19 slices_stableCmpFunc_code_tree_.body [] = some (stackOf 19 slices_stableCmpFunc_code_tree_.body) := by kernel_rfl
theorem slices_stableCmpFunc_code_tree_.h19 (k : Nat) (ds : List Dat) (r : (List (Int × ((List Int) × Unit)))) (h : slices_stableCmpFunc_code_tree_.c19 k ds = some r) : ∃ k', k' < k ∧ ∃ s, stackAt 19 slices_stableCmpFunc_code_tree_.body [] = some s ∧ slices_stableCmpFunc_code_tree_.R k' (start s) (slices_stableCmpFunc_code_tree_.t19.fill ds) = some r := by
  unfold slices_stableCmpFunc_code_tree_.c19 at h
  obtain ⟨x0, d0, rfl, h0⟩ := pop_some h
  obtain ⟨x1, d1, rfl, h1⟩ := pop_some h0
  obtain ⟨x2, d2, rfl, h2⟩ := pop_some h1
  obtain ⟨x3, d3, rfl, h3⟩ := pop_some h2
  obtain ⟨x4, d4, rfl, h4⟩ := pop_some h3
  obtain ⟨rfl, g⟩ := popN_some h4
  cases k with
  | zero => cases (show none = some r from g)
  | succ k => exact ⟨k, Nat.lt_succ_self k, _, slices_stableCmpFunc_code_tree_.s19, (slices_stableCmpFunc_code_tree_.e19 k x0 x1 x2 x3 x4).symm.trans g⟩
theorem slices_stableCmpFunc_code_tree_.e32 (k : Nat) (x0 : Int) (x1 : Int) (x2 : (List (Int × ((List Int) × Unit)))) : slices_stableCmpFunc_code_tree_.j16 (k + 1) x0 x1 x2 = slices_stableCmpFunc_code_tree_.R k (start (stackOf 32 slices_stableCmpFunc_code_tree_.body)) (slices_stableCmpFunc_code_tree_.t32.fill [⟨(.int .i64), x0⟩, ⟨(.int .i64), x1⟩, ⟨(.slice (.pair (.int .i64) (.pair (.slice (.int .i64)) .unit))), x2⟩]) := by kernel_rfl
theorem slices_stableCmpFunc_code_tree_.s32 : stackAt 32 slices_stableCmpFunc_code_tree_.body [] = some (stackOf 32 slices_stableCmpFunc_code_tree_.body) := by kernel_rfl
theorem slices_stableCmpFunc_code_tree_.h32 (k : Nat) (ds : List Dat) (r : (List (Int × ((List Int) × Unit)))) (h : slices_stableCmpFunc_code_tree_.c32 k ds = some r) : ∃ k', k' < k ∧ ∃ s, stackAt 32 slices_stableCmpFunc_code_tree_.body [] = some s ∧ slices_stableCmpFunc_code_tree_.R k' (start s) (slices_stableCmpFunc_code_tree_.t32.fill ds) = some r := by
  unfold slices_stableCmpFunc_code_tree_.c32 at h
  obtain ⟨x0, d0, rfl, h0⟩ := pop_some h
  obtain ⟨x1, d1, rfl, h1⟩ := pop_some h0
  obtain ⟨x2, d2, rfl, h2⟩ := pop_some h1
  obtain ⟨rfl, g⟩ := popN_some h2
  cases k with
  | zero => cases (show none = some r from g)
  | succ k => exact ⟨k, Nat.lt_succ_self k, _, slices_stableCmpFunc_code_tree_.s32, (slices_stableCmpFunc_code_tree_.e32 k x0 x1 x2).symm.trans g⟩
theorem slices_stableCmpFunc_code_tree_.e (k : Nat) (x0 : Int) (x1 : (List (Int × ((List Int) × Unit)))) : slices_stableCmpFunc_code_tree_.f k x0 x1 = slices_stableCmpFunc_code_tree_.R k ([.code slices_stableCmpFunc_code_tree_.body]) (slices_stableCmpFunc_code_tree_.ti.fill [⟨(.int .i64), x0⟩, ⟨(.slice (.pair (.int .i64) (.pair (.slice (.int .i64)) .unit))), x1⟩]) := by kernel_rfl
theorem slices_stableCmpFunc_code_tree_.h (k : Nat) (ds : List Dat) (r : (List (Int × ((List Int) × Unit)))) (h : slices_stableCmpFunc_code_tree_.g k ds = some r) : ∃ k', k' < k ∧ slices_stableCmpFunc_code_tree_.R k' ([.code slices_stableCmpFunc_code_tree_.body]) (slices_stableCmpFunc_code_tree_.ti.fill ds) = some r := by
  cases k with
  | zero => cases (show none = some r from h)
  | succ k =>
  replace h : slices_stableCmpFunc_code_tree_.c k ds = some r := h
  unfold slices_stableCmpFunc_code_tree_.c at h
  obtain ⟨x0, d0, rfl, h0⟩ := pop_some h
  obtain ⟨x1, d1, rfl, h1⟩ := pop_some h0
  obtain ⟨rfl, g⟩ := popN_some h1
  exact ⟨k, Nat.lt_succ_self k, (slices_stableCmpFunc_code_tree_.e k x0 x1).symm.trans g⟩
theorem slices_stableCmpFunc_code_tree_.o (ds : List Dat) (r : (List (Int × ((List Int) × Unit)))) (h : slices_stableCmpFunc_code_tree_.out ds = some r) : ds = slices_stableCmpFunc_code_tree_.rs r := by
  unfold slices_stableCmpFunc_code_tree_.out at h
  obtain ⟨x0, d0, rfl, h0⟩ := pop_some h
  obtain ⟨rfl, g⟩ := popN_some h0
  cases g
  rfl
theorem slices_stableCmpFunc_code_tree_.fn : FnOk Try.prog 181 Try.f181 slices_stableCmpFunc_code_tree_.body Try.f181.ntmps 3 (fnRes Try.f181) :=
  fnOk_of (by kernel_rfl) (by kernel_rfl) (by kernel_rfl) (by kernel_rfl)
theorem slices_stableCmpFunc_code_tree_.con' : ∀ k ds r, slices_stableCmpFunc_code_tree_.g k ds = some r → Con Try.prog 181 3 slices_stableCmpFunc_code_tree_.ti slices_stableCmpFunc_code_tree_.to ds (slices_stableCmpFunc_code_tree_.rs r) :=
  fun_ok (T := T) T_ok mixed slices_stableCmpFunc_code_tree_.fn (env := slices_stableCmpFunc_code_tree_.env) (tbl := slices_stableCmpFunc_code_tree_.tbl) (gOut := slices_stableCmpFunc_code_tree_.out) (nin := 1) (cuts := [16]) (fuel := 100000) rfl (by kernel_rfl) (by kernel_rfl) (by kernel_rfl) (fun x hx => by
    simp only [slices_stableCmpFunc_code_tree_.tbl, List.mem_cons, List.not_mem_nil, or_false] at hx
    rcases hx with rfl | rfl | rfl | rfl
    · exact slices_stableCmpFunc_code_tree_.h5
    · exact slices_stableCmpFunc_code_tree_.h15
    · exact slices_stableCmpFunc_code_tree_.h19
    · exact slices_stableCmpFunc_code_tree_.h32
) slices_stableCmpFunc_code_tree_.o slices_stableCmpFunc_code_tree_.h (fun k _ => by unfold slices_stableCmpFunc_code_tree_.env; exact (envC_ok (fun ds K r h => by
    obtain ⟨x0, d0, rfl, h0⟩ := pop_some h
    obtain ⟨x1, d1, rfl, h1⟩ := pop_some h0
    obtain ⟨x2, d2, rfl, h2⟩ := pop_some h1
    obtain ⟨rfl, g⟩ := popN_some h2
    obtain ⟨r1, h1, h2⟩ := bind_some g
    exact ⟨_, h2, slices_insertionSortCmpFunc_code_tree_.con k _ h1⟩) (envC_ok (fun ds K r h => by
    obtain ⟨x0, d0, rfl, h0⟩ := pop_some h
    obtain ⟨x1, d1, rfl, h1⟩ := pop_some h0
    obtain ⟨x2, d2, rfl, h2⟩ := pop_some h1
    obtain ⟨x3, d3, rfl, h3⟩ := pop_some h2
    obtain ⟨rfl, g⟩ := popN_some h3
    obtain ⟨r1, h1, h2⟩ := bind_some g
    exact ⟨_, h2, slices_symMergeCmpFunc_code_tree_.con k _ h1⟩) env0_ok)))
theorem slices_stableCmpFunc_code_tree_.con (k : Nat) {x0 : Int} {x1 : (List (Int × ((List Int) × Unit)))} (r : (List (Int × ((List Int) × Unit)))) (h : slices_stableCmpFunc_code_tree_.f k x0 x1 = some r) : Con Try.prog 181 3 slices_stableCmpFunc_code_tree_.ti slices_stableCmpFunc_code_tree_.to [⟨(.int .i64), x0⟩, ⟨(.slice (.pair (.int .i64) (.pair (.slice (.int .i64)) .unit))), x1⟩] (slices_stableCmpFunc_code_tree_.rs r) :=
  slices_stableCmpFunc_code_tree_.con' (k + 1) _ r (by show slices_stableCmpFunc_code_tree_.c k _ = some r; unfold slices_stableCmpFunc_code_tree_.c; simp only [pop_self, popN]; exact h)
def slices_SortStableFunc___code_tree_code_tree_.f (k : Nat) (x0 : List ((Int × (List (Int) × Unit)))) : Option (List (Int × List Int × Unit)) :=
 (slices_stableCmpFunc_code_tree_.f k (↑x0.length : Int) x0).bind fun r_1 =>
  some (r_1)

noncomputable def slices_SortStableFunc___code_tree_code_tree_.body : Code := fnBody Try.f126
def slices_SortStableFunc___code_tree_code_tree_.ti : Tm := ⟨[(0, .own 0), (1, .fn 127 [])], [.own (.pair (.int .i64) (.pair (.slice (.int .i64)) .unit))]⟩
def slices_SortStableFunc___code_tree_code_tree_.to : Tm := ⟨[], [.own (.pair (.int .i64) (.pair (.slice (.int .i64)) .unit))]⟩
def slices_SortStableFunc___code_tree_code_tree_.rs (r : (List (Int × ((List Int) × Unit)))) : List Dat := [⟨(.slice (.pair (.int .i64) (.pair (.slice (.int .i64)) .unit))), r⟩]
def slices_SortStableFunc___code_tree_code_tree_.out (ds : List Dat) : Option ((List (Int × ((List Int) × Unit)))) := pop (.slice (.pair (.int .i64) (.pair (.slice (.int .i64)) .unit))) ds fun x0 ds => popN ds (some (x0))
def slices_SortStableFunc___code_tree_code_tree_.c (k : Nat) (ds : List Dat) : Option ((List (Int × ((List Int) × Unit)))) := pop (.slice (.pair (.int .i64) (.pair (.slice (.int .i64)) .unit))) ds fun x0 ds => popN ds (slices_SortStableFunc___code_tree_code_tree_.f k x0)
def slices_SortStableFunc___code_tree_code_tree_.g : Nat → List Dat → Option ((List (Int × ((List Int) × Unit))))
 | 0, _ => none
 | k + 1, ds => slices_SortStableFunc___code_tree_code_tree_.c k ds
def slices_SortStableFunc___code_tree_code_tree_.env (k : Nat) : Nat → List SV → List Chunk → KT ((List (Int × ((List Int) × Unit)))) → Option ((List (Int × ((List Int) × Unit)))) := (envC 181 3 slices_stableCmpFunc_code_tree_.ti slices_stableCmpFunc_code_tree_.to (fun ds K => pop (.int .i64) ds fun x0 ds => pop (.slice (.pair (.int .i64) (.pair (.slice (.int .i64)) .unit))) ds fun x1 ds => popN ds ((slices_stableCmpFunc_code_tree_.f k x0 x1).bind fun r => K (slices_stableCmpFunc_code_tree_.rs r))) env0)
def slices_SortStableFunc___code_tree_code_tree_.tbl : List (Nat × Tm × (Nat → List Dat → Option ((List (Int × ((List Int) × Unit)))))) := []
noncomputable abbrev slices_SortStableFunc___code_tree_code_tree_.R (k : Nat) := run T (slices_SortStableFunc___code_tree_code_tree_.env k) Try.f126.ntmps (cutE 1 slices_SortStableFunc___code_tree_code_tree_.tbl k) (finE 1 slices_SortStableFunc___code_tree_code_tree_.to slices_SortStableFunc___code_tree_code_tree_.out) (fnRes Try.f126) [] 100000 true
theorem slices_SortStableFunc___code_tree_code_tree_.e (k : Nat) (x0 : (List (Int × ((List Int) × Unit)))) : slices_SortStableFunc___code_tree_code_tree_.f k x0 = slices_SortStableFunc___code_tree_code_tree_.R k ([.code slices_SortStableFunc___code_tree_code_tree_.body]) (slices_SortStableFunc___code_tree_code_tree_.ti.fill [⟨(.slice (.pair (.int .i64) (.pair (.slice (.int .i64)) .unit))), x0⟩]) := by kernel_rfl
theorem slices_SortStableFunc___code_tree_code_tree_.h (k : Nat) (ds : List Dat) (r : (List (Int × ((List Int) × Unit)))) (h : slices_SortStableFunc___code_tree_code_tree_.g k ds = some r) : ∃ k', k' < k ∧ slices_SortStableFunc___code_tree_code_tree_.R k' ([.code slices_SortStableFunc___code_tree_code_tree_.body]) (slices_SortStableFunc___code_tree_code_tree_.ti.fill ds) = some r := by
  cases k with
  | zero => cases (show none = some r from h)
  | succ k =>
  replace h : slices_SortStableFunc___code_tree_code_tree_.c k ds = some r := h
  unfold slices_SortStableFunc___code_tree_code_tree_.c at h
  obtain ⟨x0, d0, rfl, h0⟩ := pop_some h
  obtain ⟨rfl, g⟩ := popN_some h0
  exact ⟨k, Nat.lt_succ_self k, (slices_SortStableFunc___code_tree_code_tree_.e k x0).symm.trans g⟩
theorem slices_SortStableFunc___code_tree_code_tree_.o (ds : List Dat) (r : (List (Int × ((List Int) × Unit)))) (h : slices_SortStableFunc___code_tree_code_tree_.out ds = some r) : ds = slices_SortStableFunc___code_tree_code_tree_.rs r := by
  unfold slices_SortStableFunc___code_tree_code_tree_.out at h
  obtain ⟨x0, d0, rfl, h0⟩ := pop_some h
  obtain ⟨rfl, g⟩ := popN_some h0
  cases g
  rfl
theorem slices_SortStableFunc___code_tree_code_tree_.fn : FnOk Try.prog 126 Try.f126 slices_SortStableFunc___code_tree_code_tree_.body Try.f126.ntmps 2 (fnRes Try.f126) :=
  fnOk_of (by kernel_rfl) (by kernel_rfl) (by kernel_rfl) (by kernel_rfl)
theorem slices_SortStableFunc___code_tree_code_tree_.con' : ∀ k ds r, slices_SortStableFunc___code_tree_code_tree_.g k ds = some r → Con Try.prog 126 2 slices_SortStableFunc___code_tree_code_tree_.ti slices_SortStableFunc___code_tree_code_tree_.to ds (slices_SortStableFunc___code_tree_code_tree_.rs r) :=
  fun_ok (T := T) T_ok mixed slices_SortStableFunc___code_tree_code_tree_.fn (env := slices_SortStableFunc___code_tree_code_tree_.env) (tbl := slices_SortStableFunc___code_tree_code_tree_.tbl) (gOut := slices_SortStableFunc___code_tree_code_tree_.out) (nin := 1) (cuts := []) (fuel := 100000) rfl (by kernel_rfl) (by kernel_rfl) (by kernel_rfl) (fun x hx => by simp [slices_SortStableFunc___code_tree_code_tree_.tbl] at hx) slices_SortStableFunc___code_tree_code_tree_.o slices_SortStableFunc___code_tree_code_tree_.h (fun k _ => by unfold slices_SortStableFunc___code_tree_code_tree_.env; exact (envC_ok (fun ds K r h => by
    obtain ⟨x0, d0, rfl, h0⟩ := pop_some h
    obtain ⟨x1, d1, rfl, h1⟩ := pop_some h0
    obtain ⟨rfl, g⟩ := popN_some h1
    obtain ⟨r1, h1, h2⟩ := bind_some g
    exact ⟨_, h2, slices_stableCmpFunc_code_tree_.con k _ h1⟩) env0_ok))
theorem slices_SortStableFunc___code_tree_code_tree_.con (k : Nat) {x0 : (List (Int × ((List Int) × Unit)))} (r : (List (Int × ((List Int) × Unit)))) (h : slices_SortStableFunc___code_tree_code_tree_.f k x0 = some r) : Con Try.prog 126 2 slices_SortStableFunc___code_tree_code_tree_.ti slices_SortStableFunc___code_tree_code_tree_.to [⟨(.slice (.pair (.int .i64) (.pair (.slice (.int .i64)) .unit))), x0⟩] (slices_SortStableFunc___code_tree_code_tree_.rs r) :=
  slices_SortStableFunc___code_tree_code_tree_.con' (k + 1) _ r (by show slices_SortStableFunc___code_tree_code_tree_.c k _ = some r; unfold slices_SortStableFunc___code_tree_code_tree_.c; simp only [pop_self, popN]; exact h)
mutual
def slices_Grow___int_int_.j6 : Nat → List (Int) → Option (List Int)
 | 0, _ => none
 | k + 1, s0 =>
  some (s0)
end
def slices_Grow___int_int_.f (k : Nat) (n1 : Int) : Option (List Int) :=
 if n1 < 0 then
  none
 else
  if 0 < Go.IntKind.i64.wrap (n1 - Go.IntKind.i64.wrap (0 - 0)) then
   if 0 ≤ 0 then
   if 0 ≤ 0 then
    if 0 ≤ 0 then
     if 0 < Go.IntKind.i64.wrap (n1 - Go.IntKind.i64.wrap (0 - 0)) then
      if Go.Proofs.YtmagglebkbiffaaSx.fitsIn (Go.IntKind.i64.wrap (n1 - Go.IntKind.i64.wrap (0 - 0))).toNat 8 = true then
       if 0 ≤ 0 then
        if 0 ≤ 0 then
         if 0 ≤ (↑(List.replicate (Go.IntKind.i64.wrap (n1 - Go.IntKind.i64.wrap (0 - 0))).toNat (Int.ofNat 0)).length : Int) then
          slices_Grow___int_int_.j6 k (List.take (Int.toNat 0 - Int.toNat 0) (List.drop (Int.toNat 0) (List.replicate (Go.IntKind.i64.wrap (n1 - Go.IntKind.i64.wrap (0 - 0))).toNat (Int.ofNat 0))))
          else none
         else none
        else none
       else none
      else none
     else none
    else none
   else none
  else
   slices_Grow___int_int_.j6 k []

noncomputable def slices_Grow___int_int_.body : Code := fnBody Try.f175
def slices_Grow___int_int_.ti : Tm := ⟨[(0, .nils), (1, .p (.int .i64))], []⟩
def slices_Grow___int_int_.to : Tm := ⟨[(0, .own 0)], [.own (.int .i64)]⟩
def slices_Grow___int_int_.rs (r : (List Int)) : List Dat := [⟨(.slice (.int .i64)), r⟩]
def slices_Grow___int_int_.out (ds : List Dat) : Option ((List Int)) := pop (.slice (.int .i64)) ds fun x0 ds => popN ds (some (x0))
def slices_Grow___int_int_.c (k : Nat) (ds : List Dat) : Option ((List Int)) := pop (.int .i64) ds fun x0 ds => popN ds (slices_Grow___int_int_.f k x0)
def slices_Grow___int_int_.g : Nat → List Dat → Option ((List Int))
 | 0, _ => none
 | k + 1, ds => slices_Grow___int_int_.c k ds
def slices_Grow___int_int_.env (k : Nat) : Nat → List SV → List Chunk → KT ((List Int)) → Option ((List Int)) := env0
def slices_Grow___int_int_.t12 : Tm := ⟨[(0, .own 0)], [.own (.int .i64)]⟩
def slices_Grow___int_int_.c12 (k : Nat) (ds : List Dat) : Option ((List Int)) := pop (.slice (.int .i64)) ds fun x0 ds => popN ds (slices_Grow___int_int_.j6 k x0)
def slices_Grow___int_int_.tbl : List (Nat × Tm × (Nat → List Dat → Option ((List Int)))) := [(12, slices_Grow___int_int_.t12, slices_Grow___int_int_.c12)]
noncomputable abbrev slices_Grow___int_int_.R (k : Nat) := run T (slices_Grow___int_int_.env k) Try.f175.ntmps (cutE 0 slices_Grow___int_int_.tbl k) (finE 0 slices_Grow___int_int_.to slices_Grow___int_int_.out) (fnRes Try.f175) [6] 100000 true
theorem slices_Grow___int_int_.e12 (k : Nat) (x0 : (List Int)) : slices_Grow___int_int_.j6 (k + 1) x0 = slices_Grow___int_int_.R k (start (stackOf 12 slices_Grow___int_int_.body)) (slices_Grow___int_int_.t12.fill [⟨(.slice (.int .i64)), x0⟩]) := by kernel_rfl
theorem slices_Grow___int_int_.s12 : stackAt 12 slices_Grow___int_int_.body [] = some (stackOf 12 slices_Grow___int_int_.body) := by kernel_rfl
theorem slices_Grow___int_int_.h12 (k : Nat) (ds : List Dat) (r : (List Int)) (h : slices_Grow___int_int_.c12 k ds = some r) : ∃ k', k' < k ∧ ∃ s, stackAt 12 slices_Grow___int_int_.body [] = some s ∧ slices_Grow___int_int_.R k' (start s) (slices_Grow___int_int_.t12.fill ds) = some r := by
  unfold slices_Grow___int_int_.c12 at h
  obtain ⟨x0, d0, rfl, h0⟩ := pop_some h
  obtain ⟨rfl, g⟩ := popN_some h0
  cases k with
  | zero => cases (show none = some r from g)
  | succ k => exact ⟨k, Nat.lt_succ_self k, _, slices_Grow___int_int_.s12, (slices_Grow___int_int_.e12 k x0).symm.trans g⟩
theorem slices_Grow___int_int_.e (k : Nat) (x0 : Int) : slices_Grow___int_int_.f k x0 = slices_Grow___int_int_.R k ([.code slices_Grow___int_int_.body]) (slices_Grow___int_int_.ti.fill [⟨(.int .i64), x0⟩]) := by kernel_rfl
theorem slices_Grow___int_int_.h (k : Nat) (ds : List Dat) (r : (List Int)) (h : slices_Grow___int_int_.g k ds = some r) : ∃ k', k' < k ∧ slices_Grow___int_int_.R k' ([.code slices_Grow___int_int_.body]) (slices_Grow___int_int_.ti.fill ds) = some r := by
  cases k with
  | zero => cases (show none = some r from h)
  | succ k =>
  replace h : slices_Grow___int_int_.c k ds = some r := h
  unfold slices_Grow___int_int_.c at h
  obtain ⟨x0, d0, rfl, h0⟩ := pop_some h
  obtain ⟨rfl, g⟩ := popN_some h0
  exact ⟨k, Nat.lt_succ_self k, (slices_Grow___int_int_.e k x0).symm.trans g⟩
theorem slices_Grow___int_int_.o (ds : List Dat) (r : (List Int)) (h : slices_Grow___int_int_.out ds = some r) : ds = slices_Grow___int_int_.rs r := by
  unfold slices_Grow___int_int_.out at h
  obtain ⟨x0, d0, rfl, h0⟩ := pop_some h
  obtain ⟨rfl, g⟩ := popN_some h0
  cases g
  rfl
theorem slices_Grow___int_int_.fn : FnOk Try.prog 175 Try.f175 slices_Grow___int_int_.body Try.f175.ntmps 2 (fnRes Try.f175) :=
  fnOk_of (by kernel_rfl) (by kernel_rfl) (by kernel_rfl) (by kernel_rfl)
theorem slices_Grow___int_int_.con' : ∀ k ds r, slices_Grow___int_int_.g k ds = some r → Con Try.prog 175 2 slices_Grow___int_int_.ti slices_Grow___int_int_.to ds (slices_Grow___int_int_.rs r) :=
  fun_ok (T := T) T_ok mixed slices_Grow___int_int_.fn (env := slices_Grow___int_int_.env) (tbl := slices_Grow___int_int_.tbl) (gOut := slices_Grow___int_int_.out) (nin := 0) (cuts := [6]) (fuel := 100000) rfl (by kernel_rfl) (by kernel_rfl) (by kernel_rfl) (fun x hx => by
    simp only [slices_Grow___int_int_.tbl, List.mem_cons, List.not_mem_nil, or_false] at hx
    subst hx
    · exact slices_Grow___int_int_.h12
) slices_Grow___int_int_.o slices_Grow___int_int_.h (fun k _ => by unfold slices_Grow___int_int_.env; exact env0_ok)
theorem slices_Grow___int_int_.con (k : Nat) {x0 : Int} (r : (List Int)) (h : slices_Grow___int_int_.f k x0 = some r) : Con Try.prog 175 2 slices_Grow___int_int_.ti slices_Grow___int_int_.to [⟨(.int .i64), x0⟩] (slices_Grow___int_int_.rs r) :=
  slices_Grow___int_int_.con' (k + 1) _ r (by show slices_Grow___int_int_.c k _ = some r; unfold slices_Grow___int_int_.c; simp only [pop_self, popN]; exact h)
mutual
def slices_Concat___int_int_.l3 : Nat → List (List (Int)) → Int → List (List (Int)) → Int → Int → List (Int) → Option (List Int)
 | 0, _, _, _, _, _, _ => none
 | k + 1, slices0, size3, x9, x10, x11, x2 =>
  if x11 < x10 then
   if 0 ≤ x11 then
   if x11 < (↑x9.length : Int) then
    if Go.IntKind.i64.wrap (size3 + (↑(Go.Proofs.YtmagglebkbiffaaSx.rd [] x9 x11).length : Int)) < 0 then
      none
     else
      slices_Concat___int_int_.l3 k slices0 (Go.IntKind.i64.wrap (size3 + (↑(Go.Proofs.YtmagglebkbiffaaSx.rd [] x9 x11).length : Int))) x9 x10 (Go.IntKind.i64.wrap (x11 + 1)) x2
    else none
   else none
  else
   (slices_Grow___int_int_.f k size3).bind fun r_3 =>
    slices_Concat___int_int_.l11 k slices0 ((↑slices0.length : Int)) 0 r_3
def slices_Concat___int_int_.l11 : Nat → List (List (Int)) → Int → Int → List (Int) → Option (List Int)
 | 0, _, _, _, _ => none
 | k + 1, x25, x26, x27, newslice6 =>
  if x27 < x26 then
   if 0 ≤ x27 then
   if x27 < (↑x25.length : Int) then
    if Go.Proofs.YtmagglebkbiffaaSx.fitsIn (newslice6 ++ Go.Proofs.YtmagglebkbiffaaSx.rd [] x25 x27).length 8 = true then
     slices_Concat___int_int_.l11 k x25 x26 (Go.IntKind.i64.wrap (x27 + 1)) (newslice6 ++ Go.Proofs.YtmagglebkbiffaaSx.rd [] x25 x27)
     else none
    else none
   else none
  else
   some (newslice6)
end
def slices_Concat___int_int_.f (k : Nat) (slices0 : List (List (Int))) : Option (List Int) :=
 slices_Concat___int_int_.l3 k slices0 0 slices0 ((↑slices0.length : Int)) 0 []

noncomputable def slices_Concat___int_int_.body : Code := fnBody Try.f109
def slices_Concat___int_int_.ti : Tm := ⟨[(0, .p (.slice (.slice (.int .i64))))], []⟩
def slices_Concat___int_int_.to : Tm := ⟨[(0, .own 0)], [.own (.int .i64)]⟩
def slices_Concat___int_int_.rs (r : (List Int)) : List Dat := [⟨(.slice (.int .i64)), r⟩]
def slices_Concat___int_int_.out (ds : List Dat) : Option ((List Int)) := pop (.slice (.int .i64)) ds fun x0 ds => popN ds (some (x0))
def slices_Concat___int_int_.c (k : Nat) (ds : List Dat) : Option ((List Int)) := pop (.slice (.slice (.int .i64))) ds fun x0 ds => popN ds (slices_Concat___int_int_.f k x0)
def slices_Concat___int_int_.g : Nat → List Dat → Option ((List Int))
 | 0, _ => none
 | k + 1, ds => slices_Concat___int_int_.c k ds
def slices_Concat___int_int_.env (k : Nat) : Nat → List SV → List Chunk → KT ((List Int)) → Option ((List Int)) := (envC 175 2 slices_Grow___int_int_.ti slices_Grow___int_int_.to (fun ds K => pop (.int .i64) ds fun x0 ds => popN ds ((slices_Grow___int_int_.f k x0).bind fun r => K (slices_Grow___int_int_.rs r))) env0)
def slices_Concat___int_int_.t7 : Tm := ⟨[(0, .p (.slice (.slice (.int .i64)))), (2, .own 0), (3, .p (.int .i64)), (9, .p (.slice (.slice (.int .i64)))), (10, .p (.int .i64)), (11, .p (.int .i64))], [.own (.int .i64)]⟩
def slices_Concat___int_int_.c7 (k : Nat) (ds : List Dat) : Option ((List Int)) := pop (.slice (.slice (.int .i64))) ds fun x0 ds => pop (.int .i64) ds fun x1 ds => pop (.slice (.slice (.int .i64))) ds fun x2 ds => pop (.int .i64) ds fun x3 ds => pop (.int .i64) ds fun x4 ds => pop (.slice (.int .i64)) ds fun x5 ds => popN ds (slices_Concat___int_int_.l3 k x0 x1 x2 x3 x4 x5)
def slices_Concat___int_int_.t23 : Tm := ⟨[(6, .own 0), (25, .p (.slice (.slice (.int .i64)))), (26, .p (.int .i64)), (27, .p (.int .i64))], [.own (.int .i64)]⟩
def slices_Concat___int_int_.c23 (k : Nat) (ds : List Dat) : Option ((List Int)) := pop (.slice (.slice (.int .i64))) ds fun x0 ds => pop (.int .i64) ds fun x1 ds => pop (.int .i64) ds fun x2 ds => pop (.slice (.int .i64)) ds fun x3 ds => popN ds (slices_Concat___int_int_.l11 k x0 x1 x2 x3)
def slices_Concat___int_int_.tbl : List (Nat × Tm × (Nat → List Dat → Option ((List Int)))) := [(7, slices_Concat___int_int_.t7, slices_Concat___int_int_.c7), (23, slices_Concat___int_int_.t23, slices_Concat___int_int_.c23)]
noncomputable abbrev slices_Concat___int_int_.R (k : Nat) := run T (slices_Concat___int_int_.env k) Try.f109.ntmps (cutE 0 slices_Concat___int_int_.tbl k) (finE 0 slices_Concat___int_int_.to slices_Concat___int_int_.out) (fnRes Try.f109) [] 100000 true
theorem slices_Concat___int_int_.e7 (k : Nat) (x0 : (List (List Int))) (x1 : Int) (x2 : (List (List Int))) (x3 : Int) (x4 : Int) (x5 : (List Int)) : slices_Concat___int_int_.l3 (k + 1) x0 x1 x2 x3 x4 x5 = slices_Concat___int_int_.R k (start (stackOf 7 slices_Concat___int_int_.body)) (slices_Concat___int_int_.t7.fill [⟨(.slice (.slice (.int .i64))), x0⟩, ⟨(.int .i64), x1⟩, ⟨(.slice (.slice (.int .i64))), x2⟩, ⟨(.int .i64), x3⟩, ⟨(.int .i64), x4⟩, ⟨(.slice (.int .i64)), x5⟩]) := by kernel_rfl
theorem slices_Concat___int_int_.s7 : stackAt 7 slices_Concat___int_int_.body [] = some (stackOf 7 slices_Concat___int_int_.body) := by kernel_rfl
theorem slices_Concat___int_int_.h7 (k : Nat) (ds : List Dat) (r : (List Int)) (h : slices_Concat___int_int_.c7 k ds = some r) : ∃ k', k' < k ∧ ∃ s, stackAt 7 slices_Concat___int_int_.body [] = some s ∧ slices_Concat___int_int_.R k' (start s) (slices_Concat___int_int_.t7.fill ds) = some r := by
  unfold slices_Concat___int_int_.c7 at h
  obtain ⟨x0, d0, rfl, h0⟩ := pop_some h
  obtain ⟨x1, d1, rfl, h1⟩ := pop_some h0
  obtain ⟨x2, d2, rfl, h2⟩ := pop_some h1
  obtain ⟨x3, d3, rfl, h3⟩ := pop_some h2
  obtain ⟨x4, d4, rfl, h4⟩ := pop_some h3
  obtain ⟨x5, d5, rfl, h5⟩ := pop_some h4
  obtain ⟨rfl, g⟩ := popN_some h5
  cases k with
  | zero => cases (show none = some r from g)
  | succ k => exact ⟨k, Nat.lt_succ_self k, _, slices_Concat___int_int_.s7, (slices_Concat___int_int_.e7 k x0 x1 x2 x3 x4 x5).symm.trans g⟩
theorem slices_Concat___int_int_.e23 (k : Nat) (x0 : (List (List Int))) (x1 : Int) (x2 : Int) (x3 : (List Int)) : slices_Concat___int_int_.l11 (k + 1) x0 x1 x2 x3 = slices_Concat___int_int_.R k (start (stackOf 23 slices_Concat___int_int_.body)) (slices_Concat___int_int_.t23.fill [⟨(.slice (.slice (.int .i64))), x0⟩, ⟨(.int .i64), x1⟩, ⟨(.int .i64), x2⟩, ⟨(.slice (.int .i64)), x3⟩]) := by kernel_rfl
theorem slices_Concat___int_int_.s23 : stackAt 23 slices_Concat___int_int_.body [] = some (stackOf 23 slices_Concat___int_int_.body) := by kernel_rfl
theorem slices_Concat___int_int_.h23 (k : Nat) (ds : List Dat) (r : (List Int)) (h : slices_Concat___int_int_.c23 k ds = some r) : ∃ k', k' < k ∧ ∃ s, stackAt 23 slices_Concat___int_int_.body [] = some s ∧ slices_Concat___int_int_.R k' (start s) (slices_Concat___int_int_.t23.fill ds) = some r := by
  unfold slices_Concat___int_int_.c23 at h
  obtain ⟨x0, d0, rfl, h0⟩ := pop_some h
  obtain ⟨x1, d1, rfl, h1⟩ := pop_some h0
  obtain ⟨x2, d2, rfl, h2⟩ := pop_some h1
  obtain ⟨x3, d3, rfl, h3⟩ := pop_some h2
  obtain ⟨rfl, g⟩ := popN_some h3
  cases k with
  | zero => cases (show none = some r from g)
  | succ k => exact ⟨k, Nat.lt_succ_self k, _, slices_Concat___int_int_.s23, (slices_Concat___int_int_.e23 k x0 x1 x2 x3).symm.trans g⟩
theorem slices_Concat___int_int_.e (k : Nat) (x0 : (List (List Int))) : slices_Concat___int_int_.f k x0 = slices_Concat___int_int_.R k ([.code slices_Concat___int_int_.body]) (slices_Concat___int_int_.ti.fill [⟨(.slice (.slice (.int .i64))), x0⟩]) := by kernel_rfl
theorem slices_Concat___int_int_.h (k : Nat) (ds : List Dat) (r : (List Int)) (h : slices_Concat___int_int_.g k ds = some r) : ∃ k', k' < k ∧ slices_Concat___int_int_.R k' ([.code slices_Concat___int_int_.body]) (slices_Concat___int_int_.ti.fill ds) = some r := by
  cases k with
  | zero => cases (show none = some r from h)
  | succ k =>
  replace h : slices_Concat___int_int_.c k ds = some r := h
  unfold slices_Concat___int_int_.c at h
  obtain ⟨x0, d0, rfl, h0⟩ := pop_some h
  obtain ⟨rfl, g⟩ := popN_some h0
  exact ⟨k, Nat.lt_succ_self k, (slices_Concat___int_int_.e k x0).symm.trans g⟩
theorem slices_Concat___int_int_.o (ds : List Dat) (r : (List Int)) (h : slices_Concat___int_int_.out ds = some r) : ds = slices_Concat___int_int_.rs r := by
  unfold slices_Concat___int_int_.out at h
  obtain ⟨x0, d0, rfl, h0⟩ := pop_some h
  obtain ⟨rfl, g⟩ := popN_some h0
  cases g
  rfl
theorem slices_Concat___int_int_.fn : FnOk Try.prog 109 Try.f109 slices_Concat___int_int_.body Try.f109.ntmps 1 (fnRes Try.f109) :=
  fnOk_of (by kernel_rfl) (by kernel_rfl) (by kernel_rfl) (by kernel_rfl)
theorem slices_Concat___int_int_.con' : ∀ k ds r, slices_Concat___int_int_.g k ds = some r → Con Try.prog 109 1 slices_Concat___int_int_.ti slices_Concat___int_int_.to ds (slices_Concat___int_int_.rs r) :=
  fun_ok (T := T) T_ok mixed slices_Concat___int_int_.fn (env := slices_Concat___int_int_.env) (tbl := slices_Concat___int_int_.tbl) (gOut := slices_Concat___int_int_.out) (nin := 0) (cuts := []) (fuel := 100000) rfl (by kernel_rfl) (by kernel_rfl) (by kernel_rfl) (fun x hx => by
    simp only [slices_Concat___int_int_.tbl, List.mem_cons, List.not_mem_nil, or_false] at hx
    rcases hx with rfl | rfl
    · exact slices_Concat___int_int_.h7
    · exact slices_Concat___int_int_.h23
) slices_Concat___int_int_.o slices_Concat___int_int_.h (fun k _ => by unfold slices_Concat___int_int_.env; exact (envC_ok (fun ds K r h => by
    obtain ⟨x0, d0, rfl, h0⟩ := pop_some h
    obtain ⟨rfl, g⟩ := popN_some h0
    obtain ⟨r1, h1, h2⟩ := bind_some g
    exact ⟨_, h2, slices_Grow___int_int_.con k _ h1⟩) env0_ok))
theorem slices_Concat___int_int_.con (k : Nat) {x0 : (List (List Int))} (r : (List Int)) (h : slices_Concat___int_int_.f k x0 = some r) : Con Try.prog 109 1 slices_Concat___int_int_.ti slices_Concat___int_int_.to [⟨(.slice (.slice (.int .i64))), x0⟩] (slices_Concat___int_int_.rs r) :=
  slices_Concat___int_int_.con' (k + 1) _ r (by show slices_Concat___int_int_.c k _ = some r; unfold slices_Concat___int_int_.c; simp only [pop_self, popN]; exact h)
mutual
def code_Cheap.l5 : Nat → List (Int) → Int → List (Int) → Int → Int → List ((Int × (List (Int) × Unit))) → Option (Int × Int × List (List Int))
 | 0, _, _, _, _, _, _ => none
 | k + 1, weights0, cost3, x20, x21, x22, rows5 =>
  if x22 < x21 then
   if 0 ≤ x22 then
   if x22 < (↑x20.length : Int) then
    if Go.Proofs.YtmagglebkbiffaaSx.rd (Int.ofNat 0) x20 x22 < 1 then
      some (0, 2, [])
     else
      if 1000000 < Go.Proofs.YtmagglebkbiffaaSx.rd (Int.ofNat 0) x20 x22 then
       some (0, 2, [])
      else
       if Go.Proofs.YtmagglebkbiffaaSx.fitsIn (rows5 ++ [(Go.Proofs.YtmagglebkbiffaaSx.rd (Int.ofNat 0) x20 x22, [x22], ())]).length 32 = true then
       code_Cheap.l5 k weights0 cost3 x20 x21 (Go.IntKind.i64.wrap (x22 + 1)) (rows5 ++ [(Go.Proofs.YtmagglebkbiffaaSx.rd (Int.ofNat 0) x20 x22, [x22], ())])
       else none
    else none
   else none
  else
   if 0 ≤ (↑weights0.length : Int) then
   if (↑weights0.length : Int) ≤ (↑weights0.length : Int) then
    if (↑weights0.length : Int) * ((↑24 : Int) + 1) ≤ 281474976710656 then
     code_Cheap.l12 k cost3 (List.replicate (↑weights0.length : Int).toNat []) rows5
     else none
    else none
   else none
def code_Cheap.l12 : Nat → Int → List (List (Int)) → List ((Int × (List (Int) × Unit))) → Option (Int × Int × List (List Int))
 | 0, _, _, _ => none
 | k + 1, cost3, l2, rows5 =>
  if 1 < (↑rows5.length : Int) then
   (slices_SortStableFunc___code_tree_code_tree_.f k rows5).bind fun r_3 =>
    code_Cheap.l15 k cost3 0 l2 r_3
  else
   some (cost3, 0, l2)
def code_Cheap.l15 : Nat → Int → Int → List (List (Int)) → List ((Int × (List (Int) × Unit))) → Option (Int × Int × List (List Int))
 | 0, _, _, _, _ => none
 | k + 1, cost3, x49, l2, rows5 =>
  if x49 < 2 then
   if 0 ≤ x49 then
   if x49 < (↑rows5.length : Int) then
    code_Cheap.l18 k cost3 x49 x49 ((rows5.getD x49.toNat (Int.ofNat 0, [], ())).snd.fst) ((↑(rows5.getD x49.toNat (Int.ofNat 0, [], ())).snd.fst.length : Int)) 0 l2 rows5
    else none
   else none
  else
   if 0 ≤ 0 then
   if 0 < (↑rows5.length : Int) then
    if 0 ≤ 1 then
     if 1 < (↑rows5.length : Int) then
      if 0 ≤ 0 then
       if 0 < (↑rows5.length : Int) then
        if 0 ≤ 1 then
         if 1 < (↑rows5.length : Int) then
          (slices_Concat___int_int_.f k [(rows5.getD (Int.toNat 0) (Int.ofNat 0, [], ())).snd.fst, (rows5.getD (Int.toNat 1) (Int.ofNat 0, [], ())).snd.fst]).bind fun r_11 =>
            if 0 ≤ 2 then
            if 2 ≤ (↑rows5.length : Int) then
             if (↑rows5.length : Int) ≤ (↑rows5.length : Int) then
              if Go.Proofs.YtmagglebkbiffaaSx.fitsIn (List.take ((↑rows5.length : Int).toNat - Int.toNat 2) (List.drop (Int.toNat 2) rows5) ++ [(Go.IntKind.i64.wrap ((rows5.getD (Int.toNat 0) (Int.ofNat 0, [], ())).fst + (rows5.getD (Int.toNat 1) (Int.ofNat 0, [], ())).fst), r_11, ())]).length 32 = true then
               code_Cheap.l12 k (Go.IntKind.i64.wrap (cost3 + Go.IntKind.i64.wrap ((rows5.getD (Int.toNat 0) (Int.ofNat 0, [], ())).fst + (rows5.getD (Int.toNat 1) (Int.ofNat 0, [], ())).fst))) l2 (List.take ((↑rows5.length : Int).toNat - Int.toNat 2) (List.drop (Int.toNat 2) rows5) ++ [(Go.IntKind.i64.wrap ((rows5.getD (Int.toNat 0) (Int.ofNat 0, [], ())).fst + (rows5.getD (Int.toNat 1) (Int.ofNat 0, [], ())).fst), r_11, ())])
               else none
              else none
             else none
            else none
          else none
         else none
        else none
       else none
      else none
     else none
    else none
   else none
def code_Cheap.l18 : Nat → Int → Int → Int → List (Int) → Int → Int → List (List (Int)) → List ((Int × (List (Int) × Unit))) → Option (Int × Int × List (List Int))
 | 0, _, _, _, _, _, _, _, _ => none
 | k + 1, cost3, k8, x49, x56, x57, x58, l2, rows5 =>
  if x58 < x57 then
   if 0 ≤ x58 then
   if x58 < (↑x56.length : Int) then
    if 0 ≤ Go.Proofs.YtmagglebkbiffaaSx.rd (Int.ofNat 0) x56 x58 then
     if Go.Proofs.YtmagglebkbiffaaSx.rd (Int.ofNat 0) x56 x58 < (↑l2.length : Int) then
      if Go.Proofs.YtmagglebkbiffaaSx.fitsIn ([k8] ++ l2.getD (Go.Proofs.YtmagglebkbiffaaSx.rd (Int.ofNat 0) x56 x58).toNat []).length 8 = true then
       if 0 ≤ Go.Proofs.YtmagglebkbiffaaSx.rd (Int.ofNat 0) x56 x58 then
        if Go.Proofs.YtmagglebkbiffaaSx.rd (Int.ofNat 0) x56 x58 < (↑l2.length : Int) then
         code_Cheap.l18 k cost3 k8 x49 x56 x57 (Go.IntKind.i64.wrap (x58 + 1)) (l2.set (Go.Proofs.YtmagglebkbiffaaSx.rd (Int.ofNat 0) x56 x58).toNat ([k8] ++ l2.getD (Go.Proofs.YtmagglebkbiffaaSx.rd (Int.ofNat 0) x56 x58).toNat [])) rows5
         else none
        else none
       else none
      else none
     else none
    else none
   else none
  else
   code_Cheap.l15 k cost3 (Go.IntKind.i64.wrap (x49 + 1)) l2 rows5
end
def code_Cheap.f (k : Nat) (weights0 : List (Int)) : Option (Int × Int × List (List Int)) :=
 if (↑weights0.length : Int) < 1 then
  some (0, 1, [])
 else
  if 20 < (↑weights0.length : Int) then
   some (0, 1, [])
  else
   code_Cheap.l5 k weights0 0 weights0 ((↑weights0.length : Int)) 0 []

noncomputable def code_Cheap.body : Code := fnBody Try.f62
def code_Cheap.ti : Tm := ⟨[(0, .p (.slice (.int .i64)))], []⟩
def code_Cheap.to : Tm := ⟨[(0, .own 0), (1, .p (.int .i64)), (2, .p (.int .i64))], [.own (.slice (.int .i64))]⟩
def code_Cheap.rs (r : Int × Int × (List (List Int))) : List Dat := [⟨(.int .i64), r.1⟩, ⟨(.int .i64), r.2.1⟩, ⟨(.slice (.slice (.int .i64))), r.2.2⟩]
def code_Cheap.out (ds : List Dat) : Option (Int × Int × (List (List Int))) := pop (.int .i64) ds fun x0 ds => pop (.int .i64) ds fun x1 ds => pop (.slice (.slice (.int .i64))) ds fun x2 ds => popN ds (some (x0, x1, x2))
def code_Cheap.c (k : Nat) (ds : List Dat) : Option (Int × Int × (List (List Int))) := pop (.slice (.int .i64)) ds fun x0 ds => popN ds (code_Cheap.f k x0)
def code_Cheap.g : Nat → List Dat → Option (Int × Int × (List (List Int)))
 | 0, _ => none
 | k + 1, ds => code_Cheap.c k ds
def code_Cheap.env (k : Nat) : Nat → List SV → List Chunk → KT (Int × Int × (List (List Int))) → Option (Int × Int × (List (List Int))) := (envC 126 2 slices_SortStableFunc___code_tree_code_tree_.ti slices_SortStableFunc___code_tree_code_tree_.to (fun ds K => pop (.slice (.pair (.int .i64) (.pair (.slice (.int .i64)) .unit))) ds fun x0 ds => popN ds ((slices_SortStableFunc___code_tree_code_tree_.f k x0).bind fun r => K (slices_SortStableFunc___code_tree_code_tree_.rs r))) (envC 109 1 slices_Concat___int_int_.ti slices_Concat___int_int_.to (fun ds K => pop (.slice (.slice (.int .i64))) ds fun x0 ds => popN ds ((slices_Concat___int_int_.f k x0).bind fun r => K (slices_Concat___int_int_.rs r))) env0))
def code_Cheap.t11 : Tm := ⟨[(0, .p (.slice (.int .i64))), (3, .p (.int .i64)), (5, .own 0), (20, .p (.slice (.int .i64))), (21, .p (.int .i64)), (22, .p (.int .i64))], [.own (.pair (.int .i64) (.pair (.slice (.int .i64)) .unit))]⟩
def code_Cheap.c11 (k : Nat) (ds : List Dat) : Option (Int × Int × (List (List Int))) := pop (.slice (.int .i64)) ds fun x0 ds => pop (.int .i64) ds fun x1 ds => pop (.slice (.int .i64)) ds fun x2 ds => pop (.int .i64) ds fun x3 ds => pop (.int .i64) ds fun x4 ds => pop (.slice (.pair (.int .i64) (.pair (.slice (.int .i64)) .unit))) ds fun x5 ds => popN ds (code_Cheap.l5 k x0 x1 x2 x3 x4 x5)
def code_Cheap.t25 : Tm := ⟨[(2, .own 0), (3, .p (.int .i64)), (5, .own 1)], [.own (.slice (.int .i64)), .own (.pair (.int .i64) (.pair (.slice (.int .i64)) .unit))]⟩
def code_Cheap.c25 (k : Nat) (ds : List Dat) : Option (Int × Int × (List (List Int))) := pop (.int .i64) ds fun x0 ds => pop (.slice (.slice (.int .i64))) ds fun x1 ds => pop (.slice (.pair (.int .i64) (.pair (.slice (.int .i64)) .unit))) ds fun x2 ds => popN ds (code_Cheap.l12 k x0 x1 x2)
def code_Cheap.t31 : Tm := ⟨[(2, .own 0), (3, .p (.int .i64)), (5, .own 1), (49, .p (.int .i64))], [.own (.slice (.int .i64)), .own (.pair (.int .i64) (.pair (.slice (.int .i64)) .unit))]⟩
def code_Cheap.c31 (k : Nat) (ds : List Dat) : Option (Int × Int × (List (List Int))) := pop (.int .i64) ds fun x0 ds => pop (.int .i64) ds fun x1 ds => pop (.slice (.slice (.int .i64))) ds fun x2 ds => pop (.slice (.pair (.int .i64) (.pair (.slice (.int .i64)) .unit))) ds fun x3 ds => popN ds (code_Cheap.l15 k x0 x1 x2 x3)
def code_Cheap.t37 : Tm := ⟨[(2, .own 0), (3, .p (.int .i64)), (5, .own 1), (8, .p (.int .i64)), (49, .p (.int .i64)), (56, .p (.slice (.int .i64))), (57, .p (.int .i64)), (58, .p (.int .i64))], [.own (.slice (.int .i64)), .own (.pair (.int .i64) (.pair (.slice (.int .i64)) .unit))]⟩
def code_Cheap.c37 (k : Nat) (ds : List Dat) : Option (Int × Int × (List (List Int))) := pop (.int .i64) ds fun x0 ds => pop (.int .i64) ds fun x1 ds => pop (.int .i64) ds fun x2 ds => pop (.slice (.int .i64)) ds fun x3 ds => pop (.int .i64) ds fun x4 ds => pop (.int .i64) ds fun x5 ds => pop (.slice (.slice (.int .i64))) ds fun x6 ds => pop (.slice (.pair (.int .i64) (.pair (.slice (.int .i64)) .unit))) ds fun x7 ds => popN ds (code_Cheap.l18 k x0 x1 x2 x3 x4 x5 x6 x7)
def code_Cheap.tbl : List (Nat × Tm × (Nat → List Dat → Option (Int × Int × (List (List Int))))) := [(11, code_Cheap.t11, code_Cheap.c11), (25, code_Cheap.t25, code_Cheap.c25), (31, code_Cheap.t31, code_Cheap.c31), (37, code_Cheap.t37, code_Cheap.c37)]
noncomputable abbrev code_Cheap.R (k : Nat) := run T (code_Cheap.env k) Try.f62.ntmps (cutE 0 code_Cheap.tbl k) (finE 0 code_Cheap.to code_Cheap.out) (fnRes Try.f62) [] 100000 true
theorem code_Cheap.e11 (k : Nat) (x0 : (List Int)) (x1 : Int) (x2 : (List Int)) (x3 : Int) (x4 : Int) (x5 : (List (Int × ((List Int) × Unit)))) : code_Cheap.l5 (k + 1) x0 x1 x2 x3 x4 x5 = code_Cheap.R k (start (stackOf 11 code_Cheap.body)) (code_Cheap.t11.fill [⟨(.slice (.int .i64)), x0⟩, ⟨(.int .i64), x1⟩, ⟨(.slice (.int .i64)), x2⟩, ⟨(.int .i64), x3⟩, ⟨(.int .i64), x4⟩, ⟨(.slice (.pair (.int .i64) (.pair (.slice (.int .i64)) .unit))), x5⟩]) := by kernel_rfl
theorem code_Cheap.s11 : stackAt 11 code_Cheap.body [] = some (stackOf 11 code_Cheap.body) := by kernel_rfl
theorem code_Cheap.h11 (k : Nat) (ds : List Dat) (r : Int × Int × (List (List Int))) (h : code_Cheap.c11 k ds = some r) : ∃ k', k' < k ∧ ∃ s, stackAt 11 code_Cheap.body [] = some s ∧ code_Cheap.R k' (start s) (code_Cheap.t11.fill ds) = some r := by
  unfold code_Cheap.c11 at h
  obtain ⟨x0, d0, rfl, h0⟩ := pop_some h
  obtain ⟨x1, d1, rfl, h1⟩ := pop_some h0
  obtain ⟨x2, d2, rfl, h2⟩ := pop_some h1
  obtain ⟨x3, d3, rfl, h3⟩ := pop_some h2
  obtain ⟨x4, d4, rfl, h4⟩ := pop_some h3
  obtain ⟨x5, d5, rfl, h5⟩ := pop_some h4
  obtain ⟨rfl, g⟩ := popN_some h5
  cases k with
  | zero => cases (show none = some r from g)
  | succ k => exact ⟨k, Nat.lt_succ_self k, _, code_Cheap.s11, (code_Cheap.e11 k x0 x1 x2 x3 x4 x5).symm.trans g⟩
theorem code_Cheap.e25 (k : Nat) (x0 : Int) (x1 : (List (List Int))) (x2 : (List (Int × ((List Int) × Unit)))) : code_Cheap.l12 (k + 1) x0 x1 x2 = code_Cheap.R k (start (stackOf 25 code_Cheap.body)) (code_Cheap.t25.fill [⟨(.int .i64), x0⟩, ⟨(.slice (.slice (.int .i64))), x1⟩, ⟨(.slice (.pair (.int .i64) (.pair (.slice (.int .i64)) .unit))), x2⟩]) := by kernel_rfl
theorem code_Cheap.s25 : stackAt 25 code_Cheap.body [] = some (stackOf 25 code_Cheap.body) := by kernel_rfl
theorem code_Cheap.h25 (k : Nat) (ds : List Dat) (r : Int × Int × (List (List Int))) (h : code_Cheap.c25 k ds = some r) : ∃ k', k' < k ∧ ∃ s, stackAt 25 code_Cheap.body [] = some s ∧ code_Cheap.R k' (start s) (code_Cheap.t25.fill ds) = some r := by
  unfold code_Cheap.c25 at h
  obtain ⟨x0, d0, rfl, h0⟩ := pop_some h
  obtain ⟨x1, d1, rfl, h1⟩ := pop_some h0
  obtain ⟨x2, d2, rfl, h2⟩ := pop_some h1
  obtain ⟨rfl, g⟩ := popN_some h2
  cases k with
  | zero => cases (show none = some r from g)
  | succ k => exact ⟨k, Nat.lt_succ_self k, _, code_Cheap.s25, (code_Cheap.e25 k x0 x1 x2).symm.trans g⟩
theorem code_Cheap.e31 (k : Nat) (x0 : Int) (x1 : Int) (x2 : (List (List Int))) (x3 : (List (Int × ((List Int) × Unit)))) : code_Cheap.l15 (k + 1) x0 x1 x2 x3 = code_Cheap.R k (start (stackOf 31 code_Cheap.body)) (code_Cheap.t31.fill [⟨(.int .i64), x0⟩, ⟨(.int .i64), x1⟩, ⟨(.slice (.slice (.int .i64))), x2⟩, ⟨(.slice (.pair (.int .i64) (.pair (.slice (.int .i64)) .unit))), x3⟩]) := by kernel_rfl
theorem code_Cheap.s31 : stackAt 31 code_Cheap.body [] = some (stackOf 31 code_Cheap.body) := by kernel_rfl
theorem code_Cheap.h31 (k : Nat) (ds : List Dat) (r : Int × Int × (List (List Int))) (h : code_Cheap.c31 k ds = some r) : ∃ k', k' < k ∧ ∃ s, stackAt 31 code_Cheap.body [] = some s ∧ code_Cheap.R k' (start s) (code_Cheap.t31.fill ds) = some r := by
  unfold code_Cheap.c31 at h
  obtain ⟨x0, d0, rfl, h0⟩ := pop_some h
  obtain ⟨x1, d1, rfl, h1⟩ := pop_some h0
  obtain ⟨x2, d2, rfl, h2⟩ := pop_some h1
  obtain ⟨x3, d3, rfl, h3⟩ := pop_some h2
  obtain ⟨rfl, g⟩ := popN_some h3
  cases k with
  | zero => cases (show none = some r from g)
  | succ k => exact ⟨k, Nat.lt_succ_self k, _, code_Cheap.s31, (code_Cheap.e31 k x0 x1 x2 x3).symm.trans g⟩
theorem code_Cheap.e37 (k : Nat) (x0 : Int) (x1 : Int) (x2 : Int) (x3 : (List Int)) (x4 : Int) (x5 : Int) (x6 : (List (List Int))) (x7 : (List (Int × ((List Int) × Unit)))) : code_Cheap.l18 (k + 1) x0 x1 x2 x3 x4 x5 x6 x7 = code_Cheap.R k (start (stackOf 37 code_Cheap.body)) (code_Cheap.t37.fill [⟨(.int .i64), x0⟩, ⟨(.int .i64), x1⟩, ⟨(.int .i64), x2⟩, ⟨(.slice (.int .i64)), x3⟩, ⟨(.int .i64), x4⟩, ⟨(.int .i64), x5⟩, ⟨(.slice (.slice (.int .i64))), x6⟩, ⟨(.slice (.pair (.int .i64) (.pair (.slice (.int .i64)) .unit))), x7⟩]) := by kernel_rfl
theorem code_Cheap.s37 : stackAt 37 code_Cheap.body [] = some (stackOf 37 code_Cheap.body) := by kernel_rfl
theorem code_Cheap.h37 (k : Nat) (ds : List Dat) (r : Int × Int × (List (List Int))) (h : code_Cheap.c37 k ds = some r) : ∃ k', k' < k ∧ ∃ s, stackAt 37 code_Cheap.body [] = some s ∧ code_Cheap.R k' (start s) (code_Cheap.t37.fill ds) = some r := by
  unfold code_Cheap.c37 at h
  obtain ⟨x0, d0, rfl, h0⟩ := pop_some h
  obtain ⟨x1, d1, rfl, h1⟩ := pop_some h0
  obtain ⟨x2, d2, rfl, h2⟩ := pop_some h1
  obtain ⟨x3, d3, rfl, h3⟩ := pop_some h2
  obtain ⟨x4, d4, rfl, h4⟩ := pop_some h3
  obtain ⟨x5, d5, rfl, h5⟩ := pop_some h4
  obtain ⟨x6, d6, rfl, h6⟩ := pop_some h5
  obtain ⟨x7, d7, rfl, h7⟩ := pop_some h6
  obtain ⟨rfl, g⟩ := popN_some h7
  cases k with
  | zero => cases (show none = some r from g)
  | succ k => exact ⟨k, Nat.lt_succ_self k, _, code_Cheap.s37, (code_Cheap.e37 k x0 x1 x2 x3 x4 x5 x6 x7).symm.trans g⟩
theorem code_Cheap.e (k : Nat) (x0 : (List Int)) : code_Cheap.f k x0 = code_Cheap.R k ([.code code_Cheap.body]) (code_Cheap.ti.fill [⟨(.slice (.int .i64)), x0⟩]) := by kernel_rfl
theorem code_Cheap.h (k : Nat) (ds : List Dat) (r : Int × Int × (List (List Int))) (h : code_Cheap.g k ds = some r) : ∃ k', k' < k ∧ code_Cheap.R k' ([.code code_Cheap.body]) (code_Cheap.ti.fill ds) = some r := by
  cases k with
  | zero => cases (show none = some r from h)
  | succ k =>
  replace h : code_Cheap.c k ds = some r := h
  unfold code_Cheap.c at h
  obtain ⟨x0, d0, rfl, h0⟩ := pop_some h
  obtain ⟨rfl, g⟩ := popN_some h0
  exact ⟨k, Nat.lt_succ_self k, (code_Cheap.e k x0).symm.trans g⟩
theorem code_Cheap.o (ds : List Dat) (r : Int × Int × (List (List Int))) (h : code_Cheap.out ds = some r) : ds = code_Cheap.rs r := by
  unfold code_Cheap.out at h
  obtain ⟨x0, d0, rfl, h0⟩ := pop_some h
  obtain ⟨x1, d1, rfl, h1⟩ := pop_some h0
  obtain ⟨x2, d2, rfl, h2⟩ := pop_some h1
  obtain ⟨rfl, g⟩ := popN_some h2
  cases g
  rfl
theorem code_Cheap.fn : FnOk Try.prog 62 Try.f62 code_Cheap.body Try.f62.ntmps 1 (fnRes Try.f62) :=
  fnOk_of (by kernel_rfl) (by kernel_rfl) (by kernel_rfl) (by kernel_rfl)
theorem code_Cheap.con' : ∀ k ds r, code_Cheap.g k ds = some r → Con Try.prog 62 1 code_Cheap.ti code_Cheap.to ds (code_Cheap.rs r) :=
  fun_ok (T := T) T_ok mixed code_Cheap.fn (env := code_Cheap.env) (tbl := code_Cheap.tbl) (gOut := code_Cheap.out) (nin := 0) (cuts := []) (fuel := 100000) rfl (by kernel_rfl) (by kernel_rfl) (by kernel_rfl) (fun x hx => by
    simp only [code_Cheap.tbl, List.mem_cons, List.not_mem_nil, or_false] at hx
    rcases hx with rfl | rfl | rfl | rfl
    · exact code_Cheap.h11
    · exact code_Cheap.h25
    · exact code_Cheap.h31
    · exact code_Cheap.h37
) code_Cheap.o code_Cheap.h (fun k _ => by unfold code_Cheap.env; exact (envC_ok (fun ds K r h => by
    obtain ⟨x0, d0, rfl, h0⟩ := pop_some h
    obtain ⟨rfl, g⟩ := popN_some h0
    obtain ⟨r1, h1, h2⟩ := bind_some g
    exact ⟨_, h2, slices_SortStableFunc___code_tree_code_tree_.con k _ h1⟩) (envC_ok (fun ds K r h => by
    obtain ⟨x0, d0, rfl, h0⟩ := pop_some h
    obtain ⟨rfl, g⟩ := popN_some h0
    obtain ⟨r1, h1, h2⟩ := bind_some g
    exact ⟨_, h2, slices_Concat___int_int_.con k _ h1⟩) env0_ok)))
theorem code_Cheap.con (k : Nat) {x0 : (List Int)} (r : Int × Int × (List (List Int))) (h : code_Cheap.f k x0 = some r) : Con Try.prog 62 1 code_Cheap.ti code_Cheap.to [⟨(.slice (.int .i64)), x0⟩] (code_Cheap.rs r) :=
  code_Cheap.con' (k + 1) _ r (by show code_Cheap.c k _ = some r; unfold code_Cheap.c; simp only [pop_self, popN]; exact h)
mutual
def evermoreref24_Cheapest.l3 : Nat → Int → List (Int) → Option (Int)
 | 0, _, _ => none
 | k + 1, cost4, l3 =>
  if 1 < (↑l3.length : Int) then
   evermoreref24_Cheapest.l5 k cost4 0 l3
  else
   some (cost4)
def evermoreref24_Cheapest.l5 : Nat → Int → Int → List (Int) → Option (Int)
 | 0, _, _, _ => none
 | k + 1, cost4, k5, l3 =>
  if k5 < 2 then
   evermoreref24_Cheapest.l8 k cost4 k5 (Go.IntKind.i64.wrap (k5 + 1)) l3
  else
   if 0 ≤ 0 then
   if 0 < (↑l3.length : Int) then
    if 0 ≤ 1 then
     if 1 < (↑l3.length : Int) then
      if 0 ≤ 0 then
       if 0 < (↑l3.length : Int) then
        if 0 ≤ 1 then
         if 1 < (↑l3.length : Int) then
          if 0 ≤ 1 then
           if 1 < (↑l3.length : Int) then
            if 0 ≤ 1 then
             if 1 ≤ (↑(l3.set (Int.toNat 1) (Go.IntKind.i64.wrap (l3.getD (Int.toNat 0) (Int.ofNat 0) + l3.getD (Int.toNat 1) (Int.ofNat 0)))).length : Int) then
              if (↑(l3.set (Int.toNat 1) (Go.IntKind.i64.wrap (l3.getD (Int.toNat 0) (Int.ofNat 0) + l3.getD (Int.toNat 1) (Int.ofNat 0)))).length : Int) ≤ (↑(l3.set (Int.toNat 1) (Go.IntKind.i64.wrap (l3.getD (Int.toNat 0) (Int.ofNat 0) + l3.getD (Int.toNat 1) (Int.ofNat 0)))).length : Int) then
               evermoreref24_Cheapest.l3 k (Go.IntKind.i64.wrap (Go.IntKind.i64.wrap (cost4 + l3.getD (Int.toNat 0) (Int.ofNat 0)) + l3.getD (Int.toNat 1) (Int.ofNat 0))) (List.take ((↑(l3.set (Int.toNat 1) (Go.IntKind.i64.wrap (l3.getD (Int.toNat 0) (Int.ofNat 0) + l3.getD (Int.toNat 1) (Int.ofNat 0)))).length : Int).toNat - Int.toNat 1) (List.drop (Int.toNat 1) (l3.set (Int.toNat 1) (Go.IntKind.i64.wrap (l3.getD (Int.toNat 0) (Int.ofNat 0) + l3.getD (Int.toNat 1) (Int.ofNat 0))))))
               else none
              else none
             else none
            else none
           else none
          else none
         else none
        else none
       else none
      else none
     else none
    else none
   else none
def evermoreref24_Cheapest.l8 : Nat → Int → Int → Int → List (Int) → Option (Int)
 | 0, _, _, _, _ => none
 | k + 1, cost4, k5, i6, l3 =>
  if i6 < (↑l3.length : Int) then
   if 0 ≤ i6 then
   if i6 < (↑l3.length : Int) then
    if 0 ≤ k5 then
     if k5 < (↑l3.length : Int) then
      if l3.getD i6.toNat (Int.ofNat 0) < l3.getD k5.toNat (Int.ofNat 0) then
        if 0 ≤ k5 then
        if k5 < (↑l3.length : Int) then
         if 0 ≤ i6 then
          if i6 < (↑l3.length : Int) then
           if 0 ≤ i6 then
            if i6 < (↑l3.length : Int) then
             if 0 ≤ k5 then
              if k5 < (↑(l3.set i6.toNat (l3.getD k5.toNat (Int.ofNat 0))).length : Int) then
               evermoreref24_Cheapest.j9 k cost4 k5 i6 ((l3.set i6.toNat (l3.getD k5.toNat (Int.ofNat 0))).set k5.toNat (l3.getD i6.toNat (Int.ofNat 0)))
               else none
              else none
             else none
            else none
           else none
          else none
         else none
        else none
       else
        evermoreref24_Cheapest.j9 k cost4 k5 i6 l3
      else none
     else none
    else none
   else none
  else
   evermoreref24_Cheapest.l5 k cost4 (Go.IntKind.i64.wrap (k5 + 1)) l3
def evermoreref24_Cheapest.j9 : Nat → Int → Int → Int → List (Int) → Option (Int)
 | 0, _, _, _, _ => none
 | k + 1, cost4, k5, i6, l3 =>
  evermoreref24_Cheapest.l8 k cost4 k5 (Go.IntKind.i64.wrap (i6 + 1)) l3
end
def evermoreref24_Cheapest.f (k : Nat) (weights0 : List (Int)) : Option (Int) :=
 if Go.Proofs.YtmagglebkbiffaaSx.fitsIn ([] ++ weights0).length 8 = true then
 evermoreref24_Cheapest.l3 k 0 ([] ++ weights0)
 else none

noncomputable def evermoreref24_Cheapest.body : Code := fnBody Try.f63
def evermoreref24_Cheapest.ti : Tm := ⟨[(0, .p (.slice (.int .i64)))], []⟩
def evermoreref24_Cheapest.to : Tm := ⟨[(0, .p (.int .i64))], []⟩
def evermoreref24_Cheapest.rs (r : Int) : List Dat := [⟨(.int .i64), r⟩]
def evermoreref24_Cheapest.out (ds : List Dat) : Option (Int) := pop (.int .i64) ds fun x0 ds => popN ds (some (x0))
def evermoreref24_Cheapest.c (k : Nat) (ds : List Dat) : Option (Int) := pop (.slice (.int .i64)) ds fun x0 ds => popN ds (evermoreref24_Cheapest.f k x0)
def evermoreref24_Cheapest.g : Nat → List Dat → Option (Int)
 | 0, _ => none
 | k + 1, ds => evermoreref24_Cheapest.c k ds
def evermoreref24_Cheapest.env (k : Nat) : Nat → List SV → List Chunk → KT (Int) → Option (Int) := env0
def evermoreref24_Cheapest.t7 : Tm := ⟨[(3, .own 0), (4, .p (.int .i64))], [.own (.int .i64)]⟩
def evermoreref24_Cheapest.c7 (k : Nat) (ds : List Dat) : Option (Int) := pop (.int .i64) ds fun x0 ds => pop (.slice (.int .i64)) ds fun x1 ds => popN ds (evermoreref24_Cheapest.l3 k x0 x1)
def evermoreref24_Cheapest.t11 : Tm := ⟨[(3, .own 0), (4, .p (.int .i64)), (5, .p (.int .i64))], [.own (.int .i64)]⟩
def evermoreref24_Cheapest.c11 (k : Nat) (ds : List Dat) : Option (Int) := pop (.int .i64) ds fun x0 ds => pop (.int .i64) ds fun x1 ds => pop (.slice (.int .i64)) ds fun x2 ds => popN ds (evermoreref24_Cheapest.l5 k x0 x1 x2)
def evermoreref24_Cheapest.t17 : Tm := ⟨[(3, .own 0), (4, .p (.int .i64)), (5, .p (.int .i64)), (6, .p (.int .i64))], [.own (.int .i64)]⟩
def evermoreref24_Cheapest.c17 (k : Nat) (ds : List Dat) : Option (Int) := pop (.int .i64) ds fun x0 ds => pop (.int .i64) ds fun x1 ds => pop (.int .i64) ds fun x2 ds => pop (.slice (.int .i64)) ds fun x3 ds => popN ds (evermoreref24_Cheapest.l8 k x0 x1 x2 x3)
def evermoreref24_Cheapest.t18 : Tm := ⟨[(3, .own 0), (4, .p (.int .i64)), (5, .p (.int .i64)), (6, .p (.int .i64))], [.own (.int .i64)]⟩
def evermoreref24_Cheapest.c18 (k : Nat) (ds : List Dat) : Option (Int) := pop (.int .i64) ds fun x0 ds => pop (.int .i64) ds fun x1 ds => pop (.int .i64) ds fun x2 ds => pop (.slice (.int .i64)) ds fun x3 ds => popN ds (evermoreref24_Cheapest.j9 k x0 x1 x2 x3)
def evermoreref24_Cheapest.tbl : List (Nat × Tm × (Nat → List Dat → Option (Int))) := [(7, evermoreref24_Cheapest.t7, evermoreref24_Cheapest.c7), (11, evermoreref24_Cheapest.t11, evermoreref24_Cheapest.c11), (17, evermoreref24_Cheapest.t17, evermoreref24_Cheapest.c17), (18, evermoreref24_Cheapest.t18, evermoreref24_Cheapest.c18)]
noncomputable abbrev evermoreref24_Cheapest.R (k : Nat) := run T (evermoreref24_Cheapest.env k) Try.f63.ntmps (cutE 0 evermoreref24_Cheapest.tbl k) (finE 0 evermoreref24_Cheapest.to evermoreref24_Cheapest.out) (fnRes Try.f63) [9] 100000 true
theorem evermoreref24_Cheapest.e7 (k : Nat) (x0 : Int) (x1 : (List Int)) : evermoreref24_Cheapest.l3 (k + 1) x0 x1 = evermoreref24_Cheapest.R k (start (stackOf 7 evermoreref24_Cheapest.body)) (evermoreref24_Cheapest.t7.fill [⟨(.int .i64), x0⟩, ⟨(.slice (.int .i64)), x1⟩]) := by kernel_rfl
theorem evermoreref24_Cheapest.s7 : stackAt 7 evermoreref24_Cheapest.body [] = some (stackOf 7 evermoreref24_Cheapest.body) := by kernel_rfl
theorem evermoreref24_Cheapest.h7 (k : Nat) (ds : List Dat) (r : Int) (h : evermoreref24_Cheapest.c7 k ds = some r) : ∃ k', k' < k ∧ ∃ s, stackAt 7 evermoreref24_Cheapest.body [] = some s ∧ evermoreref24_Cheapest.R k' (start s) (evermoreref24_Cheapest.t7.fill ds) = some r := by
  unfold evermoreref24_Cheapest.c7 at h
  obtain ⟨x0, d0, rfl, h0⟩ := pop_some h
  obtain ⟨x1, d1, rfl, h1⟩ := pop_some h0
  obtain ⟨rfl, g⟩ := popN_some h1
  cases k with
  | zero => cases (show none = some r from g)
  | succ k => exact ⟨k, Nat.lt_succ_self k, _, evermoreref24_Cheapest.s7, (evermoreref24_Cheapest.e7 k x0 x1).symm.trans g⟩
theorem evermoreref24_Cheapest.e11 (k : Nat) (x0 : Int) (x1 : Int) (x2 : (List Int)) : evermoreref24_Cheapest.l5 (k + 1) x0 x1 x2 = evermoreref24_Cheapest.R k (start (stackOf 11 evermoreref24_Cheapest.body)) (evermoreref24_Cheapest.t11.fill [⟨(.int .i64), x0⟩, ⟨(.int .i64), x1⟩, ⟨(.slice (.int .i64)), x2⟩]) := by kernel_rfl
theorem evermoreref24_Cheapest.s11 : stackAt 11 evermoreref24_Cheapest.body [] = some (stackOf 11 evermoreref24_Cheapest.body) := by kernel_rfl
theorem evermoreref24_Cheapest.h11 (k : Nat) (ds : List Dat) (r : Int) (h : evermoreref24_Cheapest.c11 k ds = some r) : ∃ k', k' < k ∧ ∃ s, stackAt 11 evermoreref24_Cheapest.body [] = some s ∧ evermoreref24_Cheapest.R k' (start s) (evermoreref24_Cheapest.t11.fill ds) = some r := by
  unfold evermoreref24_Cheapest.c11 at h
  obtain ⟨x0, d0, rfl, h0⟩ := pop_some h
  obtain ⟨x1, d1, rfl, h1⟩ := pop_some h0
  obtain ⟨x2, d2, rfl, h2⟩ := pop_some h1
  obtain ⟨rfl, g⟩ := popN_some h2
  cases k with
  | zero => cases (show none = some r from g)
  | succ k => exact ⟨k, Nat.lt_succ_self k, _, evermoreref24_Cheapest.s11, (evermoreref24_Cheapest.e11 k x0 x1 x2).symm.trans g⟩
theorem evermoreref24_Cheapest.e17 (k : Nat) (x0 : Int) (x1 : Int) (x2 : Int) (x3 : (List Int)) : evermoreref24_Cheapest.l8 (k + 1) x0 x1 x2 x3 = evermoreref24_Cheapest.R k (start (stackOf 17 evermoreref24_Cheapest.body)) (evermoreref24_Cheapest.t17.fill [⟨(.int .i64), x0⟩, ⟨(.int .i64), x1⟩, ⟨(.int .i64), x2⟩, ⟨(.slice (.int .i64)), x3⟩]) := by kernel_rfl
theorem evermoreref24_Cheapest.s17 : stackAt 17 evermoreref24_Cheapest.body [] = some (stackOf 17 evermoreref24_Cheapest.body) := by kernel_rfl
theorem evermoreref24_Cheapest.h17 (k : Nat) (ds : List Dat) (r : Int) (h : evermoreref24_Cheapest.c17 k ds = some r) : ∃ k', k' < k ∧ ∃ s, stackAt 17 evermoreref24_Cheapest.body [] = some s ∧ evermoreref24_Cheapest.R k' (start s) (evermoreref24_Cheapest.t17.fill ds) = some r := by
  unfold evermoreref24_Cheapest.c17 at h
  obtain ⟨x0, d0, rfl, h0⟩ := pop_some h
  obtain ⟨x1, d1, rfl, h1⟩ := pop_some h0
  obtain ⟨x2, d2, rfl, h2⟩ := pop_some h1
  obtain ⟨x3, d3, rfl, h3⟩ := pop_some h2
  obtain ⟨rfl, g⟩ := popN_some h3
  cases k with
  | zero => cases (show none = some r from g)
  | succ k => exact ⟨k, Nat.lt_succ_self k, _, evermoreref24_Cheapest.s17, (evermoreref24_Cheapest.e17 k x0 x1 x2 x3).symm.trans g⟩
theorem evermoreref24_Cheapest.e18 (k : Nat) (x0 : Int) (x1 : Int) (x2 : Int) (x3 : (List Int)) : evermoreref24_Cheapest.j9 (k + 1) x0 x1 x2 x3 = evermoreref24_Cheapest.R k (start (stackOf 18 evermoreref24_Cheapest.body)) (evermoreref24_Cheapest.t18.fill [⟨(.int .i64), x0⟩, ⟨(.int .i64), x1⟩, ⟨(.int .i64), x2⟩, ⟨(.slice (.int .i64)), x3⟩]) := by kernel_rfl
theorem evermoreref24_Cheapest.s18 : stackAt 18 evermoreref24_Cheapest.body [] = some (stackOf 18 evermoreref24_Cheapest.body) := by kernel_rfl
theorem evermoreref24_Cheapest.h18 (k : Nat) (ds : List Dat) (r : Int) (h : evermoreref24_Cheapest.c18 k ds = some r) : ∃ k', k' < k ∧ ∃ s, stackAt 18 evermoreref24_Cheapest.body [] = some s ∧ evermoreref24_Cheapest.R k' (start s) (evermoreref24_Cheapest.t18.fill ds) = some r := by
  unfold evermoreref24_Cheapest.c18 at h
  obtain ⟨x0, d0, rfl, h0⟩ := pop_some h
  obtain ⟨x1, d1, rfl, h1⟩ := pop_some h0
  obtain ⟨x2, d2, rfl, h2⟩ := pop_some h1
  obtain ⟨x3, d3, rfl, h3⟩ := pop_some h2
  obtain ⟨rfl, g⟩ := popN_some h3
  cases k with
  | zero => cases (show none = some r from g)
  | succ k => exact ⟨k, Nat.lt_succ_self k, _, evermoreref24_Cheapest.s18, (evermoreref24_Cheapest.e18 k x0 x1 x2 x3).symm.trans g⟩
theorem evermoreref24_Cheapest.e (k : Nat) (x0 : (List Int)) : evermoreref24_Cheapest.f k x0 = evermoreref24_Cheapest.R k ([.code evermoreref24_Cheapest.body]) (evermoreref24_Cheapest.ti.fill [⟨(.slice (.int .i64)), x0⟩]) := by kernel_rfl
theorem evermoreref24_Cheapest.h (k : Nat) (ds : List Dat) (r : Int) (h : evermoreref24_Cheapest.g k ds = some r) : ∃ k', k' < k ∧ evermoreref24_Cheapest.R k' ([.code evermoreref24_Cheapest.body]) (evermoreref24_Cheapest.ti.fill ds) = some r := by
  cases k with
  | zero => cases (show none = some r from h)
  | succ k =>
  replace h : evermoreref24_Cheapest.c k ds = some r := h
  unfold evermoreref24_Cheapest.c at h
  obtain ⟨x0, d0, rfl, h0⟩ := pop_some h
  obtain ⟨rfl, g⟩ := popN_some h0
  exact ⟨k, Nat.lt_succ_self k, (evermoreref24_Cheapest.e k x0).symm.trans g⟩
theorem evermoreref24_Cheapest.o (ds : List Dat) (r : Int) (h : evermoreref24_Cheapest.out ds = some r) : ds = evermoreref24_Cheapest.rs r := by
  unfold evermoreref24_Cheapest.out at h
  obtain ⟨x0, d0, rfl, h0⟩ := pop_some h
  obtain ⟨rfl, g⟩ := popN_some h0
  cases g
  rfl
theorem evermoreref24_Cheapest.fn : FnOk Try.prog 63 Try.f63 evermoreref24_Cheapest.body Try.f63.ntmps 1 (fnRes Try.f63) :=
  fnOk_of (by kernel_rfl) (by kernel_rfl) (by kernel_rfl) (by kernel_rfl)
theorem evermoreref24_Cheapest.con' : ∀ k ds r, evermoreref24_Cheapest.g k ds = some r → Con Try.prog 63 1 evermoreref24_Cheapest.ti evermoreref24_Cheapest.to ds (evermoreref24_Cheapest.rs r) :=
  fun_ok (T := T) T_ok mixed evermoreref24_Cheapest.fn (env := evermoreref24_Cheapest.env) (tbl := evermoreref24_Cheapest.tbl) (gOut := evermoreref24_Cheapest.out) (nin := 0) (cuts := [9]) (fuel := 100000) rfl (by kernel_rfl) (by kernel_rfl) (by kernel_rfl) (fun x hx => by
    simp only [evermoreref24_Cheapest.tbl, List.mem_cons, List.not_mem_nil, or_false] at hx
    rcases hx with rfl | rfl | rfl | rfl
    · exact evermoreref24_Cheapest.h7
    · exact evermoreref24_Cheapest.h11
    · exact evermoreref24_Cheapest.h17
    · exact evermoreref24_Cheapest.h18
) evermoreref24_Cheapest.o evermoreref24_Cheapest.h (fun k _ => by unfold evermoreref24_Cheapest.env; exact env0_ok)
theorem evermoreref24_Cheapest.con (k : Nat) {x0 : (List Int)} (r : Int) (h : evermoreref24_Cheapest.f k x0 = some r) : Con Try.prog 63 1 evermoreref24_Cheapest.ti evermoreref24_Cheapest.to [⟨(.slice (.int .i64)), x0⟩] (evermoreref24_Cheapest.rs r) :=
  evermoreref24_Cheapest.con' (k + 1) _ r (by show evermoreref24_Cheapest.c k _ = some r; unfold evermoreref24_Cheapest.c; simp only [pop_self, popN]; exact h)
mutual
def evermoreref1_May.l6 : Nat → Int → List (Int) → Int → Option (Int)
 | 0, _, _, _ => none
 | k + 1, letters0, w1, i5 =>
  if i5 < (↑w1.length : Int) then
   if 0 ≤ i5 then
   if i5 < (↑w1.length : Int) then
    if Go.Proofs.YtmagglebkbiffaaSx.rd (Int.ofNat 0) w1 i5 < 0 then
      some (2)
     else
      if 0 ≤ i5 then
      if i5 < (↑w1.length : Int) then
       if letters0 ≤ Go.Proofs.YtmagglebkbiffaaSx.rd (Int.ofNat 0) w1 i5 then
         some (2)
        else
         evermoreref1_May.l6 k letters0 w1 (Go.IntKind.i64.wrap (i5 + 1))
       else none
      else none
    else none
   else none
  else
   some (0)
end
def evermoreref1_May.f (k : Nat) (letters0 : Int) (w1 : List (Int)) : Option (Int) :=
 if letters0 < 1 then
  some (2)
 else
  if 4 < letters0 then
   some (2)
  else
   if 60 < (↑w1.length : Int) then
    some (1)
   else
    evermoreref1_May.l6 k letters0 w1 0

noncomputable def evermoreref1_May.body : Code := fnBody Try.f19
def evermoreref1_May.ti : Tm := ⟨[(0, .p (.int .i64)), (1, .p (.slice (.int .i64)))], []⟩
def evermoreref1_May.to : Tm := ⟨[(0, .p (.int .i64))], []⟩
def evermoreref1_May.rs (r : Int) : List Dat := [⟨(.int .i64), r⟩]
def evermoreref1_May.out (ds : List Dat) : Option (Int) := pop (.int .i64) ds fun x0 ds => popN ds (some (x0))
def evermoreref1_May.c (k : Nat) (ds : List Dat) : Option (Int) := pop (.int .i64) ds fun x0 ds => pop (.slice (.int .i64)) ds fun x1 ds => popN ds (evermoreref1_May.f k x0 x1)
def evermoreref1_May.g : Nat → List Dat → Option (Int)
 | 0, _ => none
 | k + 1, ds => evermoreref1_May.c k ds
def evermoreref1_May.env (k : Nat) : Nat → List SV → List Chunk → KT (Int) → Option (Int) := env0
def evermoreref1_May.t13 : Tm := ⟨[(0, .p (.int .i64)), (1, .p (.slice (.int .i64))), (5, .p (.int .i64))], []⟩
def evermoreref1_May.c13 (k : Nat) (ds : List Dat) : Option (Int) := pop (.int .i64) ds fun x0 ds => pop (.slice (.int .i64)) ds fun x1 ds => pop (.int .i64) ds fun x2 ds => popN ds (evermoreref1_May.l6 k x0 x1 x2)
def evermoreref1_May.tbl : List (Nat × Tm × (Nat → List Dat → Option (Int))) := [(13, evermoreref1_May.t13, evermoreref1_May.c13)]
noncomputable abbrev evermoreref1_May.R (k : Nat) := run T (evermoreref1_May.env k) Try.f19.ntmps (cutE 0 evermoreref1_May.tbl k) (finE 0 evermoreref1_May.to evermoreref1_May.out) (fnRes Try.f19) [] 100000 true
theorem evermoreref1_May.e13 (k : Nat) (x0 : Int) (x1 : (List Int)) (x2 : Int) : evermoreref1_May.l6 (k + 1) x0 x1 x2 = evermoreref1_May.R k (start (stackOf 13 evermoreref1_May.body)) (evermoreref1_May.t13.fill [⟨(.int .i64), x0⟩, ⟨(.slice (.int .i64)), x1⟩, ⟨(.int .i64), x2⟩]) := by kernel_rfl
theorem evermoreref1_May.s13 : stackAt 13 evermoreref1_May.body [] = some (stackOf 13 evermoreref1_May.body) := by kernel_rfl
theorem evermoreref1_May.h13 (k : Nat) (ds : List Dat) (r : Int) (h : evermoreref1_May.c13 k ds = some r) : ∃ k', k' < k ∧ ∃ s, stackAt 13 evermoreref1_May.body [] = some s ∧ evermoreref1_May.R k' (start s) (evermoreref1_May.t13.fill ds) = some r := by
  unfold evermoreref1_May.c13 at h
  obtain ⟨x0, d0, rfl, h0⟩ := pop_some h
  obtain ⟨x1, d1, rfl, h1⟩ := pop_some h0
  obtain ⟨x2, d2, rfl, h2⟩ := pop_some h1
  obtain ⟨rfl, g⟩ := popN_some h2
  cases k with
  | zero => cases (show none = some r from g)
  | succ k => exact ⟨k, Nat.lt_succ_self k, _, evermoreref1_May.s13, (evermoreref1_May.e13 k x0 x1 x2).symm.trans g⟩
theorem evermoreref1_May.e (k : Nat) (x0 : Int) (x1 : (List Int)) : evermoreref1_May.f k x0 x1 = evermoreref1_May.R k ([.code evermoreref1_May.body]) (evermoreref1_May.ti.fill [⟨(.int .i64), x0⟩, ⟨(.slice (.int .i64)), x1⟩]) := by kernel_rfl
theorem evermoreref1_May.h (k : Nat) (ds : List Dat) (r : Int) (h : evermoreref1_May.g k ds = some r) : ∃ k', k' < k ∧ evermoreref1_May.R k' ([.code evermoreref1_May.body]) (evermoreref1_May.ti.fill ds) = some r := by
  cases k with
  | zero => cases (show none = some r from h)
  | succ k =>
  replace h : evermoreref1_May.c k ds = some r := h
  unfold evermoreref1_May.c at h
  obtain ⟨x0, d0, rfl, h0⟩ := pop_some h
  obtain ⟨x1, d1, rfl, h1⟩ := pop_some h0
  obtain ⟨rfl, g⟩ := popN_some h1
  exact ⟨k, Nat.lt_succ_self k, (evermoreref1_May.e k x0 x1).symm.trans g⟩
theorem evermoreref1_May.o (ds : List Dat) (r : Int) (h : evermoreref1_May.out ds = some r) : ds = evermoreref1_May.rs r := by
  unfold evermoreref1_May.out at h
  obtain ⟨x0, d0, rfl, h0⟩ := pop_some h
  obtain ⟨rfl, g⟩ := popN_some h0
  cases g
  rfl
theorem evermoreref1_May.fn : FnOk Try.prog 19 Try.f19 evermoreref1_May.body Try.f19.ntmps 2 (fnRes Try.f19) :=
  fnOk_of (by kernel_rfl) (by kernel_rfl) (by kernel_rfl) (by kernel_rfl)
theorem evermoreref1_May.con' : ∀ k ds r, evermoreref1_May.g k ds = some r → Con Try.prog 19 2 evermoreref1_May.ti evermoreref1_May.to ds (evermoreref1_May.rs r) :=
  fun_ok (T := T) T_ok mixed evermoreref1_May.fn (env := evermoreref1_May.env) (tbl := evermoreref1_May.tbl) (gOut := evermoreref1_May.out) (nin := 0) (cuts := []) (fuel := 100000) rfl (by kernel_rfl) (by kernel_rfl) (by kernel_rfl) (fun x hx => by
    simp only [evermoreref1_May.tbl, List.mem_cons, List.not_mem_nil, or_false] at hx
    subst hx
    · exact evermoreref1_May.h13
) evermoreref1_May.o evermoreref1_May.h (fun k _ => by unfold evermoreref1_May.env; exact env0_ok)
theorem evermoreref1_May.con (k : Nat) {x0 : Int} {x1 : (List Int)} (r : Int) (h : evermoreref1_May.f k x0 x1 = some r) : Con Try.prog 19 2 evermoreref1_May.ti evermoreref1_May.to [⟨(.int .i64), x0⟩, ⟨(.slice (.int .i64)), x1⟩] (evermoreref1_May.rs r) :=
  evermoreref1_May.con' (k + 1) _ r (by show evermoreref1_May.c k _ = some r; unfold evermoreref1_May.c; simp only [pop_self, popN]; exact h)
mutual
def evermoreref1_Words.l4 : Nat → List (Int) → List (Int) → Int → Option (Bool)
 | 0, _, _, _ => none
 | k + 1, a0, b1, i5 =>
  if i5 < (↑a0.length : Int) then
   if 0 ≤ i5 then
   if i5 < (↑a0.length : Int) then
    if 0 ≤ i5 then
     if i5 < (↑b1.length : Int) then
      if Go.Proofs.YtmagglebkbiffaaSx.rd (Int.ofNat 0) a0 i5 = Go.Proofs.YtmagglebkbiffaaSx.rd (Int.ofNat 0) b1 i5 then
        evermoreref1_Words.l4 k a0 b1 (Go.IntKind.i64.wrap (i5 + 1))
       else
        some (false)
      else none
     else none
    else none
   else none
  else
   some (true)
end
def evermoreref1_Words.f (k : Nat) (a0 : List (Int)) (b1 : List (Int)) : Option (Bool) :=
 if (↑a0.length : Int) = (↑b1.length : Int) then
  evermoreref1_Words.l4 k a0 b1 0
 else
  some (false)

noncomputable def evermoreref1_Words.body : Code := fnBody Try.f25
def evermoreref1_Words.ti : Tm := ⟨[(0, .p (.slice (.int .i64))), (1, .p (.slice (.int .i64)))], []⟩
def evermoreref1_Words.to : Tm := ⟨[(0, .p .bool)], []⟩
def evermoreref1_Words.rs (r : Bool) : List Dat := [⟨.bool, r⟩]
def evermoreref1_Words.out (ds : List Dat) : Option (Bool) := pop .bool ds fun x0 ds => popN ds (some (x0))
def evermoreref1_Words.c (k : Nat) (ds : List Dat) : Option (Bool) := pop (.slice (.int .i64)) ds fun x0 ds => pop (.slice (.int .i64)) ds fun x1 ds => popN ds (evermoreref1_Words.f k x0 x1)
def evermoreref1_Words.g : Nat → List Dat → Option (Bool)
 | 0, _ => none
 | k + 1, ds => evermoreref1_Words.c k ds
def evermoreref1_Words.env (k : Nat) : Nat → List SV → List Chunk → KT (Bool) → Option (Bool) := env0
def evermoreref1_Words.t9 : Tm := ⟨[(0, .p (.slice (.int .i64))), (1, .p (.slice (.int .i64))), (5, .p (.int .i64))], []⟩
def evermoreref1_Words.c9 (k : Nat) (ds : List Dat) : Option (Bool) := pop (.slice (.int .i64)) ds fun x0 ds => pop (.slice (.int .i64)) ds fun x1 ds => pop (.int .i64) ds fun x2 ds => popN ds (evermoreref1_Words.l4 k x0 x1 x2)
def evermoreref1_Words.tbl : List (Nat × Tm × (Nat → List Dat → Option (Bool))) := [(9, evermoreref1_Words.t9, evermoreref1_Words.c9)]
noncomputable abbrev evermoreref1_Words.R (k : Nat) := run T (evermoreref1_Words.env k) Try.f25.ntmps (cutE 0 evermoreref1_Words.tbl k) (finE 0 evermoreref1_Words.to evermoreref1_Words.out) (fnRes Try.f25) [] 100000 true
theorem evermoreref1_Words.e9 (k : Nat) (x0 : (List Int)) (x1 : (List Int)) (x2 : Int) : evermoreref1_Words.l4 (k + 1) x0 x1 x2 = evermoreref1_Words.R k (start (stackOf 9 evermoreref1_Words.body)) (evermoreref1_Words.t9.fill [⟨(.slice (.int .i64)), x0⟩, ⟨(.slice (.int .i64)), x1⟩, ⟨(.int .i64), x2⟩]) := by kernel_rfl
theorem evermoreref1_Words.s9 : stackAt 9 evermoreref1_Words.body [] = some (stackOf 9 evermoreref1_Words.body) := by kernel_rfl
theorem evermoreref1_Words.h9 (k : Nat) (ds : List Dat) (r : Bool) (h : evermoreref1_Words.c9 k ds = some r) : ∃ k', k' < k ∧ ∃ s, stackAt 9 evermoreref1_Words.body [] = some s ∧ evermoreref1_Words.R k' (start s) (evermoreref1_Words.t9.fill ds) = some r := by
  unfold evermoreref1_Words.c9 at h
  obtain ⟨x0, d0, rfl, h0⟩ := pop_some h
  obtain ⟨x1, d1, rfl, h1⟩ := pop_some h0
  obtain ⟨x2, d2, rfl, h2⟩ := pop_some h1
  obtain ⟨rfl, g⟩ := popN_some h2
  cases k with
  | zero => cases (show none = some r from g)
  | succ k => exact ⟨k, Nat.lt_succ_self k, _, evermoreref1_Words.s9, (evermoreref1_Words.e9 k x0 x1 x2).symm.trans g⟩
theorem evermoreref1_Words.e (k : Nat) (x0 : (List Int)) (x1 : (List Int)) : evermoreref1_Words.f k x0 x1 = evermoreref1_Words.R k ([.code evermoreref1_Words.body]) (evermoreref1_Words.ti.fill [⟨(.slice (.int .i64)), x0⟩, ⟨(.slice (.int .i64)), x1⟩]) := by kernel_rfl
theorem evermoreref1_Words.h (k : Nat) (ds : List Dat) (r : Bool) (h : evermoreref1_Words.g k ds = some r) : ∃ k', k' < k ∧ evermoreref1_Words.R k' ([.code evermoreref1_Words.body]) (evermoreref1_Words.ti.fill ds) = some r := by
  cases k with
  | zero => cases (show none = some r from h)
  | succ k =>
  replace h : evermoreref1_Words.c k ds = some r := h
  unfold evermoreref1_Words.c at h
  obtain ⟨x0, d0, rfl, h0⟩ := pop_some h
  obtain ⟨x1, d1, rfl, h1⟩ := pop_some h0
  obtain ⟨rfl, g⟩ := popN_some h1
  exact ⟨k, Nat.lt_succ_self k, (evermoreref1_Words.e k x0 x1).symm.trans g⟩
theorem evermoreref1_Words.o (ds : List Dat) (r : Bool) (h : evermoreref1_Words.out ds = some r) : ds = evermoreref1_Words.rs r := by
  unfold evermoreref1_Words.out at h
  obtain ⟨x0, d0, rfl, h0⟩ := pop_some h
  obtain ⟨rfl, g⟩ := popN_some h0
  cases g
  rfl
theorem evermoreref1_Words.fn : FnOk Try.prog 25 Try.f25 evermoreref1_Words.body Try.f25.ntmps 2 (fnRes Try.f25) :=
  fnOk_of (by kernel_rfl) (by kernel_rfl) (by kernel_rfl) (by kernel_rfl)
theorem evermoreref1_Words.con' : ∀ k ds r, evermoreref1_Words.g k ds = some r → Con Try.prog 25 2 evermoreref1_Words.ti evermoreref1_Words.to ds (evermoreref1_Words.rs r) :=
  fun_ok (T := T) T_ok mixed evermoreref1_Words.fn (env := evermoreref1_Words.env) (tbl := evermoreref1_Words.tbl) (gOut := evermoreref1_Words.out) (nin := 0) (cuts := []) (fuel := 100000) rfl (by kernel_rfl) (by kernel_rfl) (by kernel_rfl) (fun x hx => by
    simp only [evermoreref1_Words.tbl, List.mem_cons, List.not_mem_nil, or_false] at hx
    subst hx
    · exact evermoreref1_Words.h9
) evermoreref1_Words.o evermoreref1_Words.h (fun k _ => by unfold evermoreref1_Words.env; exact env0_ok)
theorem evermoreref1_Words.con (k : Nat) {x0 : (List Int)} {x1 : (List Int)} (r : Bool) (h : evermoreref1_Words.f k x0 x1 = some r) : Con Try.prog 25 2 evermoreref1_Words.ti evermoreref1_Words.to [⟨(.slice (.int .i64)), x0⟩, ⟨(.slice (.int .i64)), x1⟩] (evermoreref1_Words.rs r) :=
  evermoreref1_Words.con' (k + 1) _ r (by show evermoreref1_Words.c k _ = some r; unfold evermoreref1_Words.c; simp only [pop_self, popN]; exact h)
def evermoreref24_Begins.f (k : Nat) (w0 : List (Int)) (v1 : List (Int)) : Option (Bool) :=
 if (↑w0.length : Int) < (↑v1.length : Int) then
  some (false)
 else
  if 0 ≤ 0 then
  if 0 ≤ (↑v1.length : Int) then
   if (↑v1.length : Int) ≤ (↑w0.length : Int) then
    (evermoreref1_Words.f k (List.take ((↑v1.length : Int).toNat - Int.toNat 0) (List.drop (Int.toNat 0) w0)) v1).bind fun r_5 =>
      some (r_5)
    else none
   else none
  else none

noncomputable def evermoreref24_Begins.body : Code := fnBody Try.f129
def evermoreref24_Begins.ti : Tm := ⟨[(0, .p (.slice (.int .i64))), (1, .p (.slice (.int .i64)))], []⟩
def evermoreref24_Begins.to : Tm := ⟨[(0, .p .bool)], []⟩
def evermoreref24_Begins.rs (r : Bool) : List Dat := [⟨.bool, r⟩]
def evermoreref24_Begins.out (ds : List Dat) : Option (Bool) := pop .bool ds fun x0 ds => popN ds (some (x0))
def evermoreref24_Begins.c (k : Nat) (ds : List Dat) : Option (Bool) := pop (.slice (.int .i64)) ds fun x0 ds => pop (.slice (.int .i64)) ds fun x1 ds => popN ds (evermoreref24_Begins.f k x0 x1)
def evermoreref24_Begins.g : Nat → List Dat → Option (Bool)
 | 0, _ => none
 | k + 1, ds => evermoreref24_Begins.c k ds
def evermoreref24_Begins.env (k : Nat) : Nat → List SV → List Chunk → KT (Bool) → Option (Bool) := (envC 25 2 evermoreref1_Words.ti evermoreref1_Words.to (fun ds K => pop (.slice (.int .i64)) ds fun x0 ds => pop (.slice (.int .i64)) ds fun x1 ds => popN ds ((evermoreref1_Words.f k x0 x1).bind fun r => K (evermoreref1_Words.rs r))) env0)
def evermoreref24_Begins.tbl : List (Nat × Tm × (Nat → List Dat → Option (Bool))) := []
noncomputable abbrev evermoreref24_Begins.R (k : Nat) := run T (evermoreref24_Begins.env k) Try.f129.ntmps (cutE 0 evermoreref24_Begins.tbl k) (finE 0 evermoreref24_Begins.to evermoreref24_Begins.out) (fnRes Try.f129) [] 100000 true
theorem evermoreref24_Begins.e (k : Nat) (x0 : (List Int)) (x1 : (List Int)) : evermoreref24_Begins.f k x0 x1 = evermoreref24_Begins.R k ([.code evermoreref24_Begins.body]) (evermoreref24_Begins.ti.fill [⟨(.slice (.int .i64)), x0⟩, ⟨(.slice (.int .i64)), x1⟩]) := by kernel_rfl
theorem evermoreref24_Begins.h (k : Nat) (ds : List Dat) (r : Bool) (h : evermoreref24_Begins.g k ds = some r) : ∃ k', k' < k ∧ evermoreref24_Begins.R k' ([.code evermoreref24_Begins.body]) (evermoreref24_Begins.ti.fill ds) = some r := by
  cases k with
  | zero => cases (show none = some r from h)
  | succ k =>
  replace h : evermoreref24_Begins.c k ds = some r := h
  unfold evermoreref24_Begins.c at h
  obtain ⟨x0, d0, rfl, h0⟩ := pop_some h
  obtain ⟨x1, d1, rfl, h1⟩ := pop_some h0
  obtain ⟨rfl, g⟩ := popN_some h1
  exact ⟨k, Nat.lt_succ_self k, (evermoreref24_Begins.e k x0 x1).symm.trans g⟩
theorem evermoreref24_Begins.o (ds : List Dat) (r : Bool) (h : evermoreref24_Begins.out ds = some r) : ds = evermoreref24_Begins.rs r := by
  unfold evermoreref24_Begins.out at h
  obtain ⟨x0, d0, rfl, h0⟩ := pop_some h
  obtain ⟨rfl, g⟩ := popN_some h0
  cases g
  rfl
theorem evermoreref24_Begins.fn : FnOk Try.prog 129 Try.f129 evermoreref24_Begins.body Try.f129.ntmps 2 (fnRes Try.f129) :=
  fnOk_of (by kernel_rfl) (by kernel_rfl) (by kernel_rfl) (by kernel_rfl)
theorem evermoreref24_Begins.con' : ∀ k ds r, evermoreref24_Begins.g k ds = some r → Con Try.prog 129 2 evermoreref24_Begins.ti evermoreref24_Begins.to ds (evermoreref24_Begins.rs r) :=
  fun_ok (T := T) T_ok mixed evermoreref24_Begins.fn (env := evermoreref24_Begins.env) (tbl := evermoreref24_Begins.tbl) (gOut := evermoreref24_Begins.out) (nin := 0) (cuts := []) (fuel := 100000) rfl (by kernel_rfl) (by kernel_rfl) (by kernel_rfl) (fun x hx => by simp [evermoreref24_Begins.tbl] at hx) evermoreref24_Begins.o evermoreref24_Begins.h (fun k _ => by unfold evermoreref24_Begins.env; exact (envC_ok (fun ds K r h => by
    obtain ⟨x0, d0, rfl, h0⟩ := pop_some h
    obtain ⟨x1, d1, rfl, h1⟩ := pop_some h0
    obtain ⟨rfl, g⟩ := popN_some h1
    obtain ⟨r1, h1, h2⟩ := bind_some g
    exact ⟨_, h2, evermoreref1_Words.con k _ h1⟩) env0_ok))
theorem evermoreref24_Begins.con (k : Nat) {x0 : (List Int)} {x1 : (List Int)} (r : Bool) (h : evermoreref24_Begins.f k x0 x1 = some r) : Con Try.prog 129 2 evermoreref24_Begins.ti evermoreref24_Begins.to [⟨(.slice (.int .i64)), x0⟩, ⟨(.slice (.int .i64)), x1⟩] (evermoreref24_Begins.rs r) :=
  evermoreref24_Begins.con' (k + 1) _ r (by show evermoreref24_Begins.c k _ = some r; unfold evermoreref24_Begins.c; simp only [pop_self, popN]; exact h)
mutual
def evermoreref24_Apart.l2 : Nat → List (List (Int)) → Int → Option (Bool)
 | 0, _, _ => none
 | k + 1, l0, i3 =>
  if i3 < (↑l0.length : Int) then
   evermoreref24_Apart.l5 k l0 i3 0
  else
   some (true)
def evermoreref24_Apart.l5 : Nat → List (List (Int)) → Int → Int → Option (Bool)
 | 0, _, _, _ => none
 | k + 1, l0, i3, k4 =>
  if k4 < (↑l0.length : Int) then
   if 0 ≤ i3 then
   if i3 < (↑l0.length : Int) then
    if 0 ≤ k4 then
     if k4 < (↑l0.length : Int) then
      (evermoreref24_Begins.f k (Go.Proofs.YtmagglebkbiffaaSx.rd [] l0 i3) (Go.Proofs.YtmagglebkbiffaaSx.rd [] l0 k4)).bind fun r_7 =>
        if i3 = k4 then
         evermoreref24_Apart.l5 k l0 i3 (Go.IntKind.i64.wrap (k4 + 1))
        else
         if r_7 = true then
          some (false)
         else
          evermoreref24_Apart.l5 k l0 i3 (Go.IntKind.i64.wrap (k4 + 1))
      else none
     else none
    else none
   else none
  else
   evermoreref24_Apart.l2 k l0 (Go.IntKind.i64.wrap (i3 + 1))
end
def evermoreref24_Apart.f (k : Nat) (l0 : List (List (Int))) : Option (Bool) :=
 evermoreref24_Apart.l2 k l0 0

noncomputable def evermoreref24_Apart.body : Code := fnBody Try.f64
def evermoreref24_Apart.ti : Tm := ⟨[(0, .p (.slice (.slice (.int .i64))))], []⟩
def evermoreref24_Apart.to : Tm := ⟨[(0, .p .bool)], []⟩
def evermoreref24_Apart.rs (r : Bool) : List Dat := [⟨.bool, r⟩]
def evermoreref24_Apart.out (ds : List Dat) : Option (Bool) := pop .bool ds fun x0 ds => popN ds (some (x0))
def evermoreref24_Apart.c (k : Nat) (ds : List Dat) : Option (Bool) := pop (.slice (.slice (.int .i64))) ds fun x0 ds => popN ds (evermoreref24_Apart.f k x0)
def evermoreref24_Apart.g : Nat → List Dat → Option (Bool)
 | 0, _ => none
 | k + 1, ds => evermoreref24_Apart.c k ds
def evermoreref24_Apart.env (k : Nat) : Nat → List SV → List Chunk → KT (Bool) → Option (Bool) := (envC 129 2 evermoreref24_Begins.ti evermoreref24_Begins.to (fun ds K => pop (.slice (.int .i64)) ds fun x0 ds => pop (.slice (.int .i64)) ds fun x1 ds => popN ds ((evermoreref24_Begins.f k x0 x1).bind fun r => K (evermoreref24_Begins.rs r))) env0)
def evermoreref24_Apart.t5 : Tm := ⟨[(0, .p (.slice (.slice (.int .i64)))), (3, .p (.int .i64))], []⟩
def evermoreref24_Apart.c5 (k : Nat) (ds : List Dat) : Option (Bool) := pop (.slice (.slice (.int .i64))) ds fun x0 ds => pop (.int .i64) ds fun x1 ds => popN ds (evermoreref24_Apart.l2 k x0 x1)
def evermoreref24_Apart.t11 : Tm := ⟨[(0, .p (.slice (.slice (.int .i64)))), (3, .p (.int .i64)), (4, .p (.int .i64))], []⟩
def evermoreref24_Apart.c11 (k : Nat) (ds : List Dat) : Option (Bool) := pop (.slice (.slice (.int .i64))) ds fun x0 ds => pop (.int .i64) ds fun x1 ds => pop (.int .i64) ds fun x2 ds => popN ds (evermoreref24_Apart.l5 k x0 x1 x2)
def evermoreref24_Apart.tbl : List (Nat × Tm × (Nat → List Dat → Option (Bool))) := [(5, evermoreref24_Apart.t5, evermoreref24_Apart.c5), (11, evermoreref24_Apart.t11, evermoreref24_Apart.c11)]
noncomputable abbrev evermoreref24_Apart.R (k : Nat) := run T (evermoreref24_Apart.env k) Try.f64.ntmps (cutE 0 evermoreref24_Apart.tbl k) (finE 0 evermoreref24_Apart.to evermoreref24_Apart.out) (fnRes Try.f64) [] 100000 true
theorem evermoreref24_Apart.e5 (k : Nat) (x0 : (List (List Int))) (x1 : Int) : evermoreref24_Apart.l2 (k + 1) x0 x1 = evermoreref24_Apart.R k (start (stackOf 5 evermoreref24_Apart.body)) (evermoreref24_Apart.t5.fill [⟨(.slice (.slice (.int .i64))), x0⟩, ⟨(.int .i64), x1⟩]) := by kernel_rfl
theorem evermoreref24_Apart.s5 : stackAt 5 evermoreref24_Apart.body [] = some (stackOf 5 evermoreref24_Apart.body) := by kernel_rfl
theorem evermoreref24_Apart.h5 (k : Nat) (ds : List Dat) (r : Bool) (h : evermoreref24_Apart.c5 k ds = some r) : ∃ k', k' < k ∧ ∃ s, stackAt 5 evermoreref24_Apart.body [] = some s ∧ evermoreref24_Apart.R k' (start s) (evermoreref24_Apart.t5.fill ds) = some r := by
  unfold evermoreref24_Apart.c5 at h
  obtain ⟨x0, d0, rfl, h0⟩ := pop_some h
  obtain ⟨x1, d1, rfl, h1⟩ := pop_some h0
  obtain ⟨rfl, g⟩ := popN_some h1
  cases k with
  | zero => cases (show none = some r from g)
  | succ k => exact ⟨k, Nat.lt_succ_self k, _, evermoreref24_Apart.s5, (evermoreref24_Apart.e5 k x0 x1).symm.trans g⟩
theorem evermoreref24_Apart.e11 (k : Nat) (x0 : (List (List Int))) (x1 : Int) (x2 : Int) : evermoreref24_Apart.l5 (k + 1) x0 x1 x2 = evermoreref24_Apart.R k (start (stackOf 11 evermoreref24_Apart.body)) (evermoreref24_Apart.t11.fill [⟨(.slice (.slice (.int .i64))), x0⟩, ⟨(.int .i64), x1⟩, ⟨(.int .i64), x2⟩]) := by kernel_rfl
theorem evermoreref24_Apart.s11 : stackAt 11 evermoreref24_Apart.body [] = some (stackOf 11 evermoreref24_Apart.body) := by kernel_rfl
theorem evermoreref24_Apart.h11 (k : Nat) (ds : List Dat) (r : Bool) (h : evermoreref24_Apart.c11 k ds = some r) : ∃ k', k' < k ∧ ∃ s, stackAt 11 evermoreref24_Apart.body [] = some s ∧ evermoreref24_Apart.R k' (start s) (evermoreref24_Apart.t11.fill ds) = some r := by
  unfold evermoreref24_Apart.c11 at h
  obtain ⟨x0, d0, rfl, h0⟩ := pop_some h
  obtain ⟨x1, d1, rfl, h1⟩ := pop_some h0
  obtain ⟨x2, d2, rfl, h2⟩ := pop_some h1
  obtain ⟨rfl, g⟩ := popN_some h2
  cases k with
  | zero => cases (show none = some r from g)
  | succ k => exact ⟨k, Nat.lt_succ_self k, _, evermoreref24_Apart.s11, (evermoreref24_Apart.e11 k x0 x1 x2).symm.trans g⟩
theorem evermoreref24_Apart.e (k : Nat) (x0 : (List (List Int))) : evermoreref24_Apart.f k x0 = evermoreref24_Apart.R k ([.code evermoreref24_Apart.body]) (evermoreref24_Apart.ti.fill [⟨(.slice (.slice (.int .i64))), x0⟩]) := by kernel_rfl
theorem evermoreref24_Apart.h (k : Nat) (ds : List Dat) (r : Bool) (h : evermoreref24_Apart.g k ds = some r) : ∃ k', k' < k ∧ evermoreref24_Apart.R k' ([.code evermoreref24_Apart.body]) (evermoreref24_Apart.ti.fill ds) = some r := by
  cases k with
  | zero => cases (show none = some r from h)
  | succ k =>
  replace h : evermoreref24_Apart.c k ds = some r := h
  unfold evermoreref24_Apart.c at h
  obtain ⟨x0, d0, rfl, h0⟩ := pop_some h
  obtain ⟨rfl, g⟩ := popN_some h0
  exact ⟨k, Nat.lt_succ_self k, (evermoreref24_Apart.e k x0).symm.trans g⟩
theorem evermoreref24_Apart.o (ds : List Dat) (r : Bool) (h : evermoreref24_Apart.out ds = some r) : ds = evermoreref24_Apart.rs r := by
  unfold evermoreref24_Apart.out at h
  obtain ⟨x0, d0, rfl, h0⟩ := pop_some h
  obtain ⟨rfl, g⟩ := popN_some h0
  cases g
  rfl
theorem evermoreref24_Apart.fn : FnOk Try.prog 64 Try.f64 evermoreref24_Apart.body Try.f64.ntmps 1 (fnRes Try.f64) :=
  fnOk_of (by kernel_rfl) (by kernel_rfl) (by kernel_rfl) (by kernel_rfl)
theorem evermoreref24_Apart.con' : ∀ k ds r, evermoreref24_Apart.g k ds = some r → Con Try.prog 64 1 evermoreref24_Apart.ti evermoreref24_Apart.to ds (evermoreref24_Apart.rs r) :=
  fun_ok (T := T) T_ok mixed evermoreref24_Apart.fn (env := evermoreref24_Apart.env) (tbl := evermoreref24_Apart.tbl) (gOut := evermoreref24_Apart.out) (nin := 0) (cuts := []) (fuel := 100000) rfl (by kernel_rfl) (by kernel_rfl) (by kernel_rfl) (fun x hx => by
    simp only [evermoreref24_Apart.tbl, List.mem_cons, List.not_mem_nil, or_false] at hx
    rcases hx with rfl | rfl
    · exact evermoreref24_Apart.h5
    · exact evermoreref24_Apart.h11
) evermoreref24_Apart.o evermoreref24_Apart.h (fun k _ => by unfold evermoreref24_Apart.env; exact (envC_ok (fun ds K r h => by
    obtain ⟨x0, d0, rfl, h0⟩ := pop_some h
    obtain ⟨x1, d1, rfl, h1⟩ := pop_some h0
    obtain ⟨rfl, g⟩ := popN_some h1
    obtain ⟨r1, h1, h2⟩ := bind_some g
    exact ⟨_, h2, evermoreref24_Begins.con k _ h1⟩) env0_ok))
theorem evermoreref24_Apart.con (k : Nat) {x0 : (List (List Int))} (r : Bool) (h : evermoreref24_Apart.f k x0 = some r) : Con Try.prog 64 1 evermoreref24_Apart.ti evermoreref24_Apart.to [⟨(.slice (.slice (.int .i64))), x0⟩] (evermoreref24_Apart.rs r) :=
  evermoreref24_Apart.con' (k + 1) _ r (by show evermoreref24_Apart.c k _ = some r; unfold evermoreref24_Apart.c; simp only [pop_self, popN]; exact h)
mutual
def evermorelaw_CodeCheap.j5 : Nat → List (Int) → Int → Int → Int → List (List (Int)) → Option (Bool)
 | 0, _, _, _, _, _ => none
 | k + 1, weights0, cost4, e5, no6, l3 =>
  evermorelaw_CodeCheap.l6 k weights0 cost4 e5 no6 0 l3
def evermorelaw_CodeCheap.l6 : Nat → List (Int) → Int → Int → Int → Int → List (List (Int)) → Option (Bool)
 | 0, _, _, _, _, _, _ => none
 | k + 1, weights0, cost4, e5, no6, i7, l3 =>
  if i7 < (↑weights0.length : Int) then
   if no6 = 0 then
    if 0 ≤ i7 then
    if i7 < (↑weights0.length : Int) then
     if Go.Proofs.YtmagglebkbiffaaSx.rd (Int.ofNat 0) weights0 i7 < 1 then
       evermorelaw_CodeCheap.j7 k weights0 cost4 e5 2 i7 l3
      else
       if 0 ≤ i7 then
       if i7 < (↑weights0.length : Int) then
        if 1000000 < Go.Proofs.YtmagglebkbiffaaSx.rd (Int.ofNat 0) weights0 i7 then
          evermorelaw_CodeCheap.j7 k weights0 cost4 e5 2 i7 l3
         else
          evermorelaw_CodeCheap.j7 k weights0 cost4 e5 no6 i7 l3
        else none
       else none
     else none
    else none
   else
    if no6 = 0 then
     (evermoreref24_Cheapest.f k weights0).bind fun r_5 =>
      if e5 = 0 then
       if cost4 = r_5 then
        if (↑l3.length : Int) = (↑weights0.length : Int) then
         evermorelaw_CodeCheap.l17 k weights0 cost4 0 0 l3
        else
         some (false)
       else
        some (false)
      else
       some (false)
    else
     if e5 = no6 then
      if cost4 = 0 then
       some (decide ((↑l3.length : Int) = 0))
      else
       some (false)
     else
      some (false)
  else
   if no6 = 0 then
    (evermoreref24_Cheapest.f k weights0).bind fun r_4 =>
     if e5 = 0 then
      if cost4 = r_4 then
       if (↑l3.length : Int) = (↑weights0.length : Int) then
        evermorelaw_CodeCheap.l17 k weights0 cost4 0 0 l3
       else
        some (false)
      else
       some (false)
     else
      some (false)
   else
    if e5 = no6 then
     if cost4 = 0 then
      some (decide ((↑l3.length : Int) = 0))
     else
      some (false)
    else
     some (false)
def evermorelaw_CodeCheap.j7 : Nat → List (Int) → Int → Int → Int → Int → List (List (Int)) → Option (Bool)
 | 0, _, _, _, _, _, _ => none
 | k + 1, weights0, cost4, e5, no6, i7, l3 =>
  evermorelaw_CodeCheap.l6 k weights0 cost4 e5 no6 (Go.IntKind.i64.wrap (i7 + 1)) l3
def evermorelaw_CodeCheap.l17 : Nat → List (Int) → Int → Int → Int → List (List (Int)) → Option (Bool)
 | 0, _, _, _, _, _ => none
 | k + 1, weights0, cost4, sum9, i10, l3 =>
  if i10 < (↑l3.length : Int) then
   if 0 ≤ i10 then
   if i10 < (↑l3.length : Int) then
    (evermoreref1_May.f k (Int.ofNat 2) (l3.getD i10.toNat [])).bind fun r_5 =>
      if r_5 = 0 then
       if 0 ≤ i10 then
       if i10 < (↑weights0.length : Int) then
        if 0 ≤ i10 then
         if i10 < (↑l3.length : Int) then
          evermorelaw_CodeCheap.l17 k weights0 cost4 (Go.IntKind.i64.wrap (sum9 + Go.IntKind.i64.wrap (Go.Proofs.YtmagglebkbiffaaSx.rd (Int.ofNat 0) weights0 i10 * (↑(l3.getD i10.toNat []).length : Int)))) (Go.IntKind.i64.wrap (i10 + 1)) l3
          else none
         else none
        else none
       else none
      else
       some (false)
    else none
   else none
  else
   (evermoreref24_Apart.f k l3).bind fun r_3 =>
    if sum9 = cost4 then
     some (r_3)
    else
     some (false)
end
def evermorelaw_CodeCheap.f (k : Nat) (weights0 : List (Int)) : Option (Bool) :=
 (code_Cheap.f k weights0).bind fun r_1 =>
  if (↑weights0.length : Int) < 1 then
   evermorelaw_CodeCheap.j5 k weights0 r_1.fst r_1.snd.fst 1 r_1.snd.snd
  else
   if 20 < (↑weights0.length : Int) then
    evermorelaw_CodeCheap.j5 k weights0 r_1.fst r_1.snd.fst 1 r_1.snd.snd
   else
    evermorelaw_CodeCheap.j5 k weights0 r_1.fst r_1.snd.fst 0 r_1.snd.snd

noncomputable def evermorelaw_CodeCheap.body : Code := fnBody Try.f12
def evermorelaw_CodeCheap.ti : Tm := ⟨[(0, .p (.slice (.int .i64)))], []⟩
def evermorelaw_CodeCheap.to : Tm := ⟨[(0, .p .bool)], []⟩
def evermorelaw_CodeCheap.rs (r : Bool) : List Dat := [⟨.bool, r⟩]
def evermorelaw_CodeCheap.out (ds : List Dat) : Option (Bool) := pop .bool ds fun x0 ds => popN ds (some (x0))
def evermorelaw_CodeCheap.c (k : Nat) (ds : List Dat) : Option (Bool) := pop (.slice (.int .i64)) ds fun x0 ds => popN ds (evermorelaw_CodeCheap.f k x0)
def evermorelaw_CodeCheap.g : Nat → List Dat → Option (Bool)
 | 0, _ => none
 | k + 1, ds => evermorelaw_CodeCheap.c k ds
def evermorelaw_CodeCheap.env (k : Nat) : Nat → List SV → List Chunk → KT (Bool) → Option (Bool) := (envC 63 1 evermoreref24_Cheapest.ti evermoreref24_Cheapest.to (fun ds K => pop (.slice (.int .i64)) ds fun x0 ds => popN ds ((evermoreref24_Cheapest.f k x0).bind fun r => K (evermoreref24_Cheapest.rs r))) (envC 19 2 evermoreref1_May.ti evermoreref1_May.to (fun ds K => pop (.int .i64) ds fun x0 ds => pop (.slice (.int .i64)) ds fun x1 ds => popN ds ((evermoreref1_May.f k x0 x1).bind fun r => K (evermoreref1_May.rs r))) (envC 64 1 evermoreref24_Apart.ti evermoreref24_Apart.to (fun ds K => pop (.slice (.slice (.int .i64))) ds fun x0 ds => popN ds ((evermoreref24_Apart.f k x0).bind fun r => K (evermoreref24_Apart.rs r))) (envC 62 1 code_Cheap.ti code_Cheap.to (fun ds K => pop (.slice (.int .i64)) ds fun x0 ds => popN ds ((code_Cheap.f k x0).bind fun r => K (code_Cheap.rs r))) env0))))
def evermorelaw_CodeCheap.t10 : Tm := ⟨[(0, .p (.slice (.int .i64))), (3, .own 0), (4, .p (.int .i64)), (5, .p (.int .i64)), (6, .p (.int .i64))], [.own (.slice (.int .i64))]⟩
def evermorelaw_CodeCheap.c10 (k : Nat) (ds : List Dat) : Option (Bool) := pop (.slice (.int .i64)) ds fun x0 ds => pop (.int .i64) ds fun x1 ds => pop (.int .i64) ds fun x2 ds => pop (.int .i64) ds fun x3 ds => pop (.slice (.slice (.int .i64))) ds fun x4 ds => popN ds (evermorelaw_CodeCheap.j5 k x0 x1 x2 x3 x4)
def evermorelaw_CodeCheap.t13 : Tm := ⟨[(0, .p (.slice (.int .i64))), (3, .own 0), (4, .p (.int .i64)), (5, .p (.int .i64)), (6, .p (.int .i64)), (7, .p (.int .i64))], [.own (.slice (.int .i64))]⟩
def evermorelaw_CodeCheap.c13 (k : Nat) (ds : List Dat) : Option (Bool) := pop (.slice (.int .i64)) ds fun x0 ds => pop (.int .i64) ds fun x1 ds => pop (.int .i64) ds fun x2 ds => pop (.int .i64) ds fun x3 ds => pop (.int .i64) ds fun x4 ds => pop (.slice (.slice (.int .i64))) ds fun x5 ds => popN ds (evermorelaw_CodeCheap.l6 k x0 x1 x2 x3 x4 x5)
def evermorelaw_CodeCheap.t14 : Tm := ⟨[(0, .p (.slice (.int .i64))), (3, .own 0), (4, .p (.int .i64)), (5, .p (.int .i64)), (6, .p (.int .i64)), (7, .p (.int .i64))], [.own (.slice (.int .i64))]⟩
def evermorelaw_CodeCheap.c14 (k : Nat) (ds : List Dat) : Option (Bool) := pop (.slice (.int .i64)) ds fun x0 ds => pop (.int .i64) ds fun x1 ds => pop (.int .i64) ds fun x2 ds => pop (.int .i64) ds fun x3 ds => pop (.int .i64) ds fun x4 ds => pop (.slice (.slice (.int .i64))) ds fun x5 ds => popN ds (evermorelaw_CodeCheap.j7 k x0 x1 x2 x3 x4 x5)
def evermorelaw_CodeCheap.t35 : Tm := ⟨[(0, .p (.slice (.int .i64))), (3, .own 0), (4, .p (.int .i64)), (9, .p (.int .i64)), (10, .p (.int .i64))], [.own (.slice (.int .i64))]⟩
def evermorelaw_CodeCheap.c35 (k : Nat) (ds : List Dat) : Option (Bool) := pop (.slice (.int .i64)) ds fun x0 ds => pop (.int .i64) ds fun x1 ds => pop (.int .i64) ds fun x2 ds => pop (.int .i64) ds fun x3 ds => pop (.slice (.slice (.int .i64))) ds fun x4 ds => popN ds (evermorelaw_CodeCheap.l17 k x0 x1 x2 x3 x4)
def evermorelaw_CodeCheap.tbl : List (Nat × Tm × (Nat → List Dat → Option (Bool))) := [(10, evermorelaw_CodeCheap.t10, evermorelaw_CodeCheap.c10), (13, evermorelaw_CodeCheap.t13, evermorelaw_CodeCheap.c13), (14, evermorelaw_CodeCheap.t14, evermorelaw_CodeCheap.c14), (35, evermorelaw_CodeCheap.t35, evermorelaw_CodeCheap.c35)]
noncomputable abbrev evermorelaw_CodeCheap.R (k : Nat) := run T (evermorelaw_CodeCheap.env k) Try.f12.ntmps (cutE 0 evermorelaw_CodeCheap.tbl k) (finE 0 evermorelaw_CodeCheap.to evermorelaw_CodeCheap.out) (fnRes Try.f12) [7, 5] 100000 true
theorem evermorelaw_CodeCheap.e10 (k : Nat) (x0 : (List Int)) (x1 : Int) (x2 : Int) (x3 : Int) (x4 : (List (List Int))) : evermorelaw_CodeCheap.j5 (k + 1) x0 x1 x2 x3 x4 = evermorelaw_CodeCheap.R k (start (stackOf 10 evermorelaw_CodeCheap.body)) (evermorelaw_CodeCheap.t10.fill [⟨(.slice (.int .i64)), x0⟩, ⟨(.int .i64), x1⟩, ⟨(.int .i64), x2⟩, ⟨(.int .i64), x3⟩, ⟨(.slice (.slice (.int .i64))), x4⟩]) := by kernel_rfl
theorem evermorelaw_CodeCheap.s10 : stackAt 10 evermorelaw_CodeCheap.body [] = some (stackOf 10 evermorelaw_CodeCheap.body) := by kernel_rfl
theorem evermorelaw_CodeCheap.h10 (k : Nat) (ds : List Dat) (r : Bool) (h : evermorelaw_CodeCheap.c10 k ds = some r) : ∃ k', k' < k ∧ ∃ s, stackAt 10 evermorelaw_CodeCheap.body [] = some s ∧ evermorelaw_CodeCheap.R k' (start s) (evermorelaw_CodeCheap.t10.fill ds) = some r := by
  unfold evermorelaw_CodeCheap.c10 at h
  obtain ⟨x0, d0, rfl, h0⟩ := pop_some h
  obtain ⟨x1, d1, rfl, h1⟩ := pop_some h0
  obtain ⟨x2, d2, rfl, h2⟩ := pop_some h1
  obtain ⟨x3, d3, rfl, h3⟩ := pop_some h2
  obtain ⟨x4, d4, rfl, h4⟩ := pop_some h3
  obtain ⟨rfl, g⟩ := popN_some h4
  cases k with
  | zero => cases (show none = some r from g)
  | succ k => exact ⟨k, Nat.lt_succ_self k, _, evermorelaw_CodeCheap.s10, (evermorelaw_CodeCheap.e10 k x0 x1 x2 x3 x4).symm.trans g⟩
theorem evermorelaw_CodeCheap.e13 (k : Nat) (x0 : (List Int)) (x1 : Int) (x2 : Int) (x3 : Int) (x4 : Int) (x5 : (List (List Int))) : evermorelaw_CodeCheap.l6 (k + 1) x0 x1 x2 x3 x4 x5 = evermorelaw_CodeCheap.R k (start (stackOf 13 evermorelaw_CodeCheap.body)) (evermorelaw_CodeCheap.t13.fill [⟨(.slice (.int .i64)), x0⟩, ⟨(.int .i64), x1⟩, ⟨(.int .i64), x2⟩, ⟨(.int .i64), x3⟩, ⟨(.int .i64), x4⟩, ⟨(.slice (.slice (.int .i64))), x5⟩]) := by kernel_rfl
theorem evermorelaw_CodeCheap.s13 : stackAt 13 evermorelaw_CodeCheap.body [] = some (stackOf 13 evermorelaw_CodeCheap.body) := by kernel_rfl
theorem evermorelaw_CodeCheap.h13 (k : Nat) (ds : List Dat) (r : Bool) (h : evermorelaw_CodeCheap.c13 k ds = some r) : ∃ k', k' < k ∧ ∃ s, stackAt 13 evermorelaw_CodeCheap.body [] = some s ∧ evermorelaw_CodeCheap.R k' (start s) (evermorelaw_CodeCheap.t13.fill ds) = some r := by
  unfold evermorelaw_CodeCheap.c13 at h
  obtain ⟨x0, d0, rfl, h0⟩ := pop_some h
  obtain ⟨x1, d1, rfl, h1⟩ := pop_some h0
  obtain ⟨x2, d2, rfl, h2⟩ := pop_some h1
  obtain ⟨x3, d3, rfl, h3⟩ := pop_some h2
  obtain ⟨x4, d4, rfl, h4⟩ := pop_some h3
  obtain ⟨x5, d5, rfl, h5⟩ := pop_some h4
  obtain ⟨rfl, g⟩ := popN_some h5
  cases k with
  | zero => cases (show none = some r from g)
  | succ k => exact ⟨k, Nat.lt_succ_self k, _, evermorelaw_CodeCheap.s13, (evermorelaw_CodeCheap.e13 k x0 x1 x2 x3 x4 x5).symm.trans g⟩
theorem evermorelaw_CodeCheap.e14 (k : Nat) (x0 : (List Int)) (x1 : Int) (x2 : Int) (x3 : Int) (x4 : Int) (x5 : (List (List Int))) : evermorelaw_CodeCheap.j7 (k + 1) x0 x1 x2 x3 x4 x5 = evermorelaw_CodeCheap.R k (start (stackOf 14 evermorelaw_CodeCheap.body)) (evermorelaw_CodeCheap.t14.fill [⟨(.slice (.int .i64)), x0⟩, ⟨(.int .i64), x1⟩, ⟨(.int .i64), x2⟩, ⟨(.int .i64), x3⟩, ⟨(.int .i64), x4⟩, ⟨(.slice (.slice (.int .i64))), x5⟩]) := by kernel_rfl
theorem evermorelaw_CodeCheap.s14 : stackAt 14 evermorelaw_CodeCheap.body [] = some (stackOf 14 evermorelaw_CodeCheap.body) := by kernel_rfl
theorem evermorelaw_CodeCheap.h14 (k : Nat) (ds : List Dat) (r : Bool) (h : evermorelaw_CodeCheap.c14 k ds = some r) : ∃ k', k' < k ∧ ∃ s, stackAt 14 evermorelaw_CodeCheap.body [] = some s ∧ evermorelaw_CodeCheap.R k' (start s) (evermorelaw_CodeCheap.t14.fill ds) = some r := by
  unfold evermorelaw_CodeCheap.c14 at h
  obtain ⟨x0, d0, rfl, h0⟩ := pop_some h
  obtain ⟨x1, d1, rfl, h1⟩ := pop_some h0
  obtain ⟨x2, d2, rfl, h2⟩ := pop_some h1
  obtain ⟨x3, d3, rfl, h3⟩ := pop_some h2
  obtain ⟨x4, d4, rfl, h4⟩ := pop_some h3
  obtain ⟨x5, d5, rfl, h5⟩ := pop_some h4
  obtain ⟨rfl, g⟩ := popN_some h5
  cases k with
  | zero => cases (show none = some r from g)
  | succ k => exact ⟨k, Nat.lt_succ_self k, _, evermorelaw_CodeCheap.s14, (evermorelaw_CodeCheap.e14 k x0 x1 x2 x3 x4 x5).symm.trans g⟩
theorem evermorelaw_CodeCheap.e35 (k : Nat) (x0 : (List Int)) (x1 : Int) (x2 : Int) (x3 : Int) (x4 : (List (List Int))) : evermorelaw_CodeCheap.l17 (k + 1) x0 x1 x2 x3 x4 = evermorelaw_CodeCheap.R k (start (stackOf 35 evermorelaw_CodeCheap.body)) (evermorelaw_CodeCheap.t35.fill [⟨(.slice (.int .i64)), x0⟩, ⟨(.int .i64), x1⟩, ⟨(.int .i64), x2⟩, ⟨(.int .i64), x3⟩, ⟨(.slice (.slice (.int .i64))), x4⟩]) := by kernel_rfl
theorem evermorelaw_CodeCheap.s35 : stackAt 35 evermorelaw_CodeCheap.body [] = some (stackOf 35 evermorelaw_CodeCheap.body) := by kernel_rfl
theorem evermorelaw_CodeCheap.h35 (k : Nat) (ds : List Dat) (r : Bool) (h : evermorelaw_CodeCheap.c35 k ds = some r) : ∃ k', k' < k ∧ ∃ s, stackAt 35 evermorelaw_CodeCheap.body [] = some s ∧ evermorelaw_CodeCheap.R k' (start s) (evermorelaw_CodeCheap.t35.fill ds) = some r := by
  unfold evermorelaw_CodeCheap.c35 at h
  obtain ⟨x0, d0, rfl, h0⟩ := pop_some h
  obtain ⟨x1, d1, rfl, h1⟩ := pop_some h0
  obtain ⟨x2, d2, rfl, h2⟩ := pop_some h1
  obtain ⟨x3, d3, rfl, h3⟩ := pop_some h2
  obtain ⟨x4, d4, rfl, h4⟩ := pop_some h3
  obtain ⟨rfl, g⟩ := popN_some h4
  cases k with
  | zero => cases (show none = some r from g)
  | succ k => exact ⟨k, Nat.lt_succ_self k, _, evermorelaw_CodeCheap.s35, (evermorelaw_CodeCheap.e35 k x0 x1 x2 x3 x4).symm.trans g⟩
theorem evermorelaw_CodeCheap.e (k : Nat) (x0 : (List Int)) : evermorelaw_CodeCheap.f k x0 = evermorelaw_CodeCheap.R k ([.code evermorelaw_CodeCheap.body]) (evermorelaw_CodeCheap.ti.fill [⟨(.slice (.int .i64)), x0⟩]) := by kernel_rfl
theorem evermorelaw_CodeCheap.h (k : Nat) (ds : List Dat) (r : Bool) (h : evermorelaw_CodeCheap.g k ds = some r) : ∃ k', k' < k ∧ evermorelaw_CodeCheap.R k' ([.code evermorelaw_CodeCheap.body]) (evermorelaw_CodeCheap.ti.fill ds) = some r := by
  cases k with
  | zero => cases (show none = some r from h)
  | succ k =>
  replace h : evermorelaw_CodeCheap.c k ds = some r := h
  unfold evermorelaw_CodeCheap.c at h
  obtain ⟨x0, d0, rfl, h0⟩ := pop_some h
  obtain ⟨rfl, g⟩ := popN_some h0
  exact ⟨k, Nat.lt_succ_self k, (evermorelaw_CodeCheap.e k x0).symm.trans g⟩
theorem evermorelaw_CodeCheap.o (ds : List Dat) (r : Bool) (h : evermorelaw_CodeCheap.out ds = some r) : ds = evermorelaw_CodeCheap.rs r := by
  unfold evermorelaw_CodeCheap.out at h
  obtain ⟨x0, d0, rfl, h0⟩ := pop_some h
  obtain ⟨rfl, g⟩ := popN_some h0
  cases g
  rfl
theorem evermorelaw_CodeCheap.fn : FnOk Try.prog 12 Try.f12 evermorelaw_CodeCheap.body Try.f12.ntmps 1 (fnRes Try.f12) :=
  fnOk_of (by kernel_rfl) (by kernel_rfl) (by kernel_rfl) (by kernel_rfl)
theorem evermorelaw_CodeCheap.con' : ∀ k ds r, evermorelaw_CodeCheap.g k ds = some r → Con Try.prog 12 1 evermorelaw_CodeCheap.ti evermorelaw_CodeCheap.to ds (evermorelaw_CodeCheap.rs r) :=
  fun_ok (T := T) T_ok mixed evermorelaw_CodeCheap.fn (env := evermorelaw_CodeCheap.env) (tbl := evermorelaw_CodeCheap.tbl) (gOut := evermorelaw_CodeCheap.out) (nin := 0) (cuts := [7, 5]) (fuel := 100000) rfl (by kernel_rfl) (by kernel_rfl) (by kernel_rfl) (fun x hx => by
    simp only [evermorelaw_CodeCheap.tbl, List.mem_cons, List.not_mem_nil, or_false] at hx
    rcases hx with rfl | rfl | rfl | rfl
    · exact evermorelaw_CodeCheap.h10
    · exact evermorelaw_CodeCheap.h13
    · exact evermorelaw_CodeCheap.h14
    · exact evermorelaw_CodeCheap.h35
) evermorelaw_CodeCheap.o evermorelaw_CodeCheap.h (fun k _ => by unfold evermorelaw_CodeCheap.env; exact (envC_ok (fun ds K r h => by
    obtain ⟨x0, d0, rfl, h0⟩ := pop_some h
    obtain ⟨rfl, g⟩ := popN_some h0
    obtain ⟨r1, h1, h2⟩ := bind_some g
    exact ⟨_, h2, evermoreref24_Cheapest.con k _ h1⟩) (envC_ok (fun ds K r h => by
    obtain ⟨x0, d0, rfl, h0⟩ := pop_some h
    obtain ⟨x1, d1, rfl, h1⟩ := pop_some h0
    obtain ⟨rfl, g⟩ := popN_some h1
    obtain ⟨r1, h1, h2⟩ := bind_some g
    exact ⟨_, h2, evermoreref1_May.con k _ h1⟩) (envC_ok (fun ds K r h => by
    obtain ⟨x0, d0, rfl, h0⟩ := pop_some h
    obtain ⟨rfl, g⟩ := popN_some h0
    obtain ⟨r1, h1, h2⟩ := bind_some g
    exact ⟨_, h2, evermoreref24_Apart.con k _ h1⟩) (envC_ok (fun ds K r h => by
    obtain ⟨x0, d0, rfl, h0⟩ := pop_some h
    obtain ⟨rfl, g⟩ := popN_some h0
    obtain ⟨r1, h1, h2⟩ := bind_some g
    exact ⟨_, h2, code_Cheap.con k _ h1⟩) env0_ok)))))
theorem evermorelaw_CodeCheap.con (k : Nat) {x0 : (List Int)} (r : Bool) (h : evermorelaw_CodeCheap.f k x0 = some r) : Con Try.prog 12 1 evermorelaw_CodeCheap.ti evermorelaw_CodeCheap.to [⟨(.slice (.int .i64)), x0⟩] (evermorelaw_CodeCheap.rs r) :=
  evermorelaw_CodeCheap.con' (k + 1) _ r (by show evermorelaw_CodeCheap.c k _ = some r; unfold evermorelaw_CodeCheap.c; simp only [pop_self, popN]; exact h)
/-- The one pure statement of the law, over whatever arguments can be read. -/
def evermorelaw_CodeCheap.PureH : Prop := ∀ (x0 : (List Int)), Ty.okv (.slice (.int .i64)) x0 → ∃ k, evermorelaw_CodeCheap.f k x0 = some true
end Go.Proofs.YtmagglebkbiffaaSx
