import Derived.Test.YtmagglebkbiffaaSxT
import Derived.Test.YtmagglebkbiffaaSxQ
import Derived.Test.YtmagglebkbiffaaSxV2
import Derived.Test.YtmagglebkbiffaaSxW
import Derived.KernelRfl
import Derived.Test.YtmagglebkbiffaaProg
set_option linter.unusedVariables false
set_option maxRecDepth 100000
namespace Go.Proofs.YtmagglebkbiffaaSx
open Go Go.Proofs
theorem T_check : T.check Try.prog = true := by kernel_rfl
theorem T_ok : TOk Try.prog T := TT.check_ok T_check
theorem mixed : Try.prog.follows .mixedOrders = true := by kernel_rfl
def code_Kraft_1.f (k : Nat) (n0 : Int) : Option (Bool) :=
 if n0 < 1 then
  some (true)
 else
  some (decide (30 < n0))

noncomputable def code_Kraft_1.body : Code := fnBody Try.f130
def code_Kraft_1.ti : Tm := ⟨[(0, .p (.int .i64))], []⟩
def code_Kraft_1.to : Tm := ⟨[(0, .p .bool)], []⟩
def code_Kraft_1.rs (r : Bool) : List Dat := [⟨.bool, r⟩]
def code_Kraft_1.out (ds : List Dat) : Option (Bool) := pop .bool ds fun x0 ds => popN ds (some (x0))
def code_Kraft_1.c (k : Nat) (ds : List Dat) : Option (Bool) := pop (.int .i64) ds fun x0 ds => popN ds (code_Kraft_1.f k x0)
def code_Kraft_1.g : Nat → List Dat → Option (Bool)
 | 0, _ => none
 | k + 1, ds => code_Kraft_1.c k ds
def code_Kraft_1.env (k : Nat) : Nat → List SV → List Chunk → KT (Bool) → Option (Bool) := env0
def code_Kraft_1.tbl : List (Nat × Tm × (Nat → List Dat → Option (Bool))) := []
noncomputable abbrev code_Kraft_1.R (k : Nat) := run T (code_Kraft_1.env k) Try.f130.ntmps (cutE 0 code_Kraft_1.tbl k) (finE 0 code_Kraft_1.to code_Kraft_1.out) (fnRes Try.f130) [] 100000 true
theorem code_Kraft_1.e (k : Nat) (x0 : Int) : code_Kraft_1.f k x0 = code_Kraft_1.R k ([.code code_Kraft_1.body]) (code_Kraft_1.ti.fill [⟨(.int .i64), x0⟩]) := by kernel_rfl
theorem code_Kraft_1.h (k : Nat) (ds : List Dat) (r : Bool) (h : code_Kraft_1.g k ds = some r) : ∃ k', k' < k ∧ code_Kraft_1.R k' ([.code code_Kraft_1.body]) (code_Kraft_1.ti.fill ds) = some r := by
  cases k with
  | zero => cases (show none = some r from h)
  | succ k =>
  replace h : code_Kraft_1.c k ds = some r := h
  unfold code_Kraft_1.c at h
  obtain ⟨x0, d0, rfl, h0⟩ := pop_some h
  obtain ⟨rfl, g⟩ := popN_some h0
  exact ⟨k, Nat.lt_succ_self k, (code_Kraft_1.e k x0).symm.trans g⟩
theorem code_Kraft_1.o (ds : List Dat) (r : Bool) (h : code_Kraft_1.out ds = some r) : ds = code_Kraft_1.rs r := by
  unfold code_Kraft_1.out at h
  obtain ⟨x0, d0, rfl, h0⟩ := pop_some h
  obtain ⟨rfl, g⟩ := popN_some h0
  cases g
  rfl
theorem code_Kraft_1.fn : FnOk Try.prog 130 Try.f130 code_Kraft_1.body Try.f130.ntmps 1 (fnRes Try.f130) :=
  fnOk_of (by kernel_rfl) (by kernel_rfl) (by kernel_rfl) (by kernel_rfl)
theorem code_Kraft_1.con' : ∀ k ds r, code_Kraft_1.g k ds = some r → Con Try.prog 130 1 code_Kraft_1.ti code_Kraft_1.to ds (code_Kraft_1.rs r) :=
  fun_ok (T := T) T_ok mixed code_Kraft_1.fn (env := code_Kraft_1.env) (tbl := code_Kraft_1.tbl) (gOut := code_Kraft_1.out) (nin := 0) (cuts := []) (fuel := 100000) rfl (by kernel_rfl) (by kernel_rfl) (by kernel_rfl) (fun x hx => by simp [code_Kraft_1.tbl] at hx) code_Kraft_1.o code_Kraft_1.h (fun k _ => by unfold code_Kraft_1.env; exact env0_ok)
theorem code_Kraft_1.con (k : Nat) {x0 : Int} (r : Bool) (h : code_Kraft_1.f k x0 = some r) : Con Try.prog 130 1 code_Kraft_1.ti code_Kraft_1.to [⟨(.int .i64), x0⟩] (code_Kraft_1.rs r) :=
  code_Kraft_1.con' (k + 1) _ r (by show code_Kraft_1.c k _ = some r; unfold code_Kraft_1.c; simp only [pop_self, popN]; exact h)
mutual
def slices_IndexFunc___int_int_.l2 : Nat → List (Int) → Int → Int → Option (Int)
 | 0, _, _, _ => none
 | k + 1, s0, x7, x8 =>
  if x8 < x7 then
   if 0 ≤ x8 then
   if x8 < (↑s0.length : Int) then
    (code_Kraft_1.f k (Go.Proofs.YtmagglebkbiffaaSx.rd (Int.ofNat 0) s0 x8)).bind fun r_5 =>
      if r_5 = true then
       some (x8)
      else
       slices_IndexFunc___int_int_.l2 k s0 x7 (Go.IntKind.i64.wrap (x8 + 1))
    else none
   else none
  else
   some (-1)
end
def slices_IndexFunc___int_int_.f (k : Nat) (s0 : List (Int)) : Option (Int) :=
 slices_IndexFunc___int_int_.l2 k s0 ((↑s0.length : Int)) 0

noncomputable def slices_IndexFunc___int_int_.body : Code := fnBody Try.f147
def slices_IndexFunc___int_int_.ti : Tm := ⟨[(0, .p (.slice (.int .i64))), (1, .fn 130 [])], []⟩
def slices_IndexFunc___int_int_.to : Tm := ⟨[(0, .p (.int .i64))], []⟩
def slices_IndexFunc___int_int_.rs (r : Int) : List Dat := [⟨(.int .i64), r⟩]
def slices_IndexFunc___int_int_.out (ds : List Dat) : Option (Int) := pop (.int .i64) ds fun x0 ds => popN ds (some (x0))
def slices_IndexFunc___int_int_.c (k : Nat) (ds : List Dat) : Option (Int) := pop (.slice (.int .i64)) ds fun x0 ds => popN ds (slices_IndexFunc___int_int_.f k x0)
def slices_IndexFunc___int_int_.g : Nat → List Dat → Option (Int)
 | 0, _ => none
 | k + 1, ds => slices_IndexFunc___int_int_.c k ds
def slices_IndexFunc___int_int_.env (k : Nat) : Nat → List SV → List Chunk → KT (Int) → Option (Int) := (envC 130 1 code_Kraft_1.ti code_Kraft_1.to (fun ds K => pop (.int .i64) ds fun x0 ds => popN ds ((code_Kraft_1.f k x0).bind fun r => K (code_Kraft_1.rs r))) env0)
def slices_IndexFunc___int_int_.t5 : Tm := ⟨[(0, .p (.slice (.int .i64))), (1, .fn 130 []), (7, .p (.int .i64)), (8, .p (.int .i64))], []⟩
def slices_IndexFunc___int_int_.c5 (k : Nat) (ds : List Dat) : Option (Int) := pop (.slice (.int .i64)) ds fun x0 ds => pop (.int .i64) ds fun x1 ds => pop (.int .i64) ds fun x2 ds => popN ds (slices_IndexFunc___int_int_.l2 k x0 x1 x2)
def slices_IndexFunc___int_int_.tbl : List (Nat × Tm × (Nat → List Dat → Option (Int))) := [(5, slices_IndexFunc___int_int_.t5, slices_IndexFunc___int_int_.c5)]
noncomputable abbrev slices_IndexFunc___int_int_.R (k : Nat) := run T (slices_IndexFunc___int_int_.env k) Try.f147.ntmps (cutE 0 slices_IndexFunc___int_int_.tbl k) (finE 0 slices_IndexFunc___int_int_.to slices_IndexFunc___int_int_.out) (fnRes Try.f147) [] 100000 true
theorem slices_IndexFunc___int_int_.e5 (k : Nat) (x0 : (List Int)) (x1 : Int) (x2 : Int) : slices_IndexFunc___int_int_.l2 (k + 1) x0 x1 x2 = slices_IndexFunc___int_int_.R k (start (stackOf 5 slices_IndexFunc___int_int_.body)) (slices_IndexFunc___int_int_.t5.fill [⟨(.slice (.int .i64)), x0⟩, ⟨(.int .i64), x1⟩, ⟨(.int .i64), x2⟩]) := by kernel_rfl
theorem slices_IndexFunc___int_int_.s5 : stackAt 5 slices_IndexFunc___int_int_.body [] = some (stackOf 5 slices_IndexFunc___int_int_.body) := by kernel_rfl
theorem slices_IndexFunc___int_int_.h5 (k : Nat) (ds : List Dat) (r : Int) (h : slices_IndexFunc___int_int_.c5 k ds = some r) : ∃ k', k' < k ∧ ∃ s, stackAt 5 slices_IndexFunc___int_int_.body [] = some s ∧ slices_IndexFunc___int_int_.R k' (start s) (slices_IndexFunc___int_int_.t5.fill ds) = some r := by
  unfold slices_IndexFunc___int_int_.c5 at h
  obtain ⟨x0, d0, rfl, h0⟩ := pop_some h
  obtain ⟨x1, d1, rfl, h1⟩ := pop_some h0
  obtain ⟨x2, d2, rfl, h2⟩ := pop_some h1
  obtain ⟨rfl, g⟩ := popN_some h2
  cases k with
  | zero => cases (show none = some r from g)
  | succ k => exact ⟨k, Nat.lt_succ_self k, _, slices_IndexFunc___int_int_.s5, (slices_IndexFunc___int_int_.e5 k x0 x1 x2).symm.trans g⟩
theorem slices_IndexFunc___int_int_.e (k : Nat) (x0 : (List Int)) : slices_IndexFunc___int_int_.f k x0 = slices_IndexFunc___int_int_.R k ([.code slices_IndexFunc___int_int_.body]) (slices_IndexFunc___int_int_.ti.fill [⟨(.slice (.int .i64)), x0⟩]) := by kernel_rfl
theorem slices_IndexFunc___int_int_.h (k : Nat) (ds : List Dat) (r : Int) (h : slices_IndexFunc___int_int_.g k ds = some r) : ∃ k', k' < k ∧ slices_IndexFunc___int_int_.R k' ([.code slices_IndexFunc___int_int_.body]) (slices_IndexFunc___int_int_.ti.fill ds) = some r := by
  cases k with
  | zero => cases (show none = some r from h)
  | succ k =>
  replace h : slices_IndexFunc___int_int_.c k ds = some r := h
  unfold slices_IndexFunc___int_int_.c at h
  obtain ⟨x0, d0, rfl, h0⟩ := pop_some h
  obtain ⟨rfl, g⟩ := popN_some h0
  exact ⟨k, Nat.lt_succ_self k, (slices_IndexFunc___int_int_.e k x0).symm.trans g⟩
theorem slices_IndexFunc___int_int_.o (ds : List Dat) (r : Int) (h : slices_IndexFunc___int_int_.out ds = some r) : ds = slices_IndexFunc___int_int_.rs r := by
  unfold slices_IndexFunc___int_int_.out at h
  obtain ⟨x0, d0, rfl, h0⟩ := pop_some h
  obtain ⟨rfl, g⟩ := popN_some h0
  cases g
  rfl
theorem slices_IndexFunc___int_int_.fn : FnOk Try.prog 147 Try.f147 slices_IndexFunc___int_int_.body Try.f147.ntmps 2 (fnRes Try.f147) :=
  fnOk_of (by kernel_rfl) (by kernel_rfl) (by kernel_rfl) (by kernel_rfl)
theorem slices_IndexFunc___int_int_.con' : ∀ k ds r, slices_IndexFunc___int_int_.g k ds = some r → Con Try.prog 147 2 slices_IndexFunc___int_int_.ti slices_IndexFunc___int_int_.to ds (slices_IndexFunc___int_int_.rs r) :=
  fun_ok (T := T) T_ok mixed slices_IndexFunc___int_int_.fn (env := slices_IndexFunc___int_int_.env) (tbl := slices_IndexFunc___int_int_.tbl) (gOut := slices_IndexFunc___int_int_.out) (nin := 0) (cuts := []) (fuel := 100000) rfl (by kernel_rfl) (by kernel_rfl) (by kernel_rfl) (fun x hx => by
    simp only [slices_IndexFunc___int_int_.tbl, List.mem_cons, List.not_mem_nil, or_false] at hx
    subst hx
    · exact slices_IndexFunc___int_int_.h5
) slices_IndexFunc___int_int_.o slices_IndexFunc___int_int_.h (fun k _ => by unfold slices_IndexFunc___int_int_.env; exact (envC_ok (fun ds K r h => by
    obtain ⟨x0, d0, rfl, h0⟩ := pop_some h
    obtain ⟨rfl, g⟩ := popN_some h0
    obtain ⟨r1, h1, h2⟩ := bind_some g
    exact ⟨_, h2, code_Kraft_1.con k _ h1⟩) env0_ok))
theorem slices_IndexFunc___int_int_.con (k : Nat) {x0 : (List Int)} (r : Int) (h : slices_IndexFunc___int_int_.f k x0 = some r) : Con Try.prog 147 2 slices_IndexFunc___int_int_.ti slices_IndexFunc___int_int_.to [⟨(.slice (.int .i64)), x0⟩] (slices_IndexFunc___int_int_.rs r) :=
  slices_IndexFunc___int_int_.con' (k + 1) _ r (by show slices_IndexFunc___int_int_.c k _ = some r; unfold slices_IndexFunc___int_int_.c; simp only [pop_self, popN]; exact h)
def slices_ContainsFunc___int_int_.f (k : Nat) (s0 : List (Int)) : Option (Bool) :=
 (slices_IndexFunc___int_int_.f k s0).bind fun r_1 =>
  some (decide (0 ≤ r_1))

noncomputable def slices_ContainsFunc___int_int_.body : Code := fnBody Try.f99
def slices_ContainsFunc___int_int_.ti : Tm := ⟨[(0, .p (.slice (.int .i64))), (1, .fn 130 [])], []⟩
def slices_ContainsFunc___int_int_.to : Tm := ⟨[(0, .p .bool)], []⟩
def slices_ContainsFunc___int_int_.rs (r : Bool) : List Dat := [⟨.bool, r⟩]
def slices_ContainsFunc___int_int_.out (ds : List Dat) : Option (Bool) := pop .bool ds fun x0 ds => popN ds (some (x0))
def slices_ContainsFunc___int_int_.c (k : Nat) (ds : List Dat) : Option (Bool) := pop (.slice (.int .i64)) ds fun x0 ds => popN ds (slices_ContainsFunc___int_int_.f k x0)
def slices_ContainsFunc___int_int_.g : Nat → List Dat → Option (Bool)
 | 0, _ => none
 | k + 1, ds => slices_ContainsFunc___int_int_.c k ds
def slices_ContainsFunc___int_int_.env (k : Nat) : Nat → List SV → List Chunk → KT (Bool) → Option (Bool) := (envC 147 2 slices_IndexFunc___int_int_.ti slices_IndexFunc___int_int_.to (fun ds K => pop (.slice (.int .i64)) ds fun x0 ds => popN ds ((slices_IndexFunc___int_int_.f k x0).bind fun r => K (slices_IndexFunc___int_int_.rs r))) env0)
def slices_ContainsFunc___int_int_.tbl : List (Nat × Tm × (Nat → List Dat → Option (Bool))) := []
noncomputable abbrev slices_ContainsFunc___int_int_.R (k : Nat) := run T (slices_ContainsFunc___int_int_.env k) Try.f99.ntmps (cutE 0 slices_ContainsFunc___int_int_.tbl k) (finE 0 slices_ContainsFunc___int_int_.to slices_ContainsFunc___int_int_.out) (fnRes Try.f99) [] 100000 true
theorem slices_ContainsFunc___int_int_.e (k : Nat) (x0 : (List Int)) : slices_ContainsFunc___int_int_.f k x0 = slices_ContainsFunc___int_int_.R k ([.code slices_ContainsFunc___int_int_.body]) (slices_ContainsFunc___int_int_.ti.fill [⟨(.slice (.int .i64)), x0⟩]) := by kernel_rfl
theorem slices_ContainsFunc___int_int_.h (k : Nat) (ds : List Dat) (r : Bool) (h : slices_ContainsFunc___int_int_.g k ds = some r) : ∃ k', k' < k ∧ slices_ContainsFunc___int_int_.R k' ([.code slices_ContainsFunc___int_int_.body]) (slices_ContainsFunc___int_int_.ti.fill ds) = some r := by
  cases k with
  | zero => cases (show none = some r from h)
  | succ k =>
  replace h : slices_ContainsFunc___int_int_.c k ds = some r := h
  unfold slices_ContainsFunc___int_int_.c at h
  obtain ⟨x0, d0, rfl, h0⟩ := pop_some h
  obtain ⟨rfl, g⟩ := popN_some h0
  exact ⟨k, Nat.lt_succ_self k, (slices_ContainsFunc___int_int_.e k x0).symm.trans g⟩
theorem slices_ContainsFunc___int_int_.o (ds : List Dat) (r : Bool) (h : slices_ContainsFunc___int_int_.out ds = some r) : ds = slices_ContainsFunc___int_int_.rs r := by
  unfold slices_ContainsFunc___int_int_.out at h
  obtain ⟨x0, d0, rfl, h0⟩ := pop_some h
  obtain ⟨rfl, g⟩ := popN_some h0
  cases g
  rfl
theorem slices_ContainsFunc___int_int_.fn : FnOk Try.prog 99 Try.f99 slices_ContainsFunc___int_int_.body Try.f99.ntmps 2 (fnRes Try.f99) :=
  fnOk_of (by kernel_rfl) (by kernel_rfl) (by kernel_rfl) (by kernel_rfl)
theorem slices_ContainsFunc___int_int_.con' : ∀ k ds r, slices_ContainsFunc___int_int_.g k ds = some r → Con Try.prog 99 2 slices_ContainsFunc___int_int_.ti slices_ContainsFunc___int_int_.to ds (slices_ContainsFunc___int_int_.rs r) :=
  fun_ok (T := T) T_ok mixed slices_ContainsFunc___int_int_.fn (env := slices_ContainsFunc___int_int_.env) (tbl := slices_ContainsFunc___int_int_.tbl) (gOut := slices_ContainsFunc___int_int_.out) (nin := 0) (cuts := []) (fuel := 100000) rfl (by kernel_rfl) (by kernel_rfl) (by kernel_rfl) (fun x hx => by simp [slices_ContainsFunc___int_int_.tbl] at hx) slices_ContainsFunc___int_int_.o slices_ContainsFunc___int_int_.h (fun k _ => by unfold slices_ContainsFunc___int_int_.env; exact (envC_ok (fun ds K r h => by
    obtain ⟨x0, d0, rfl, h0⟩ := pop_some h
    obtain ⟨rfl, g⟩ := popN_some h0
    obtain ⟨r1, h1, h2⟩ := bind_some g
    exact ⟨_, h2, slices_IndexFunc___int_int_.con k _ h1⟩) env0_ok))
theorem slices_ContainsFunc___int_int_.con (k : Nat) {x0 : (List Int)} (r : Bool) (h : slices_ContainsFunc___int_int_.f k x0 = some r) : Con Try.prog 99 2 slices_ContainsFunc___int_int_.ti slices_ContainsFunc___int_int_.to [⟨(.slice (.int .i64)), x0⟩] (slices_ContainsFunc___int_int_.rs r) :=
  slices_ContainsFunc___int_int_.con' (k + 1) _ r (by show slices_ContainsFunc___int_int_.c k _ = some r; unfold slices_ContainsFunc___int_int_.c; simp only [pop_self, popN]; exact h)
def cmp_isNaN_int_.f (k : Nat) (x0 : Int) : Option (Bool) :=
 some (!decide (x0 = x0))

noncomputable def cmp_isNaN_int_.body : Code := fnBody Try.f182
def cmp_isNaN_int_.ti : Tm := ⟨[(0, .p (.int .i64))], []⟩
def cmp_isNaN_int_.to : Tm := ⟨[(0, .p .bool)], []⟩
def cmp_isNaN_int_.rs (r : Bool) : List Dat := [⟨.bool, r⟩]
def cmp_isNaN_int_.out (ds : List Dat) : Option (Bool) := pop .bool ds fun x0 ds => popN ds (some (x0))
def cmp_isNaN_int_.c (k : Nat) (ds : List Dat) : Option (Bool) := pop (.int .i64) ds fun x0 ds => popN ds (cmp_isNaN_int_.f k x0)
def cmp_isNaN_int_.g : Nat → List Dat → Option (Bool)
 | 0, _ => none
 | k + 1, ds => cmp_isNaN_int_.c k ds
def cmp_isNaN_int_.env (k : Nat) : Nat → List SV → List Chunk → KT (Bool) → Option (Bool) := env0
def cmp_isNaN_int_.tbl : List (Nat × Tm × (Nat → List Dat → Option (Bool))) := []
noncomputable abbrev cmp_isNaN_int_.R (k : Nat) := run T (cmp_isNaN_int_.env k) Try.f182.ntmps (cutE 0 cmp_isNaN_int_.tbl k) (finE 0 cmp_isNaN_int_.to cmp_isNaN_int_.out) (fnRes Try.f182) [] 100000 true
theorem cmp_isNaN_int_.e (k : Nat) (x0 : Int) : cmp_isNaN_int_.f k x0 = cmp_isNaN_int_.R k ([.code cmp_isNaN_int_.body]) (cmp_isNaN_int_.ti.fill [⟨(.int .i64), x0⟩]) := by kernel_rfl
theorem cmp_isNaN_int_.h (k : Nat) (ds : List Dat) (r : Bool) (h : cmp_isNaN_int_.g k ds = some r) : ∃ k', k' < k ∧ cmp_isNaN_int_.R k' ([.code cmp_isNaN_int_.body]) (cmp_isNaN_int_.ti.fill ds) = some r := by
  cases k with
  | zero => cases (show none = some r from h)
  | succ k =>
  replace h : cmp_isNaN_int_.c k ds = some r := h
  unfold cmp_isNaN_int_.c at h
  obtain ⟨x0, d0, rfl, h0⟩ := pop_some h
  obtain ⟨rfl, g⟩ := popN_some h0
  exact ⟨k, Nat.lt_succ_self k, (cmp_isNaN_int_.e k x0).symm.trans g⟩
theorem cmp_isNaN_int_.o (ds : List Dat) (r : Bool) (h : cmp_isNaN_int_.out ds = some r) : ds = cmp_isNaN_int_.rs r := by
  unfold cmp_isNaN_int_.out at h
  obtain ⟨x0, d0, rfl, h0⟩ := pop_some h
  obtain ⟨rfl, g⟩ := popN_some h0
  cases g
  rfl
theorem cmp_isNaN_int_.fn : FnOk Try.prog 182 Try.f182 cmp_isNaN_int_.body Try.f182.ntmps 1 (fnRes Try.f182) :=
  fnOk_of (by kernel_rfl) (by kernel_rfl) (by kernel_rfl) (by kernel_rfl)
theorem cmp_isNaN_int_.con' : ∀ k ds r, cmp_isNaN_int_.g k ds = some r → Con Try.prog 182 1 cmp_isNaN_int_.ti cmp_isNaN_int_.to ds (cmp_isNaN_int_.rs r) :=
  fun_ok (T := T) T_ok mixed cmp_isNaN_int_.fn (env := cmp_isNaN_int_.env) (tbl := cmp_isNaN_int_.tbl) (gOut := cmp_isNaN_int_.out) (nin := 0) (cuts := []) (fuel := 100000) rfl (by kernel_rfl) (by kernel_rfl) (by kernel_rfl) (fun x hx => by simp [cmp_isNaN_int_.tbl] at hx) cmp_isNaN_int_.o cmp_isNaN_int_.h (fun k _ => by unfold cmp_isNaN_int_.env; exact env0_ok)
theorem cmp_isNaN_int_.con (k : Nat) {x0 : Int} (r : Bool) (h : cmp_isNaN_int_.f k x0 = some r) : Con Try.prog 182 1 cmp_isNaN_int_.ti cmp_isNaN_int_.to [⟨(.int .i64), x0⟩] (cmp_isNaN_int_.rs r) :=
  cmp_isNaN_int_.con' (k + 1) _ r (by show cmp_isNaN_int_.c k _ = some r; unfold cmp_isNaN_int_.c; simp only [pop_self, popN]; exact h)
def cmp_Compare_int_.f (k : Nat) (x0 : Int) (y1 : Int) : Option (Int) :=
 (cmp_isNaN_int_.f k x0).bind fun r_1 =>
  (cmp_isNaN_int_.f k y1).bind fun r_2 =>
   if r_1 = true then
    if r_2 = true then
     some (0)
    else
     some (-1)
   else
    if r_2 = true then
     some (1)
    else
     if x0 < y1 then
      some (-1)
     else
      if y1 < x0 then
       some (1)
      else
       some (0)

noncomputable def cmp_Compare_int_.body : Code := fnBody Try.f128
def cmp_Compare_int_.ti : Tm := ⟨[(0, .p (.int .i64)), (1, .p (.int .i64))], []⟩
def cmp_Compare_int_.to : Tm := ⟨[(0, .p (.int .i64))], []⟩
def cmp_Compare_int_.rs (r : Int) : List Dat := [⟨(.int .i64), r⟩]
def cmp_Compare_int_.out (ds : List Dat) : Option (Int) := pop (.int .i64) ds fun x0 ds => popN ds (some (x0))
def cmp_Compare_int_.c (k : Nat) (ds : List Dat) : Option (Int) := pop (.int .i64) ds fun x0 ds => pop (.int .i64) ds fun x1 ds => popN ds (cmp_Compare_int_.f k x0 x1)
def cmp_Compare_int_.g : Nat → List Dat → Option (Int)
 | 0, _ => none
 | k + 1, ds => cmp_Compare_int_.c k ds
def cmp_Compare_int_.env (k : Nat) : Nat → List SV → List Chunk → KT (Int) → Option (Int) := (envC 182 1 cmp_isNaN_int_.ti cmp_isNaN_int_.to (fun ds K => pop (.int .i64) ds fun x0 ds => popN ds ((cmp_isNaN_int_.f k x0).bind fun r => K (cmp_isNaN_int_.rs r))) env0)
def cmp_Compare_int_.tbl : List (Nat × Tm × (Nat → List Dat → Option (Int))) := []
noncomputable abbrev cmp_Compare_int_.R (k : Nat) := run T (cmp_Compare_int_.env k) Try.f128.ntmps (cutE 0 cmp_Compare_int_.tbl k) (finE 0 cmp_Compare_int_.to cmp_Compare_int_.out) (fnRes Try.f128) [] 100000 true
theorem cmp_Compare_int_.e (k : Nat) (x0 : Int) (x1 : Int) : cmp_Compare_int_.f k x0 x1 = cmp_Compare_int_.R k ([.code cmp_Compare_int_.body]) (cmp_Compare_int_.ti.fill [⟨(.int .i64), x0⟩, ⟨(.int .i64), x1⟩]) := by kernel_rfl
theorem cmp_Compare_int_.h (k : Nat) (ds : List Dat) (r : Int) (h : cmp_Compare_int_.g k ds = some r) : ∃ k', k' < k ∧ cmp_Compare_int_.R k' ([.code cmp_Compare_int_.body]) (cmp_Compare_int_.ti.fill ds) = some r := by
  cases k with
  | zero => cases (show none = some r from h)
  | succ k =>
  replace h : cmp_Compare_int_.c k ds = some r := h
  unfold cmp_Compare_int_.c at h
  obtain ⟨x0, d0, rfl, h0⟩ := pop_some h
  obtain ⟨x1, d1, rfl, h1⟩ := pop_some h0
  obtain ⟨rfl, g⟩ := popN_some h1
  exact ⟨k, Nat.lt_succ_self k, (cmp_Compare_int_.e k x0 x1).symm.trans g⟩
theorem cmp_Compare_int_.o (ds : List Dat) (r : Int) (h : cmp_Compare_int_.out ds = some r) : ds = cmp_Compare_int_.rs r := by
  unfold cmp_Compare_int_.out at h
  obtain ⟨x0, d0, rfl, h0⟩ := pop_some h
  obtain ⟨rfl, g⟩ := popN_some h0
  cases g
  rfl
theorem cmp_Compare_int_.fn : FnOk Try.prog 128 Try.f128 cmp_Compare_int_.body Try.f128.ntmps 2 (fnRes Try.f128) :=
  fnOk_of (by kernel_rfl) (by kernel_rfl) (by kernel_rfl) (by kernel_rfl)
theorem cmp_Compare_int_.con' : ∀ k ds r, cmp_Compare_int_.g k ds = some r → Con Try.prog 128 2 cmp_Compare_int_.ti cmp_Compare_int_.to ds (cmp_Compare_int_.rs r) :=
  fun_ok (T := T) T_ok mixed cmp_Compare_int_.fn (env := cmp_Compare_int_.env) (tbl := cmp_Compare_int_.tbl) (gOut := cmp_Compare_int_.out) (nin := 0) (cuts := []) (fuel := 100000) rfl (by kernel_rfl) (by kernel_rfl) (by kernel_rfl) (fun x hx => by simp [cmp_Compare_int_.tbl] at hx) cmp_Compare_int_.o cmp_Compare_int_.h (fun k _ => by unfold cmp_Compare_int_.env; exact (envC_ok (fun ds K r h => by
    obtain ⟨x0, d0, rfl, h0⟩ := pop_some h
    obtain ⟨rfl, g⟩ := popN_some h0
    obtain ⟨r1, h1, h2⟩ := bind_some g
    exact ⟨_, h2, cmp_isNaN_int_.con k _ h1⟩) env0_ok))
theorem cmp_Compare_int_.con (k : Nat) {x0 : Int} {x1 : Int} (r : Int) (h : cmp_Compare_int_.f k x0 x1 = some r) : Con Try.prog 128 2 cmp_Compare_int_.ti cmp_Compare_int_.to [⟨(.int .i64), x0⟩, ⟨(.int .i64), x1⟩] (cmp_Compare_int_.rs r) :=
  cmp_Compare_int_.con' (k + 1) _ r (by show cmp_Compare_int_.c k _ = some r; unfold cmp_Compare_int_.c; simp only [pop_self, popN]; exact h)
def code_Kraft_2.f (k : Nat) (i0 : Int) (k1 : Int) (x2_0 : List (Int)) : Option (Int) :=
 if 0 ≤ i0 then
 if i0 < (↑x2_0.length : Int) then
  if 0 ≤ k1 then
   if k1 < (↑x2_0.length : Int) then
    (cmp_Compare_int_.f k (Go.Proofs.YtmagglebkbiffaaSx.rd (Int.ofNat 0) x2_0 i0) (Go.Proofs.YtmagglebkbiffaaSx.rd (Int.ofNat 0) x2_0 k1)).bind fun r_5 =>
      some (r_5)
    else none
   else none
  else none
 else none

noncomputable def code_Kraft_2.body : Code := fnBody Try.f132
def code_Kraft_2.ti : Tm := ⟨[(0, .p (.int .i64)), (1, .p (.int .i64)), (2, .rs [.p (.slice (.int .i64))] 0)], []⟩
def code_Kraft_2.to : Tm := ⟨[(0, .p (.int .i64))], []⟩
def code_Kraft_2.rs (r : Int) : List Dat := [⟨(.int .i64), r⟩]
def code_Kraft_2.out (ds : List Dat) : Option (Int) := pop (.int .i64) ds fun x0 ds => popN ds (some (x0))
def code_Kraft_2.c (k : Nat) (ds : List Dat) : Option (Int) := pop (.int .i64) ds fun x0 ds => pop (.int .i64) ds fun x1 ds => pop (.slice (.int .i64)) ds fun x2 ds => popN ds (code_Kraft_2.f k x0 x1 x2)
def code_Kraft_2.g : Nat → List Dat → Option (Int)
 | 0, _ => none
 | k + 1, ds => code_Kraft_2.c k ds
def code_Kraft_2.env (k : Nat) : Nat → List SV → List Chunk → KT (Int) → Option (Int) := (envC 128 2 cmp_Compare_int_.ti cmp_Compare_int_.to (fun ds K => pop (.int .i64) ds fun x0 ds => pop (.int .i64) ds fun x1 ds => popN ds ((cmp_Compare_int_.f k x0 x1).bind fun r => K (cmp_Compare_int_.rs r))) env0)
def code_Kraft_2.tbl : List (Nat × Tm × (Nat → List Dat → Option (Int))) := []
noncomputable abbrev code_Kraft_2.R (k : Nat) := run T (code_Kraft_2.env k) Try.f132.ntmps (cutE 0 code_Kraft_2.tbl k) (finE 0 code_Kraft_2.to code_Kraft_2.out) (fnRes Try.f132) [] 100000 true
theorem code_Kraft_2.e (k : Nat) (x0 : Int) (x1 : Int) (x2 : (List Int)) : code_Kraft_2.f k x0 x1 x2 = code_Kraft_2.R k ([.code code_Kraft_2.body]) (code_Kraft_2.ti.fill [⟨(.int .i64), x0⟩, ⟨(.int .i64), x1⟩, ⟨(.slice (.int .i64)), x2⟩]) := by kernel_rfl
theorem code_Kraft_2.h (k : Nat) (ds : List Dat) (r : Int) (h : code_Kraft_2.g k ds = some r) : ∃ k', k' < k ∧ code_Kraft_2.R k' ([.code code_Kraft_2.body]) (code_Kraft_2.ti.fill ds) = some r := by
  cases k with
  | zero => cases (show none = some r from h)
  | succ k =>
  replace h : code_Kraft_2.c k ds = some r := h
  unfold code_Kraft_2.c at h
  obtain ⟨x0, d0, rfl, h0⟩ := pop_some h
  obtain ⟨x1, d1, rfl, h1⟩ := pop_some h0
  obtain ⟨x2, d2, rfl, h2⟩ := pop_some h1
  obtain ⟨rfl, g⟩ := popN_some h2
  exact ⟨k, Nat.lt_succ_self k, (code_Kraft_2.e k x0 x1 x2).symm.trans g⟩
theorem code_Kraft_2.o (ds : List Dat) (r : Int) (h : code_Kraft_2.out ds = some r) : ds = code_Kraft_2.rs r := by
  unfold code_Kraft_2.out at h
  obtain ⟨x0, d0, rfl, h0⟩ := pop_some h
  obtain ⟨rfl, g⟩ := popN_some h0
  cases g
  rfl
theorem code_Kraft_2.fn : FnOk Try.prog 132 Try.f132 code_Kraft_2.body Try.f132.ntmps 3 (fnRes Try.f132) :=
  fnOk_of (by kernel_rfl) (by kernel_rfl) (by kernel_rfl) (by kernel_rfl)
theorem code_Kraft_2.con' : ∀ k ds r, code_Kraft_2.g k ds = some r → Con Try.prog 132 3 code_Kraft_2.ti code_Kraft_2.to ds (code_Kraft_2.rs r) :=
  fun_ok (T := T) T_ok mixed code_Kraft_2.fn (env := code_Kraft_2.env) (tbl := code_Kraft_2.tbl) (gOut := code_Kraft_2.out) (nin := 0) (cuts := []) (fuel := 100000) rfl (by kernel_rfl) (by kernel_rfl) (by kernel_rfl) (fun x hx => by simp [code_Kraft_2.tbl] at hx) code_Kraft_2.o code_Kraft_2.h (fun k _ => by unfold code_Kraft_2.env; exact (envC_ok (fun ds K r h => by
    obtain ⟨x0, d0, rfl, h0⟩ := pop_some h
    obtain ⟨x1, d1, rfl, h1⟩ := pop_some h0
    obtain ⟨rfl, g⟩ := popN_some h1
    obtain ⟨r1, h1, h2⟩ := bind_some g
    exact ⟨_, h2, cmp_Compare_int_.con k _ h1⟩) env0_ok))
theorem code_Kraft_2.con (k : Nat) {x0 : Int} {x1 : Int} {x2 : (List Int)} (r : Int) (h : code_Kraft_2.f k x0 x1 x2 = some r) : Con Try.prog 132 3 code_Kraft_2.ti code_Kraft_2.to [⟨(.int .i64), x0⟩, ⟨(.int .i64), x1⟩, ⟨(.slice (.int .i64)), x2⟩] (code_Kraft_2.rs r) :=
  code_Kraft_2.con' (k + 1) _ r (by show code_Kraft_2.c k _ = some r; unfold code_Kraft_2.c; simp only [pop_self, popN]; exact h)
mutual
def slices_insertionSortCmpFunc_int_.l1 : Nat → Int → Int → List (Int) → Int → List (Int) → Option (List Int)
 | 0, _, _, _, _, _ => none
 | k + 1, a1, b2, cmp3_0_0, i8, data0 =>
  if i8 < b2 then
   slices_insertionSortCmpFunc_int_.l4 k a1 b2 cmp3_0_0 i8 i8 data0
  else
   some (data0)
def slices_insertionSortCmpFunc_int_.l4 : Nat → Int → Int → List (Int) → Int → Int → List (Int) → Option (List Int)
 | 0, _, _, _, _, _, _ => none
 | k + 1, a1, b2, cmp3_0_0, i8, j9, data0 =>
  if a1 < j9 then
   if 0 ≤ j9 then
   if j9 < (↑data0.length : Int) then
    if 0 ≤ Go.IntKind.i64.wrap (j9 - 1) then
     if Go.IntKind.i64.wrap (j9 - 1) < (↑data0.length : Int) then
      (code_Kraft_2.f k (data0.getD j9.toNat (Int.ofNat 0)) (data0.getD (Go.IntKind.i64.wrap (j9 - 1)).toNat (Int.ofNat 0)) cmp3_0_0).bind fun r_7 =>
        if r_7 < 0 then
         if 0 ≤ Go.IntKind.i64.wrap (j9 - 1) then
         if Go.IntKind.i64.wrap (j9 - 1) < (↑data0.length : Int) then
          if 0 ≤ j9 then
           if j9 < (↑data0.length : Int) then
            if 0 ≤ j9 then
             if j9 < (↑data0.length : Int) then
              if 0 ≤ Go.IntKind.i64.wrap (j9 - 1) then
               if Go.IntKind.i64.wrap (j9 - 1) < (↑(data0.set j9.toNat (data0.getD (Go.IntKind.i64.wrap (j9 - 1)).toNat (Int.ofNat 0))).length : Int) then
                slices_insertionSortCmpFunc_int_.l4 k a1 b2 cmp3_0_0 i8 (Go.IntKind.i64.wrap (j9 - 1)) ((data0.set j9.toNat (data0.getD (Go.IntKind.i64.wrap (j9 - 1)).toNat (Int.ofNat 0))).set (Go.IntKind.i64.wrap (j9 - 1)).toNat (data0.getD j9.toNat (Int.ofNat 0)))
                else none
               else none
              else none
             else none
            else none
           else none
          else none
         else none
        else
         slices_insertionSortCmpFunc_int_.l1 k a1 b2 cmp3_0_0 (Go.IntKind.i64.wrap (i8 + 1)) data0
      else none
     else none
    else none
   else none
  else
   slices_insertionSortCmpFunc_int_.l1 k a1 b2 cmp3_0_0 (Go.IntKind.i64.wrap (i8 + 1)) data0
end
def slices_insertionSortCmpFunc_int_.f (k : Nat) (a1 : Int) (b2 : Int) (cmp3_0_0 : List (Int)) (data0 : List (Int)) : Option (List Int) :=
 slices_insertionSortCmpFunc_int_.l1 k a1 b2 cmp3_0_0 (Go.IntKind.i64.wrap (a1 + 1)) data0

noncomputable def slices_insertionSortCmpFunc_int_.body : Code := fnBody Try.f204
def slices_insertionSortCmpFunc_int_.ti : Tm := ⟨[(0, .own 0), (1, .p (.int .i64)), (2, .p (.int .i64)), (3, .fn 132 [.rs [.p (.slice (.int .i64))] 0])], [.own (.int .i64)]⟩
def slices_insertionSortCmpFunc_int_.to : Tm := ⟨[], [.own (.int .i64)]⟩
def slices_insertionSortCmpFunc_int_.rs (r : (List Int)) : List Dat := [⟨(.slice (.int .i64)), r⟩]
def slices_insertionSortCmpFunc_int_.out (ds : List Dat) : Option ((List Int)) := pop (.slice (.int .i64)) ds fun x0 ds => popN ds (some (x0))
def slices_insertionSortCmpFunc_int_.c (k : Nat) (ds : List Dat) : Option ((List Int)) := pop (.int .i64) ds fun x0 ds => pop (.int .i64) ds fun x1 ds => pop (.slice (.int .i64)) ds fun x2 ds => pop (.slice (.int .i64)) ds fun x3 ds => popN ds (slices_insertionSortCmpFunc_int_.f k x0 x1 x2 x3)
def slices_insertionSortCmpFunc_int_.g : Nat → List Dat → Option ((List Int))
 | 0, _ => none
 | k + 1, ds => slices_insertionSortCmpFunc_int_.c k ds
def slices_insertionSortCmpFunc_int_.env (k : Nat) : Nat → List SV → List Chunk → KT ((List Int)) → Option ((List Int)) := (envC 132 3 code_Kraft_2.ti code_Kraft_2.to (fun ds K => pop (.int .i64) ds fun x0 ds => pop (.int .i64) ds fun x1 ds => pop (.slice (.int .i64)) ds fun x2 ds => popN ds ((code_Kraft_2.f k x0 x1 x2).bind fun r => K (code_Kraft_2.rs r))) env0)
def slices_insertionSortCmpFunc_int_.t3 : Tm := ⟨[(0, .own 0), (1, .p (.int .i64)), (2, .p (.int .i64)), (3, .fn 132 [.rs [.p (.slice (.int .i64))] 0]), (8, .p (.int .i64))], [.own (.int .i64)]⟩
def slices_insertionSortCmpFunc_int_.c3 (k : Nat) (ds : List Dat) : Option ((List Int)) := pop (.int .i64) ds fun x0 ds => pop (.int .i64) ds fun x1 ds => pop (.slice (.int .i64)) ds fun x2 ds => pop (.int .i64) ds fun x3 ds => pop (.slice (.int .i64)) ds fun x4 ds => popN ds (slices_insertionSortCmpFunc_int_.l1 k x0 x1 x2 x3 x4)
def slices_insertionSortCmpFunc_int_.t9 : Tm := ⟨[(0, .own 0), (1, .p (.int .i64)), (2, .p (.int .i64)), (3, .fn 132 [.rs [.p (.slice (.int .i64))] 0]), (8, .p (.int .i64)), (9, .p (.int .i64))], [.own (.int .i64)]⟩
def slices_insertionSortCmpFunc_int_.c9 (k : Nat) (ds : List Dat) : Option ((List Int)) := pop (.int .i64) ds fun x0 ds => pop (.int .i64) ds fun x1 ds => pop (.slice (.int .i64)) ds fun x2 ds => pop (.int .i64) ds fun x3 ds => pop (.int .i64) ds fun x4 ds => pop (.slice (.int .i64)) ds fun x5 ds => popN ds (slices_insertionSortCmpFunc_int_.l4 k x0 x1 x2 x3 x4 x5)
def slices_insertionSortCmpFunc_int_.tbl : List (Nat × Tm × (Nat → List Dat → Option ((List Int)))) := [(3, slices_insertionSortCmpFunc_int_.t3, slices_insertionSortCmpFunc_int_.c3), (9, slices_insertionSortCmpFunc_int_.t9, slices_insertionSortCmpFunc_int_.c9)]
noncomputable abbrev slices_insertionSortCmpFunc_int_.R (k : Nat) := run T (slices_insertionSortCmpFunc_int_.env k) Try.f204.ntmps (cutE 1 slices_insertionSortCmpFunc_int_.tbl k) (finE 1 slices_insertionSortCmpFunc_int_.to slices_insertionSortCmpFunc_int_.out) (fnRes Try.f204) [] 100000 true
theorem slices_insertionSortCmpFunc_int_.e3 (k : Nat) (x0 : Int) (x1 : Int) (x2 : (List Int)) (x3 : Int) (x4 : (List Int)) : slices_insertionSortCmpFunc_int_.l1 (k + 1) x0 x1 x2 x3 x4 = slices_insertionSortCmpFunc_int_.R k (start (stackOf 3 slices_insertionSortCmpFunc_int_.body)) (slices_insertionSortCmpFunc_int_.t3.fill [⟨(.int .i64), x0⟩, ⟨(.int .i64), x1⟩, ⟨(.slice (.int .i64)), x2⟩, ⟨(.int .i64), x3⟩, ⟨(.slice (.int .i64)), x4⟩]) := by kernel_rfl
theorem slices_insertionSortCmpFunc_int_.s3 : stackAt 3 slices_insertionSortCmpFunc_int_.body [] = some (stackOf 3 slices_insertionSortCmpFunc_int_.body) := by kernel_rfl
theorem slices_insertionSortCmpFunc_int_.h3 (k : Nat) (ds : List Dat) (r : (List Int)) (h : slices_insertionSortCmpFunc_int_.c3 k ds = some r) : ∃ k', k' < k ∧ ∃ s, stackAt 3 slices_insertionSortCmpFunc_int_.body [] = some s ∧ slices_insertionSortCmpFunc_int_.R k' (start s) (slices_insertionSortCmpFunc_int_.t3.fill ds) = some r := by
  unfold slices_insertionSortCmpFunc_int_.c3 at h
  obtain ⟨x0, d0, rfl, h0⟩ := pop_some h
  obtain ⟨x1, d1, rfl, h1⟩ := pop_some h0
  obtain ⟨x2, d2, rfl, h2⟩ := pop_some h1
  obtain ⟨x3, d3, rfl, h3⟩ := pop_some h2
  obtain ⟨x4, d4, rfl, h4⟩ := pop_some h3
  obtain ⟨rfl, g⟩ := popN_some h4
  cases k with
  | zero => cases (show none = some r from g)
  | succ k => exact ⟨k, Nat.lt_succ_self k, _, slices_insertionSortCmpFunc_int_.s3, (slices_insertionSortCmpFunc_int_.e3 k x0 x1 x2 x3 x4).symm.trans g⟩
theorem slices_insertionSortCmpFunc_int_.e9 (k : Nat) (x0 : Int) (x1 : Int) (x2 : (List Int)) (x3 : Int) (x4 : Int) (x5 : (List Int)) : slices_insertionSortCmpFunc_int_.l4 (k + 1) x0 x1 x2 x3 x4 x5 = slices_insertionSortCmpFunc_int_.R k (start (stackOf 9 slices_insertionSortCmpFunc_int_.body)) (slices_insertionSortCmpFunc_int_.t9.fill [⟨(.int .i64), x0⟩, ⟨(.int .i64), x1⟩, ⟨(.slice (.int .i64)), x2⟩, ⟨(.int .i64), x3⟩, ⟨(.int .i64), x4⟩, ⟨(.slice (.int .i64)), x5⟩]) := by kernel_rfl
theorem slices_insertionSortCmpFunc_int_.s9 : stackAt 9 slices_insertionSortCmpFunc_int_.body [] = some (stackOf 9 slices_insertionSortCmpFunc_int_.body) := by kernel_rfl
theorem slices_insertionSortCmpFunc_int_.h9 (k : Nat) (ds : List Dat) (r : (List Int)) (h : slices_insertionSortCmpFunc_int_.c9 k ds = some r) : ∃ k', k' < k ∧ ∃ s, stackAt 9 slices_insertionSortCmpFunc_int_.body [] = some s ∧ slices_insertionSortCmpFunc_int_.R k' (start s) (slices_insertionSortCmpFunc_int_.t9.fill ds) = some r := by
  unfold slices_insertionSortCmpFunc_int_.c9 at h
  obtain ⟨x0, d0, rfl, h0⟩ := pop_some h
  obtain ⟨x1, d1, rfl, h1⟩ := pop_some h0
  obtain ⟨x2, d2, rfl, h2⟩ := pop_some h1
  obtain ⟨x3, d3, rfl, h3⟩ := pop_some h2
  obtain ⟨x4, d4, rfl, h4⟩ := pop_some h3
  obtain ⟨x5, d5, rfl, h5⟩ := pop_some h4
  obtain ⟨rfl, g⟩ := popN_some h5
  cases k with
  | zero => cases (show none = some r from g)
  | succ k => exact ⟨k, Nat.lt_succ_self k, _, slices_insertionSortCmpFunc_int_.s9, (slices_insertionSortCmpFunc_int_.e9 k x0 x1 x2 x3 x4 x5).symm.trans g⟩
theorem slices_insertionSortCmpFunc_int_.e (k : Nat) (x0 : Int) (x1 : Int) (x2 : (List Int)) (x3 : (List Int)) : slices_insertionSortCmpFunc_int_.f k x0 x1 x2 x3 = slices_insertionSortCmpFunc_int_.R k ([.code slices_insertionSortCmpFunc_int_.body]) (slices_insertionSortCmpFunc_int_.ti.fill [⟨(.int .i64), x0⟩, ⟨(.int .i64), x1⟩, ⟨(.slice (.int .i64)), x2⟩, ⟨(.slice (.int .i64)), x3⟩]) := by kernel_rfl
theorem slices_insertionSortCmpFunc_int_.h (k : Nat) (ds : List Dat) (r : (List Int)) (h : slices_insertionSortCmpFunc_int_.g k ds = some r) : ∃ k', k' < k ∧ slices_insertionSortCmpFunc_int_.R k' ([.code slices_insertionSortCmpFunc_int_.body]) (slices_insertionSortCmpFunc_int_.ti.fill ds) = some r := by
  cases k with
  | zero => cases (show none = some r from h)
  | succ k =>
  replace h : slices_insertionSortCmpFunc_int_.c k ds = some r := h
  unfold slices_insertionSortCmpFunc_int_.c at h
  obtain ⟨x0, d0, rfl, h0⟩ := pop_some h
  obtain ⟨x1, d1, rfl, h1⟩ := pop_some h0
  obtain ⟨x2, d2, rfl, h2⟩ := pop_some h1
  obtain ⟨x3, d3, rfl, h3⟩ := pop_some h2
  obtain ⟨rfl, g⟩ := popN_some h3
  exact ⟨k, Nat.lt_succ_self k, (slices_insertionSortCmpFunc_int_.e k x0 x1 x2 x3).symm.trans g⟩
theorem slices_insertionSortCmpFunc_int_.o (ds : List Dat) (r : (List Int)) (h : slices_insertionSortCmpFunc_int_.out ds = some r) : ds = slices_insertionSortCmpFunc_int_.rs r := by
  unfold slices_insertionSortCmpFunc_int_.out at h
  obtain ⟨x0, d0, rfl, h0⟩ := pop_some h
  obtain ⟨rfl, g⟩ := popN_some h0
  cases g
  rfl
theorem slices_insertionSortCmpFunc_int_.fn : FnOk Try.prog 204 Try.f204 slices_insertionSortCmpFunc_int_.body Try.f204.ntmps 4 (fnRes Try.f204) :=
  fnOk_of (by kernel_rfl) (by kernel_rfl) (by kernel_rfl) (by kernel_rfl)
theorem slices_insertionSortCmpFunc_int_.con' : ∀ k ds r, slices_insertionSortCmpFunc_int_.g k ds = some r → Con Try.prog 204 4 slices_insertionSortCmpFunc_int_.ti slices_insertionSortCmpFunc_int_.to ds (slices_insertionSortCmpFunc_int_.rs r) :=
  fun_ok (T := T) T_ok mixed slices_insertionSortCmpFunc_int_.fn (env := slices_insertionSortCmpFunc_int_.env) (tbl := slices_insertionSortCmpFunc_int_.tbl) (gOut := slices_insertionSortCmpFunc_int_.out) (nin := 1) (cuts := []) (fuel := 100000) rfl (by kernel_rfl) (by kernel_rfl) (by kernel_rfl) (fun x hx => by
    simp only [slices_insertionSortCmpFunc_int_.tbl, List.mem_cons, List.not_mem_nil, or_false] at hx
    rcases hx with rfl | rfl
    · exact slices_insertionSortCmpFunc_int_.h3
    · exact slices_insertionSortCmpFunc_int_.h9
) slices_insertionSortCmpFunc_int_.o slices_insertionSortCmpFunc_int_.h (fun k _ => by unfold slices_insertionSortCmpFunc_int_.env; exact (envC_ok (fun ds K r h => by
    obtain ⟨x0, d0, rfl, h0⟩ := pop_some h
    obtain ⟨x1, d1, rfl, h1⟩ := pop_some h0
    obtain ⟨x2, d2, rfl, h2⟩ := pop_some h1
    obtain ⟨rfl, g⟩ := popN_some h2
    obtain ⟨r1, h1, h2⟩ := bind_some g
    exact ⟨_, h2, code_Kraft_2.con k _ h1⟩) env0_ok))
theorem slices_insertionSortCmpFunc_int_.con (k : Nat) {x0 : Int} {x1 : Int} {x2 : (List Int)} {x3 : (List Int)} (r : (List Int)) (h : slices_insertionSortCmpFunc_int_.f k x0 x1 x2 x3 = some r) : Con Try.prog 204 4 slices_insertionSortCmpFunc_int_.ti slices_insertionSortCmpFunc_int_.to [⟨(.int .i64), x0⟩, ⟨(.int .i64), x1⟩, ⟨(.slice (.int .i64)), x2⟩, ⟨(.slice (.int .i64)), x3⟩] (slices_insertionSortCmpFunc_int_.rs r) :=
  slices_insertionSortCmpFunc_int_.con' (k + 1) _ r (by show slices_insertionSortCmpFunc_int_.c k _ = some r; unfold slices_insertionSortCmpFunc_int_.c; simp only [pop_self, popN]; exact h)
mutual
def slices_swapRangeCmpFunc_int_.l1 : Nat → Int → Int → Int → Int → List (Int) → Option (List Int)
 | 0, _, _, _, _, _ => none
 | k + 1, a1, b2, n3, i10, data0 =>
  if i10 < n3 then
   if 0 ≤ Go.IntKind.i64.wrap (b2 + i10) then
   if Go.IntKind.i64.wrap (b2 + i10) < (↑data0.length : Int) then
    if 0 ≤ Go.IntKind.i64.wrap (a1 + i10) then
     if Go.IntKind.i64.wrap (a1 + i10) < (↑data0.length : Int) then
      if 0 ≤ Go.IntKind.i64.wrap (a1 + i10) then
       if Go.IntKind.i64.wrap (a1 + i10) < (↑data0.length : Int) then
        if 0 ≤ Go.IntKind.i64.wrap (b2 + i10) then
         if Go.IntKind.i64.wrap (b2 + i10) < (↑(data0.set (Go.IntKind.i64.wrap (a1 + i10)).toNat (data0.getD (Go.IntKind.i64.wrap (b2 + i10)).toNat (Int.ofNat 0))).length : Int) then
          slices_swapRangeCmpFunc_int_.l1 k a1 b2 n3 (Go.IntKind.i64.wrap (i10 + 1)) ((data0.set (Go.IntKind.i64.wrap (a1 + i10)).toNat (data0.getD (Go.IntKind.i64.wrap (b2 + i10)).toNat (Int.ofNat 0))).set (Go.IntKind.i64.wrap (b2 + i10)).toNat (data0.getD (Go.IntKind.i64.wrap (a1 + i10)).toNat (Int.ofNat 0)))
          else none
         else none
        else none
       else none
      else none
     else none
    else none
   else none
  else
   some (data0)
end
def slices_swapRangeCmpFunc_int_.f (k : Nat) (a1 : Int) (b2 : Int) (n3 : Int) (cmp4_0_0 : List (Int)) (data0 : List (Int)) : Option (List Int) :=
 slices_swapRangeCmpFunc_int_.l1 k a1 b2 n3 0 data0

noncomputable def slices_swapRangeCmpFunc_int_.body : Code := fnBody Try.f209
def slices_swapRangeCmpFunc_int_.ti : Tm := ⟨[(0, .own 0), (1, .p (.int .i64)), (2, .p (.int .i64)), (3, .p (.int .i64)), (4, .fn 132 [.rs [.p (.slice (.int .i64))] 0])], [.own (.int .i64)]⟩
def slices_swapRangeCmpFunc_int_.to : Tm := ⟨[], [.own (.int .i64)]⟩
def slices_swapRangeCmpFunc_int_.rs (r : (List Int)) : List Dat := [⟨(.slice (.int .i64)), r⟩]
def slices_swapRangeCmpFunc_int_.out (ds : List Dat) : Option ((List Int)) := pop (.slice (.int .i64)) ds fun x0 ds => popN ds (some (x0))
def slices_swapRangeCmpFunc_int_.c (k : Nat) (ds : List Dat) : Option ((List Int)) := pop (.int .i64) ds fun x0 ds => pop (.int .i64) ds fun x1 ds => pop (.int .i64) ds fun x2 ds => pop (.slice (.int .i64)) ds fun x3 ds => pop (.slice (.int .i64)) ds fun x4 ds => popN ds (slices_swapRangeCmpFunc_int_.f k x0 x1 x2 x3 x4)
def slices_swapRangeCmpFunc_int_.g : Nat → List Dat → Option ((List Int))
 | 0, _ => none
 | k + 1, ds => slices_swapRangeCmpFunc_int_.c k ds
def slices_swapRangeCmpFunc_int_.env (k : Nat) : Nat → List SV → List Chunk → KT ((List Int)) → Option ((List Int)) := env0
def slices_swapRangeCmpFunc_int_.t3 : Tm := ⟨[(0, .own 0), (1, .p (.int .i64)), (2, .p (.int .i64)), (3, .p (.int .i64)), (10, .p (.int .i64))], [.own (.int .i64)]⟩
def slices_swapRangeCmpFunc_int_.c3 (k : Nat) (ds : List Dat) : Option ((List Int)) := pop (.int .i64) ds fun x0 ds => pop (.int .i64) ds fun x1 ds => pop (.int .i64) ds fun x2 ds => pop (.int .i64) ds fun x3 ds => pop (.slice (.int .i64)) ds fun x4 ds => popN ds (slices_swapRangeCmpFunc_int_.l1 k x0 x1 x2 x3 x4)
def slices_swapRangeCmpFunc_int_.tbl : List (Nat × Tm × (Nat → List Dat → Option ((List Int)))) := [(3, slices_swapRangeCmpFunc_int_.t3, slices_swapRangeCmpFunc_int_.c3)]
noncomputable abbrev slices_swapRangeCmpFunc_int_.R (k : Nat) := run T (slices_swapRangeCmpFunc_int_.env k) Try.f209.ntmps (cutE 1 slices_swapRangeCmpFunc_int_.tbl k) (finE 1 slices_swapRangeCmpFunc_int_.to slices_swapRangeCmpFunc_int_.out) (fnRes Try.f209) [] 100000 true
theorem slices_swapRangeCmpFunc_int_.e3 (k : Nat) (x0 : Int) (x1 : Int) (x2 : Int) (x3 : Int) (x4 : (List Int)) : slices_swapRangeCmpFunc_int_.l1 (k + 1) x0 x1 x2 x3 x4 = slices_swapRangeCmpFunc_int_.R k (start (stackOf 3 slices_swapRangeCmpFunc_int_.body)) (slices_swapRangeCmpFunc_int_.t3.fill [⟨(.int .i64), x0⟩, ⟨(.int .i64), x1⟩, ⟨(.int .i64), x2⟩, ⟨(.int .i64), x3⟩, ⟨(.slice (.int .i64)), x4⟩]) := by kernel_rfl
theorem slices_swapRangeCmpFunc_int_.s3 : stackAt 3 slices_swapRangeCmpFunc_int_.body [] = some (stackOf 3 slices_swapRangeCmpFunc_int_.body) := by kernel_rfl
theorem slices_swapRangeCmpFunc_int_.h3 (k : Nat) (ds : List Dat) (r : (List Int)) (h : slices_swapRangeCmpFunc_int_.c3 k ds = some r) : ∃ k', k' < k ∧ ∃ s, stackAt 3 slices_swapRangeCmpFunc_int_.body [] = some s ∧ slices_swapRangeCmpFunc_int_.R k' (start s) (slices_swapRangeCmpFunc_int_.t3.fill ds) = some r := by
  unfold slices_swapRangeCmpFunc_int_.c3 at h
  obtain ⟨x0, d0, rfl, h0⟩ := pop_some h
  obtain ⟨x1, d1, rfl, h1⟩ := pop_some h0
  obtain ⟨x2, d2, rfl, h2⟩ := pop_some h1
  obtain ⟨x3, d3, rfl, h3⟩ := pop_some h2
  obtain ⟨x4, d4, rfl, h4⟩ := pop_some h3
  obtain ⟨rfl, g⟩ := popN_some h4
  cases k with
  | zero => cases (show none = some r from g)
  | succ k => exact ⟨k, Nat.lt_succ_self k, _, slices_swapRangeCmpFunc_int_.s3, (slices_swapRangeCmpFunc_int_.e3 k x0 x1 x2 x3 x4).symm.trans g⟩
theorem slices_swapRangeCmpFunc_int_.e (k : Nat) (x0 : Int) (x1 : Int) (x2 : Int) (x3 : (List Int)) (x4 : (List Int)) : slices_swapRangeCmpFunc_int_.f k x0 x1 x2 x3 x4 = slices_swapRangeCmpFunc_int_.R k ([.code slices_swapRangeCmpFunc_int_.body]) (slices_swapRangeCmpFunc_int_.ti.fill [⟨(.int .i64), x0⟩, ⟨(.int .i64), x1⟩, ⟨(.int .i64), x2⟩, ⟨(.slice (.int .i64)), x3⟩, ⟨(.slice (.int .i64)), x4⟩]) := by kernel_rfl
theorem slices_swapRangeCmpFunc_int_.h (k : Nat) (ds : List Dat) (r : (List Int)) (h : slices_swapRangeCmpFunc_int_.g k ds = some r) : ∃ k', k' < k ∧ slices_swapRangeCmpFunc_int_.R k' ([.code slices_swapRangeCmpFunc_int_.body]) (slices_swapRangeCmpFunc_int_.ti.fill ds) = some r := by
  cases k with
  | zero => cases (show none = some r from h)
  | succ k =>
  replace h : slices_swapRangeCmpFunc_int_.c k ds = some r := h
  unfold slices_swapRangeCmpFunc_int_.c at h
  obtain ⟨x0, d0, rfl, h0⟩ := pop_some h
  obtain ⟨x1, d1, rfl, h1⟩ := pop_some h0
  obtain ⟨x2, d2, rfl, h2⟩ := pop_some h1
  obtain ⟨x3, d3, rfl, h3⟩ := pop_some h2
  obtain ⟨x4, d4, rfl, h4⟩ := pop_some h3
  obtain ⟨rfl, g⟩ := popN_some h4
  exact ⟨k, Nat.lt_succ_self k, (slices_swapRangeCmpFunc_int_.e k x0 x1 x2 x3 x4).symm.trans g⟩
theorem slices_swapRangeCmpFunc_int_.o (ds : List Dat) (r : (List Int)) (h : slices_swapRangeCmpFunc_int_.out ds = some r) : ds = slices_swapRangeCmpFunc_int_.rs r := by
  unfold slices_swapRangeCmpFunc_int_.out at h
  obtain ⟨x0, d0, rfl, h0⟩ := pop_some h
  obtain ⟨rfl, g⟩ := popN_some h0
  cases g
  rfl
theorem slices_swapRangeCmpFunc_int_.fn : FnOk Try.prog 209 Try.f209 slices_swapRangeCmpFunc_int_.body Try.f209.ntmps 5 (fnRes Try.f209) :=
  fnOk_of (by kernel_rfl) (by kernel_rfl) (by kernel_rfl) (by kernel_rfl)
theorem slices_swapRangeCmpFunc_int_.con' : ∀ k ds r, slices_swapRangeCmpFunc_int_.g k ds = some r → Con Try.prog 209 5 slices_swapRangeCmpFunc_int_.ti slices_swapRangeCmpFunc_int_.to ds (slices_swapRangeCmpFunc_int_.rs r) :=
  fun_ok (T := T) T_ok mixed slices_swapRangeCmpFunc_int_.fn (env := slices_swapRangeCmpFunc_int_.env) (tbl := slices_swapRangeCmpFunc_int_.tbl) (gOut := slices_swapRangeCmpFunc_int_.out) (nin := 1) (cuts := []) (fuel := 100000) rfl (by kernel_rfl) (by kernel_rfl) (by kernel_rfl) (fun x hx => by
    simp only [slices_swapRangeCmpFunc_int_.tbl, List.mem_cons, List.not_mem_nil, or_false] at hx
    subst hx
    · exact slices_swapRangeCmpFunc_int_.h3
) slices_swapRangeCmpFunc_int_.o slices_swapRangeCmpFunc_int_.h (fun k _ => by unfold slices_swapRangeCmpFunc_int_.env; exact env0_ok)
theorem slices_swapRangeCmpFunc_int_.con (k : Nat) {x0 : Int} {x1 : Int} {x2 : Int} {x3 : (List Int)} {x4 : (List Int)} (r : (List Int)) (h : slices_swapRangeCmpFunc_int_.f k x0 x1 x2 x3 x4 = some r) : Con Try.prog 209 5 slices_swapRangeCmpFunc_int_.ti slices_swapRangeCmpFunc_int_.to [⟨(.int .i64), x0⟩, ⟨(.int .i64), x1⟩, ⟨(.int .i64), x2⟩, ⟨(.slice (.int .i64)), x3⟩, ⟨(.slice (.int .i64)), x4⟩] (slices_swapRangeCmpFunc_int_.rs r) :=
  slices_swapRangeCmpFunc_int_.con' (k + 1) _ r (by show slices_swapRangeCmpFunc_int_.c k _ = some r; unfold slices_swapRangeCmpFunc_int_.c; simp only [pop_self, popN]; exact h)
mutual
def slices_rotateCmpFunc_int_.l2 : Nat → Int → List (Int) → Int → Int → List (Int) → Option (List Int)
 | 0, _, _, _, _, _ => none
 | k + 1, m2, cmp4_0_0, i10, j11, data0 =>
  if i10 = j11 then
   (slices_swapRangeCmpFunc_int_.f k (Go.IntKind.i64.wrap (m2 - i10)) m2 i10 cmp4_0_0 data0).bind fun r_3 =>
    some (r_3)
  else
   if j11 < i10 then
    (slices_swapRangeCmpFunc_int_.f k (Go.IntKind.i64.wrap (m2 - i10)) m2 j11 cmp4_0_0 data0).bind fun r_4 =>
     slices_rotateCmpFunc_int_.l2 k m2 cmp4_0_0 (Go.IntKind.i64.wrap (i10 - j11)) j11 r_4
   else
    (slices_swapRangeCmpFunc_int_.f k (Go.IntKind.i64.wrap (m2 - i10)) (Go.IntKind.i64.wrap (Go.IntKind.i64.wrap (m2 + j11) - i10)) i10 cmp4_0_0 data0).bind fun r_4 =>
     slices_rotateCmpFunc_int_.l2 k m2 cmp4_0_0 i10 (Go.IntKind.i64.wrap (j11 - i10)) r_4
end
def slices_rotateCmpFunc_int_.f (k : Nat) (a1 : Int) (m2 : Int) (b3 : Int) (cmp4_0_0 : List (Int)) (data0 : List (Int)) : Option (List Int) :=
 slices_rotateCmpFunc_int_.l2 k m2 cmp4_0_0 (Go.IntKind.i64.wrap (m2 - a1)) (Go.IntKind.i64.wrap (b3 - m2)) data0

noncomputable def slices_rotateCmpFunc_int_.body : Code := fnBody Try.f207
def slices_rotateCmpFunc_int_.ti : Tm := ⟨[(0, .own 0), (1, .p (.int .i64)), (2, .p (.int .i64)), (3, .p (.int .i64)), (4, .fn 132 [.rs [.p (.slice (.int .i64))] 0])], [.own (.int .i64)]⟩
def slices_rotateCmpFunc_int_.to : Tm := ⟨[], [.own (.int .i64)]⟩
def slices_rotateCmpFunc_int_.rs (r : (List Int)) : List Dat := [⟨(.slice (.int .i64)), r⟩]
def slices_rotateCmpFunc_int_.out (ds : List Dat) : Option ((List Int)) := pop (.slice (.int .i64)) ds fun x0 ds => popN ds (some (x0))
def slices_rotateCmpFunc_int_.c (k : Nat) (ds : List Dat) : Option ((List Int)) := pop (.int .i64) ds fun x0 ds => pop (.int .i64) ds fun x1 ds => pop (.int .i64) ds fun x2 ds => pop (.slice (.int .i64)) ds fun x3 ds => pop (.slice (.int .i64)) ds fun x4 ds => popN ds (slices_rotateCmpFunc_int_.f k x0 x1 x2 x3 x4)
def slices_rotateCmpFunc_int_.g : Nat → List Dat → Option ((List Int))
 | 0, _ => none
 | k + 1, ds => slices_rotateCmpFunc_int_.c k ds
def slices_rotateCmpFunc_int_.env (k : Nat) : Nat → List SV → List Chunk → KT ((List Int)) → Option ((List Int)) := (envC 209 5 slices_swapRangeCmpFunc_int_.ti slices_swapRangeCmpFunc_int_.to (fun ds K => pop (.int .i64) ds fun x0 ds => pop (.int .i64) ds fun x1 ds => pop (.int .i64) ds fun x2 ds => pop (.slice (.int .i64)) ds fun x3 ds => pop (.slice (.int .i64)) ds fun x4 ds => popN ds ((slices_swapRangeCmpFunc_int_.f k x0 x1 x2 x3 x4).bind fun r => K (slices_swapRangeCmpFunc_int_.rs r))) env0)
def slices_rotateCmpFunc_int_.t5 : Tm := ⟨[(0, .own 0), (2, .p (.int .i64)), (4, .fn 132 [.rs [.p (.slice (.int .i64))] 0]), (10, .p (.int .i64)), (11, .p (.int .i64))], [.own (.int .i64)]⟩
def slices_rotateCmpFunc_int_.c5 (k : Nat) (ds : List Dat) : Option ((List Int)) := pop (.int .i64) ds fun x0 ds => pop (.slice (.int .i64)) ds fun x1 ds => pop (.int .i64) ds fun x2 ds => pop (.int .i64) ds fun x3 ds => pop (.slice (.int .i64)) ds fun x4 ds => popN ds (slices_rotateCmpFunc_int_.l2 k x0 x1 x2 x3 x4)
def slices_rotateCmpFunc_int_.tbl : List (Nat × Tm × (Nat → List Dat → Option ((List Int)))) := [(5, slices_rotateCmpFunc_int_.t5, slices_rotateCmpFunc_int_.c5)]
noncomputable abbrev slices_rotateCmpFunc_int_.R (k : Nat) := run T (slices_rotateCmpFunc_int_.env k) Try.f207.ntmps (cutE 1 slices_rotateCmpFunc_int_.tbl k) (finE 1 slices_rotateCmpFunc_int_.to slices_rotateCmpFunc_int_.out) (fnRes Try.f207) [] 100000 true
theorem slices_rotateCmpFunc_int_.e5 (k : Nat) (x0 : Int) (x1 : (List Int)) (x2 : Int) (x3 : Int) (x4 : (List Int)) : slices_rotateCmpFunc_int_.l2 (k + 1) x0 x1 x2 x3 x4 = slices_rotateCmpFunc_int_.R k (start (stackOf 5 slices_rotateCmpFunc_int_.body)) (slices_rotateCmpFunc_int_.t5.fill [⟨(.int .i64), x0⟩, ⟨(.slice (.int .i64)), x1⟩, ⟨(.int .i64), x2⟩, ⟨(.int .i64), x3⟩, ⟨(.slice (.int .i64)), x4⟩]) := by kernel_rfl
theorem slices_rotateCmpFunc_int_.s5 : stackAt 5 slices_rotateCmpFunc_int_.body [] = some (stackOf 5 slices_rotateCmpFunc_int_.body) := by kernel_rfl
theorem slices_rotateCmpFunc_int_.h5 (k : Nat) (ds : List Dat) (r : (List Int)) (h : slices_rotateCmpFunc_int_.c5 k ds = some r) : ∃ k', k' < k ∧ ∃ s, stackAt 5 slices_rotateCmpFunc_int_.body [] = some s ∧ slices_rotateCmpFunc_int_.R k' (start s) (slices_rotateCmpFunc_int_.t5.fill ds) = some r := by
  unfold slices_rotateCmpFunc_int_.c5 at h
  obtain ⟨x0, d0, rfl, h0⟩ := pop_some h
  obtain ⟨x1, d1, rfl, h1⟩ := pop_some h0
  obtain ⟨x2, d2, rfl, h2⟩ := pop_some h1
  obtain ⟨x3, d3, rfl, h3⟩ := pop_some h2
  obtain ⟨x4, d4, rfl, h4⟩ := pop_some h3
  obtain ⟨rfl, g⟩ := popN_some h4
  cases k with
  | zero => cases (show none = some r from g)
  | succ k => exact ⟨k, Nat.lt_succ_self k, _, slices_rotateCmpFunc_int_.s5, (slices_rotateCmpFunc_int_.e5 k x0 x1 x2 x3 x4).symm.trans g⟩
theorem slices_rotateCmpFunc_int_.e (k : Nat) (x0 : Int) (x1 : Int) (x2 : Int) (x3 : (List Int)) (x4 : (List Int)) : slices_rotateCmpFunc_int_.f k x0 x1 x2 x3 x4 = slices_rotateCmpFunc_int_.R k ([.code slices_rotateCmpFunc_int_.body]) (slices_rotateCmpFunc_int_.ti.fill [⟨(.int .i64), x0⟩, ⟨(.int .i64), x1⟩, ⟨(.int .i64), x2⟩, ⟨(.slice (.int .i64)), x3⟩, ⟨(.slice (.int .i64)), x4⟩]) := by kernel_rfl
theorem slices_rotateCmpFunc_int_.h (k : Nat) (ds : List Dat) (r : (List Int)) (h : slices_rotateCmpFunc_int_.g k ds = some r) : ∃ k', k' < k ∧ slices_rotateCmpFunc_int_.R k' ([.code slices_rotateCmpFunc_int_.body]) (slices_rotateCmpFunc_int_.ti.fill ds) = some r := by
  cases k with
  | zero => cases (show none = some r from h)
  | succ k =>
  replace h : slices_rotateCmpFunc_int_.c k ds = some r := h
  unfold slices_rotateCmpFunc_int_.c at h
  obtain ⟨x0, d0, rfl, h0⟩ := pop_some h
  obtain ⟨x1, d1, rfl, h1⟩ := pop_some h0
  obtain ⟨x2, d2, rfl, h2⟩ := pop_some h1
  obtain ⟨x3, d3, rfl, h3⟩ := pop_some h2
  obtain ⟨x4, d4, rfl, h4⟩ := pop_some h3
  obtain ⟨rfl, g⟩ := popN_some h4
  exact ⟨k, Nat.lt_succ_self k, (slices_rotateCmpFunc_int_.e k x0 x1 x2 x3 x4).symm.trans g⟩
theorem slices_rotateCmpFunc_int_.o (ds : List Dat) (r : (List Int)) (h : slices_rotateCmpFunc_int_.out ds = some r) : ds = slices_rotateCmpFunc_int_.rs r := by
  unfold slices_rotateCmpFunc_int_.out at h
  obtain ⟨x0, d0, rfl, h0⟩ := pop_some h
  obtain ⟨rfl, g⟩ := popN_some h0
  cases g
  rfl
theorem slices_rotateCmpFunc_int_.fn : FnOk Try.prog 207 Try.f207 slices_rotateCmpFunc_int_.body Try.f207.ntmps 5 (fnRes Try.f207) :=
  fnOk_of (by kernel_rfl) (by kernel_rfl) (by kernel_rfl) (by kernel_rfl)
theorem slices_rotateCmpFunc_int_.con' : ∀ k ds r, slices_rotateCmpFunc_int_.g k ds = some r → Con Try.prog 207 5 slices_rotateCmpFunc_int_.ti slices_rotateCmpFunc_int_.to ds (slices_rotateCmpFunc_int_.rs r) :=
  fun_ok (T := T) T_ok mixed slices_rotateCmpFunc_int_.fn (env := slices_rotateCmpFunc_int_.env) (tbl := slices_rotateCmpFunc_int_.tbl) (gOut := slices_rotateCmpFunc_int_.out) (nin := 1) (cuts := []) (fuel := 100000) rfl (by kernel_rfl) (by kernel_rfl) (by kernel_rfl) (fun x hx => by
    simp only [slices_rotateCmpFunc_int_.tbl, List.mem_cons, List.not_mem_nil, or_false] at hx
    subst hx
    · exact slices_rotateCmpFunc_int_.h5
) slices_rotateCmpFunc_int_.o slices_rotateCmpFunc_int_.h (fun k _ => by unfold slices_rotateCmpFunc_int_.env; exact (envC_ok (fun ds K r h => by
    obtain ⟨x0, d0, rfl, h0⟩ := pop_some h
    obtain ⟨x1, d1, rfl, h1⟩ := pop_some h0
    obtain ⟨x2, d2, rfl, h2⟩ := pop_some h1
    obtain ⟨x3, d3, rfl, h3⟩ := pop_some h2
    obtain ⟨x4, d4, rfl, h4⟩ := pop_some h3
    obtain ⟨rfl, g⟩ := popN_some h4
    obtain ⟨r1, h1, h2⟩ := bind_some g
    exact ⟨_, h2, slices_swapRangeCmpFunc_int_.con k _ h1⟩) env0_ok))
theorem slices_rotateCmpFunc_int_.con (k : Nat) {x0 : Int} {x1 : Int} {x2 : Int} {x3 : (List Int)} {x4 : (List Int)} (r : (List Int)) (h : slices_rotateCmpFunc_int_.f k x0 x1 x2 x3 x4 = some r) : Con Try.prog 207 5 slices_rotateCmpFunc_int_.ti slices_rotateCmpFunc_int_.to [⟨(.int .i64), x0⟩, ⟨(.int .i64), x1⟩, ⟨(.int .i64), x2⟩, ⟨(.slice (.int .i64)), x3⟩, ⟨(.slice (.int .i64)), x4⟩] (slices_rotateCmpFunc_int_.rs r) :=
  slices_rotateCmpFunc_int_.con' (k + 1) _ r (by show slices_rotateCmpFunc_int_.c k _ = some r; unfold slices_rotateCmpFunc_int_.c; simp only [pop_self, popN]; exact h)
mutual
def slices_symMergeCmpFunc_int_.l3 : Nat → Int → List (Int) → Int → Int → List (Int) → Option (List Int)
 | 0, _, _, _, _, _ => none
 | k + 1, a1, cmp4_0_0, i10, j11, data0 =>
  if i10 < j11 then
   if 0 ≤ 1 then
   if 0 ≤ Go.IntKind.i64.wrap ((Go.IntKind.u64.wrap (Go.IntKind.i64.wrap (i10 + j11))).fdiv (2 ^ min (Int.toNat 1) Go.IntKind.u64.bits)) then
    if Go.IntKind.i64.wrap ((Go.IntKind.u64.wrap (Go.IntKind.i64.wrap (i10 + j11))).fdiv (2 ^ min (Int.toNat 1) Go.IntKind.u64.bits)) < (↑data0.length : Int) then
     if 0 ≤ a1 then
      if a1 < (↑data0.length : Int) then
       (code_Kraft_2.f k (data0.getD (Go.IntKind.i64.wrap ((Go.IntKind.u64.wrap (Go.IntKind.i64.wrap (i10 + j11))).fdiv (2 ^ min (Int.toNat 1) Go.IntKind.u64.bits))).toNat (Int.ofNat 0)) (data0.getD a1.toNat (Int.ofNat 0)) cmp4_0_0).bind fun r_8 =>
         if r_8 < 0 then
          slices_symMergeCmpFunc_int_.l3 k a1 cmp4_0_0 (Go.IntKind.i64.wrap (Go.IntKind.i64.wrap ((Go.IntKind.u64.wrap (Go.IntKind.i64.wrap (i10 + j11))).fdiv (2 ^ min (Int.toNat 1) Go.IntKind.u64.bits)) + 1)) j11 data0
         else
          slices_symMergeCmpFunc_int_.l3 k a1 cmp4_0_0 i10 (Go.IntKind.i64.wrap ((Go.IntKind.u64.wrap (Go.IntKind.i64.wrap (i10 + j11))).fdiv (2 ^ min (Int.toNat 1) Go.IntKind.u64.bits))) data0
       else none
      else none
     else none
    else none
   else none
  else
   slices_symMergeCmpFunc_int_.l9 k i10 a1 data0
def slices_symMergeCmpFunc_int_.l15 : Nat → Int → List (Int) → Int → Int → List (Int) → Option (List Int)
 | 0, _, _, _, _, _ => none
 | k + 1, m2, cmp4_0_0, i14, j15, data0 =>
  if i14 < j15 then
   if 0 ≤ 1 then
   if 0 ≤ m2 then
    if m2 < (↑data0.length : Int) then
     if 0 ≤ Go.IntKind.i64.wrap ((Go.IntKind.u64.wrap (Go.IntKind.i64.wrap (i14 + j15))).fdiv (2 ^ min (Int.toNat 1) Go.IntKind.u64.bits)) then
      if Go.IntKind.i64.wrap ((Go.IntKind.u64.wrap (Go.IntKind.i64.wrap (i14 + j15))).fdiv (2 ^ min (Int.toNat 1) Go.IntKind.u64.bits)) < (↑data0.length : Int) then
       (code_Kraft_2.f k (data0.getD m2.toNat (Int.ofNat 0)) (data0.getD (Go.IntKind.i64.wrap ((Go.IntKind.u64.wrap (Go.IntKind.i64.wrap (i14 + j15))).fdiv (2 ^ min (Int.toNat 1) Go.IntKind.u64.bits))).toNat (Int.ofNat 0)) cmp4_0_0).bind fun r_8 =>
         if r_8 < 0 then
          slices_symMergeCmpFunc_int_.l15 k m2 cmp4_0_0 i14 (Go.IntKind.i64.wrap ((Go.IntKind.u64.wrap (Go.IntKind.i64.wrap (i14 + j15))).fdiv (2 ^ min (Int.toNat 1) Go.IntKind.u64.bits))) data0
         else
          slices_symMergeCmpFunc_int_.l15 k m2 cmp4_0_0 (Go.IntKind.i64.wrap (Go.IntKind.i64.wrap ((Go.IntKind.u64.wrap (Go.IntKind.i64.wrap (i14 + j15))).fdiv (2 ^ min (Int.toNat 1) Go.IntKind.u64.bits)) + 1)) j15 data0
       else none
      else none
     else none
    else none
   else none
  else
   slices_symMergeCmpFunc_int_.l21 k i14 m2 data0
def slices_symMergeCmpFunc_int_.j32 : Nat → Int → Int → Int → List (Int) → Int → Int → Int → Int → List (Int) → Option (List Int)
 | 0, _, _, _, _, _, _, _, _, _ => none
 | k + 1, a1, m2, b3, cmp4_0_0, mid18, n19, start20, r21, data0 =>
  slices_symMergeCmpFunc_int_.l33 k a1 m2 b3 cmp4_0_0 mid18 n19 start20 r21 (Go.IntKind.i64.wrap (n19 - 1)) data0
def slices_symMergeCmpFunc_int_.l9 : Nat → Int → Int → List (Int) → Option (List Int)
 | 0, _, _, _ => none
 | k + 1, i10, k13, data0 =>
  if k13 < Go.IntKind.i64.wrap (i10 - 1) then
   if 0 ≤ Go.IntKind.i64.wrap (k13 + 1) then
   if Go.IntKind.i64.wrap (k13 + 1) < (↑data0.length : Int) then
    if 0 ≤ k13 then
     if k13 < (↑data0.length : Int) then
      if 0 ≤ k13 then
       if k13 < (↑data0.length : Int) then
        if 0 ≤ Go.IntKind.i64.wrap (k13 + 1) then
         if Go.IntKind.i64.wrap (k13 + 1) < (↑(data0.set k13.toNat (data0.getD (Go.IntKind.i64.wrap (k13 + 1)).toNat (Int.ofNat 0))).length : Int) then
          slices_symMergeCmpFunc_int_.l9 k i10 (Go.IntKind.i64.wrap (k13 + 1)) ((data0.set k13.toNat (data0.getD (Go.IntKind.i64.wrap (k13 + 1)).toNat (Int.ofNat 0))).set (Go.IntKind.i64.wrap (k13 + 1)).toNat (data0.getD k13.toNat (Int.ofNat 0)))
          else none
         else none
        else none
       else none
      else none
     else none
    else none
   else none
  else
   some (data0)
def slices_symMergeCmpFunc_int_.l21 : Nat → Int → Int → List (Int) → Option (List Int)
 | 0, _, _, _ => none
 | k + 1, i14, k17, data0 =>
  if i14 < k17 then
   if 0 ≤ Go.IntKind.i64.wrap (k17 - 1) then
   if Go.IntKind.i64.wrap (k17 - 1) < (↑data0.length : Int) then
    if 0 ≤ k17 then
     if k17 < (↑data0.length : Int) then
      if 0 ≤ k17 then
       if k17 < (↑data0.length : Int) then
        if 0 ≤ Go.IntKind.i64.wrap (k17 - 1) then
         if Go.IntKind.i64.wrap (k17 - 1) < (↑(data0.set k17.toNat (data0.getD (Go.IntKind.i64.wrap (k17 - 1)).toNat (Int.ofNat 0))).length : Int) then
          slices_symMergeCmpFunc_int_.l21 k i14 (Go.IntKind.i64.wrap (k17 - 1)) ((data0.set k17.toNat (data0.getD (Go.IntKind.i64.wrap (k17 - 1)).toNat (Int.ofNat 0))).set (Go.IntKind.i64.wrap (k17 - 1)).toNat (data0.getD k17.toNat (Int.ofNat 0)))
          else none
         else none
        else none
       else none
      else none
     else none
    else none
   else none
  else
   some (data0)
def slices_symMergeCmpFunc_int_.l33 : Nat → Int → Int → Int → List (Int) → Int → Int → Int → Int → Int → List (Int) → Option (List Int)
 | 0, _, _, _, _, _, _, _, _, _, _ => none
 | k + 1, a1, m2, b3, cmp4_0_0, mid18, n19, start20, r21, p22, data0 =>
  if start20 < r21 then
   if 0 ≤ 1 then
   if 0 ≤ Go.IntKind.i64.wrap (p22 - Go.IntKind.i64.wrap ((Go.IntKind.u64.wrap (Go.IntKind.i64.wrap (start20 + r21))).fdiv (2 ^ min (Int.toNat 1) Go.IntKind.u64.bits))) then
    if Go.IntKind.i64.wrap (p22 - Go.IntKind.i64.wrap ((Go.IntKind.u64.wrap (Go.IntKind.i64.wrap (start20 + r21))).fdiv (2 ^ min (Int.toNat 1) Go.IntKind.u64.bits))) < (↑data0.length : Int) then
     if 0 ≤ Go.IntKind.i64.wrap ((Go.IntKind.u64.wrap (Go.IntKind.i64.wrap (start20 + r21))).fdiv (2 ^ min (Int.toNat 1) Go.IntKind.u64.bits)) then
      if Go.IntKind.i64.wrap ((Go.IntKind.u64.wrap (Go.IntKind.i64.wrap (start20 + r21))).fdiv (2 ^ min (Int.toNat 1) Go.IntKind.u64.bits)) < (↑data0.length : Int) then
       (code_Kraft_2.f k (data0.getD (Go.IntKind.i64.wrap (p22 - Go.IntKind.i64.wrap ((Go.IntKind.u64.wrap (Go.IntKind.i64.wrap (start20 + r21))).fdiv (2 ^ min (Int.toNat 1) Go.IntKind.u64.bits)))).toNat (Int.ofNat 0)) (data0.getD (Go.IntKind.i64.wrap ((Go.IntKind.u64.wrap (Go.IntKind.i64.wrap (start20 + r21))).fdiv (2 ^ min (Int.toNat 1) Go.IntKind.u64.bits))).toNat (Int.ofNat 0)) cmp4_0_0).bind fun r_8 =>
         if r_8 < 0 then
          slices_symMergeCmpFunc_int_.l33 k a1 m2 b3 cmp4_0_0 mid18 n19 start20 (Go.IntKind.i64.wrap ((Go.IntKind.u64.wrap (Go.IntKind.i64.wrap (start20 + r21))).fdiv (2 ^ min (Int.toNat 1) Go.IntKind.u64.bits))) p22 data0
         else
          slices_symMergeCmpFunc_int_.l33 k a1 m2 b3 cmp4_0_0 mid18 n19 (Go.IntKind.i64.wrap (Go.IntKind.i64.wrap ((Go.IntKind.u64.wrap (Go.IntKind.i64.wrap (start20 + r21))).fdiv (2 ^ min (Int.toNat 1) Go.IntKind.u64.bits)) + 1)) r21 p22 data0
       else none
      else none
     else none
    else none
   else none
  else
   if start20 < m2 then
    if m2 < Go.IntKind.i64.wrap (n19 - start20) then
     (slices_rotateCmpFunc_int_.f k start20 m2 (Go.IntKind.i64.wrap (n19 - start20)) cmp4_0_0 data0).bind fun r_5 =>
      slices_symMergeCmpFunc_int_.j41 k a1 b3 cmp4_0_0 mid18 start20 (Go.IntKind.i64.wrap (n19 - start20)) r_5
    else
     slices_symMergeCmpFunc_int_.j41 k a1 b3 cmp4_0_0 mid18 start20 (Go.IntKind.i64.wrap (n19 - start20)) data0
   else
    slices_symMergeCmpFunc_int_.j41 k a1 b3 cmp4_0_0 mid18 start20 (Go.IntKind.i64.wrap (n19 - start20)) data0
def slices_symMergeCmpFunc_int_.j41 : Nat → Int → Int → List (Int) → Int → Int → Int → List (Int) → Option (List Int)
 | 0, _, _, _, _, _, _, _ => none
 | k + 1, a1, b3, cmp4_0_0, mid18, start20, end24, data0 =>
  if a1 < start20 then
   if start20 < mid18 then
    (slices_symMergeCmpFunc_int_.f k a1 start20 mid18 cmp4_0_0 data0).bind fun r_4 =>
     slices_symMergeCmpFunc_int_.j43 k b3 cmp4_0_0 mid18 end24 r_4
   else
    slices_symMergeCmpFunc_int_.j43 k b3 cmp4_0_0 mid18 end24 data0
  else
   slices_symMergeCmpFunc_int_.j43 k b3 cmp4_0_0 mid18 end24 data0
def slices_symMergeCmpFunc_int_.j43 : Nat → Int → List (Int) → Int → Int → List (Int) → Option (List Int)
 | 0, _, _, _, _, _ => none
 | k + 1, b3, cmp4_0_0, mid18, end24, data0 =>
  if mid18 < end24 then
   if end24 < b3 then
    (slices_symMergeCmpFunc_int_.f k mid18 end24 b3 cmp4_0_0 data0).bind fun r_4 =>
     some (r_4)
   else
    some (data0)
  else
   some (data0)
def slices_symMergeCmpFunc_int_.f : Nat → Int → Int → Int → (List (Int)) → (List (Int)) → Option (List Int)
 | 0, _, _, _, _, _ => none
 | k + 1, a1, m2, b3, cmp4_0_0, data0 =>
 if Go.IntKind.i64.wrap (m2 - a1) = 1 then
  slices_symMergeCmpFunc_int_.l3 k a1 cmp4_0_0 m2 b3 data0
 else
  if Go.IntKind.i64.wrap (b3 - m2) = 1 then
   slices_symMergeCmpFunc_int_.l15 k m2 cmp4_0_0 a1 m2 data0
  else
   if 0 ≤ 1 then
   if Go.IntKind.i64.wrap ((Go.IntKind.u64.wrap (Go.IntKind.i64.wrap (a1 + b3))).fdiv (2 ^ min (Int.toNat 1) Go.IntKind.u64.bits)) < m2 then
     slices_symMergeCmpFunc_int_.j32 k a1 m2 b3 cmp4_0_0 (Go.IntKind.i64.wrap ((Go.IntKind.u64.wrap (Go.IntKind.i64.wrap (a1 + b3))).fdiv (2 ^ min (Int.toNat 1) Go.IntKind.u64.bits))) (Go.IntKind.i64.wrap (Go.IntKind.i64.wrap ((Go.IntKind.u64.wrap (Go.IntKind.i64.wrap (a1 + b3))).fdiv (2 ^ min (Int.toNat 1) Go.IntKind.u64.bits)) + m2)) (Go.IntKind.i64.wrap (Go.IntKind.i64.wrap (Go.IntKind.i64.wrap ((Go.IntKind.u64.wrap (Go.IntKind.i64.wrap (a1 + b3))).fdiv (2 ^ min (Int.toNat 1) Go.IntKind.u64.bits)) + m2) - b3)) (Go.IntKind.i64.wrap ((Go.IntKind.u64.wrap (Go.IntKind.i64.wrap (a1 + b3))).fdiv (2 ^ min (Int.toNat 1) Go.IntKind.u64.bits))) data0
    else
     slices_symMergeCmpFunc_int_.j32 k a1 m2 b3 cmp4_0_0 (Go.IntKind.i64.wrap ((Go.IntKind.u64.wrap (Go.IntKind.i64.wrap (a1 + b3))).fdiv (2 ^ min (Int.toNat 1) Go.IntKind.u64.bits))) (Go.IntKind.i64.wrap (Go.IntKind.i64.wrap ((Go.IntKind.u64.wrap (Go.IntKind.i64.wrap (a1 + b3))).fdiv (2 ^ min (Int.toNat 1) Go.IntKind.u64.bits)) + m2)) a1 m2 data0
   else none
end

noncomputable def slices_symMergeCmpFunc_int_.body : Code := fnBody Try.f205
def slices_symMergeCmpFunc_int_.ti : Tm := ⟨[(0, .own 0), (1, .p (.int .i64)), (2, .p (.int .i64)), (3, .p (.int .i64)), (4, .fn 132 [.rs [.p (.slice (.int .i64))] 0])], [.own (.int .i64)]⟩
def slices_symMergeCmpFunc_int_.to : Tm := ⟨[], [.own (.int .i64)]⟩
def slices_symMergeCmpFunc_int_.rs (r : (List Int)) : List Dat := [⟨(.slice (.int .i64)), r⟩]
def slices_symMergeCmpFunc_int_.out (ds : List Dat) : Option ((List Int)) := pop (.slice (.int .i64)) ds fun x0 ds => popN ds (some (x0))
def slices_symMergeCmpFunc_int_.c (k : Nat) (ds : List Dat) : Option ((List Int)) := pop (.int .i64) ds fun x0 ds => pop (.int .i64) ds fun x1 ds => pop (.int .i64) ds fun x2 ds => pop (.slice (.int .i64)) ds fun x3 ds => pop (.slice (.int .i64)) ds fun x4 ds => popN ds (slices_symMergeCmpFunc_int_.f k x0 x1 x2 x3 x4)
def slices_symMergeCmpFunc_int_.g (k : Nat) (ds : List Dat) : Option ((List Int)) := slices_symMergeCmpFunc_int_.c k ds
def slices_symMergeCmpFunc_int_.env (k : Nat) : Nat → List SV → List Chunk → KT ((List Int)) → Option ((List Int)) := (envC 205 5 slices_symMergeCmpFunc_int_.ti slices_symMergeCmpFunc_int_.to (fun ds K => pop (.int .i64) ds fun x0 ds => pop (.int .i64) ds fun x1 ds => pop (.int .i64) ds fun x2 ds => pop (.slice (.int .i64)) ds fun x3 ds => pop (.slice (.int .i64)) ds fun x4 ds => popN ds ((slices_symMergeCmpFunc_int_.f k x0 x1 x2 x3 x4).bind fun r => K (slices_symMergeCmpFunc_int_.rs r))) (envC 132 3 code_Kraft_2.ti code_Kraft_2.to (fun ds K => pop (.int .i64) ds fun x0 ds => pop (.int .i64) ds fun x1 ds => pop (.slice (.int .i64)) ds fun x2 ds => popN ds ((code_Kraft_2.f k x0 x1 x2).bind fun r => K (code_Kraft_2.rs r))) (envC 207 5 slices_rotateCmpFunc_int_.ti slices_rotateCmpFunc_int_.to (fun ds K => pop (.int .i64) ds fun x0 ds => pop (.int .i64) ds fun x1 ds => pop (.int .i64) ds fun x2 ds => pop (.slice (.int .i64)) ds fun x3 ds => pop (.slice (.int .i64)) ds fun x4 ds => popN ds ((slices_rotateCmpFunc_int_.f k x0 x1 x2 x3 x4).bind fun r => K (slices_rotateCmpFunc_int_.rs r))) env0)))
def slices_symMergeCmpFunc_int_.t7 : Tm := ⟨[(0, .own 0), (1, .p (.int .i64)), (4, .fn 132 [.rs [.p (.slice (.int .i64))] 0]), (10, .p (.int .i64)), (11, .p (.int .i64))], [.own (.int .i64)]⟩
def slices_symMergeCmpFunc_int_.c7 (k : Nat) (ds : List Dat) : Option ((List Int)) := pop (.int .i64) ds fun x0 ds => pop (.slice (.int .i64)) ds fun x1 ds => pop (.int .i64) ds fun x2 ds => pop (.int .i64) ds fun x3 ds => pop (.slice (.int .i64)) ds fun x4 ds => popN ds (slices_symMergeCmpFunc_int_.l3 k x0 x1 x2 x3 x4)
def slices_symMergeCmpFunc_int_.t31 : Tm := ⟨[(0, .own 0), (2, .p (.int .i64)), (4, .fn 132 [.rs [.p (.slice (.int .i64))] 0]), (14, .p (.int .i64)), (15, .p (.int .i64))], [.own (.int .i64)]⟩
def slices_symMergeCmpFunc_int_.c31 (k : Nat) (ds : List Dat) : Option ((List Int)) := pop (.int .i64) ds fun x0 ds => pop (.slice (.int .i64)) ds fun x1 ds => pop (.int .i64) ds fun x2 ds => pop (.int .i64) ds fun x3 ds => pop (.slice (.int .i64)) ds fun x4 ds => popN ds (slices_symMergeCmpFunc_int_.l15 k x0 x1 x2 x3 x4)
def slices_symMergeCmpFunc_int_.t64 : Tm := ⟨[(0, .own 0), (1, .p (.int .i64)), (2, .p (.int .i64)), (3, .p (.int .i64)), (4, .fn 132 [.rs [.p (.slice (.int .i64))] 0]), (18, .p (.int .i64)), (19, .p (.int .i64)), (20, .p (.int .i64)), (21, .p (.int .i64))], [.own (.int .i64)]⟩
def slices_symMergeCmpFunc_int_.c64 (k : Nat) (ds : List Dat) : Option ((List Int)) := pop (.int .i64) ds fun x0 ds => pop (.int .i64) ds fun x1 ds => pop (.int .i64) ds fun x2 ds => pop (.slice (.int .i64)) ds fun x3 ds => pop (.int .i64) ds fun x4 ds => pop (.int .i64) ds fun x5 ds => pop (.int .i64) ds fun x6 ds => pop (.int .i64) ds fun x7 ds => pop (.slice (.int .i64)) ds fun x8 ds => popN ds (slices_symMergeCmpFunc_int_.j32 k x0 x1 x2 x3 x4 x5 x6 x7 x8)
def slices_symMergeCmpFunc_int_.t19 : Tm := ⟨[(0, .own 0), (10, .p (.int .i64)), (13, .p (.int .i64))], [.own (.int .i64)]⟩
def slices_symMergeCmpFunc_int_.c19 (k : Nat) (ds : List Dat) : Option ((List Int)) := pop (.int .i64) ds fun x0 ds => pop (.int .i64) ds fun x1 ds => pop (.slice (.int .i64)) ds fun x2 ds => popN ds (slices_symMergeCmpFunc_int_.l9 k x0 x1 x2)
def slices_symMergeCmpFunc_int_.t43 : Tm := ⟨[(0, .own 0), (14, .p (.int .i64)), (17, .p (.int .i64))], [.own (.int .i64)]⟩
def slices_symMergeCmpFunc_int_.c43 (k : Nat) (ds : List Dat) : Option ((List Int)) := pop (.int .i64) ds fun x0 ds => pop (.int .i64) ds fun x1 ds => pop (.slice (.int .i64)) ds fun x2 ds => popN ds (slices_symMergeCmpFunc_int_.l21 k x0 x1 x2)
def slices_symMergeCmpFunc_int_.t67 : Tm := ⟨[(0, .own 0), (1, .p (.int .i64)), (2, .p (.int .i64)), (3, .p (.int .i64)), (4, .fn 132 [.rs [.p (.slice (.int .i64))] 0]), (18, .p (.int .i64)), (19, .p (.int .i64)), (20, .p (.int .i64)), (21, .p (.int .i64)), (22, .p (.int .i64))], [.own (.int .i64)]⟩
def slices_symMergeCmpFunc_int_.c67 (k : Nat) (ds : List Dat) : Option ((List Int)) := pop (.int .i64) ds fun x0 ds => pop (.int .i64) ds fun x1 ds => pop (.int .i64) ds fun x2 ds => pop (.slice (.int .i64)) ds fun x3 ds => pop (.int .i64) ds fun x4 ds => pop (.int .i64) ds fun x5 ds => pop (.int .i64) ds fun x6 ds => pop (.int .i64) ds fun x7 ds => pop (.int .i64) ds fun x8 ds => pop (.slice (.int .i64)) ds fun x9 ds => popN ds (slices_symMergeCmpFunc_int_.l33 k x0 x1 x2 x3 x4 x5 x6 x7 x8 x9)
def slices_symMergeCmpFunc_int_.t82 : Tm := ⟨[(0, .own 0), (1, .p (.int .i64)), (3, .p (.int .i64)), (4, .fn 132 [.rs [.p (.slice (.int .i64))] 0]), (18, .p (.int .i64)), (20, .p (.int .i64)), (24, .p (.int .i64))], [.own (.int .i64)]⟩
def slices_symMergeCmpFunc_int_.c82 (k : Nat) (ds : List Dat) : Option ((List Int)) := pop (.int .i64) ds fun x0 ds => pop (.int .i64) ds fun x1 ds => pop (.slice (.int .i64)) ds fun x2 ds => pop (.int .i64) ds fun x3 ds => pop (.int .i64) ds fun x4 ds => pop (.int .i64) ds fun x5 ds => pop (.slice (.int .i64)) ds fun x6 ds => popN ds (slices_symMergeCmpFunc_int_.j41 k x0 x1 x2 x3 x4 x5 x6)
def slices_symMergeCmpFunc_int_.t86 : Tm := ⟨[(0, .own 0), (3, .p (.int .i64)), (4, .fn 132 [.rs [.p (.slice (.int .i64))] 0]), (18, .p (.int .i64)), (24, .p (.int .i64))], [.own (.int .i64)]⟩
def slices_symMergeCmpFunc_int_.c86 (k : Nat) (ds : List Dat) : Option ((List Int)) := pop (.int .i64) ds fun x0 ds => pop (.slice (.int .i64)) ds fun x1 ds => pop (.int .i64) ds fun x2 ds => pop (.int .i64) ds fun x3 ds => pop (.slice (.int .i64)) ds fun x4 ds => popN ds (slices_symMergeCmpFunc_int_.j43 k x0 x1 x2 x3 x4)
def slices_symMergeCmpFunc_int_.tbl : List (Nat × Tm × (Nat → List Dat → Option ((List Int)))) := [(7, slices_symMergeCmpFunc_int_.t7, slices_symMergeCmpFunc_int_.c7), (31, slices_symMergeCmpFunc_int_.t31, slices_symMergeCmpFunc_int_.c31), (64, slices_symMergeCmpFunc_int_.t64, slices_symMergeCmpFunc_int_.c64), (19, slices_symMergeCmpFunc_int_.t19, slices_symMergeCmpFunc_int_.c19), (43, slices_symMergeCmpFunc_int_.t43, slices_symMergeCmpFunc_int_.c43), (67, slices_symMergeCmpFunc_int_.t67, slices_symMergeCmpFunc_int_.c67), (82, slices_symMergeCmpFunc_int_.t82, slices_symMergeCmpFunc_int_.c82), (86, slices_symMergeCmpFunc_int_.t86, slices_symMergeCmpFunc_int_.c86)]
noncomputable abbrev slices_symMergeCmpFunc_int_.R (k : Nat) := run T (slices_symMergeCmpFunc_int_.env k) Try.f205.ntmps (cutE 1 slices_symMergeCmpFunc_int_.tbl k) (finE 1 slices_symMergeCmpFunc_int_.to slices_symMergeCmpFunc_int_.out) (fnRes Try.f205) [43, 41, 32] 100000 true
theorem slices_symMergeCmpFunc_int_.e7 (k : Nat) (x0 : Int) (x1 : (List Int)) (x2 : Int) (x3 : Int) (x4 : (List Int)) : slices_symMergeCmpFunc_int_.l3 (k + 1) x0 x1 x2 x3 x4 = slices_symMergeCmpFunc_int_.R k (start (stackOf 7 slices_symMergeCmpFunc_int_.body)) (slices_symMergeCmpFunc_int_.t7.fill [⟨(.int .i64), x0⟩, ⟨(.slice (.int .i64)), x1⟩, ⟨(.int .i64), x2⟩, ⟨(.int .i64), x3⟩, ⟨(.slice (.int .i64)), x4⟩]) := by kernel_rfl
theorem slices_symMergeCmpFunc_int_.s7 : stackAt 7 slices_symMergeCmpFunc_int_.body [] = some (stackOf 7 slices_symMergeCmpFunc_int_.body) := by kernel_rfl
theorem slices_symMergeCmpFunc_int_.h7 (k : Nat) (ds : List Dat) (r : (List Int)) (h : slices_symMergeCmpFunc_int_.c7 k ds = some r) : ∃ k', k' < k ∧ ∃ s, stackAt 7 slices_symMergeCmpFunc_int_.body [] = some s ∧ slices_symMergeCmpFunc_int_.R k' (start s) (slices_symMergeCmpFunc_int_.t7.fill ds) = some r := by
  unfold slices_symMergeCmpFunc_int_.c7 at h
  obtain ⟨x0, d0, rfl, h0⟩ := pop_some h
  obtain ⟨x1, d1, rfl, h1⟩ := pop_some h0
  obtain ⟨x2, d2, rfl, h2⟩ := pop_some h1
  obtain ⟨x3, d3, rfl, h3⟩ := pop_some h2
  obtain ⟨x4, d4, rfl, h4⟩ := pop_some h3
  obtain ⟨rfl, g⟩ := popN_some h4
  cases k with
  | zero => cases (show none = some r from g)
  | succ k => exact ⟨k, Nat.lt_succ_self k, _, slices_symMergeCmpFunc_int_.s7, (slices_symMergeCmpFunc_int_.e7 k x0 x1 x2 x3 x4).symm.trans g⟩
theorem slices_symMergeCmpFunc_int_.e31 (k : Nat) (x0 : Int) (x1 : (List Int)) (x2 : Int) (x3 : Int) (x4 : (List Int)) : slices_symMergeCmpFunc_int_.l15 (k + 1) x0 x1 x2 x3 x4 = slices_symMergeCmpFunc_int_.R k (start (stackOf 31 slices_symMergeCmpFunc_int_.body)) (slices_symMergeCmpFunc_int_.t31.fill [⟨(.int .i64), x0⟩, ⟨(.slice (.int .i64)), x1⟩, ⟨(.int .i64), x2⟩, ⟨(.int .i64), x3⟩, ⟨(.slice (.int .i64)), x4⟩]) := by kernel_rfl
theorem slices_symMergeCmpFunc_int_.s31 : stackAt 31 slices_symMergeCmpFunc_int_.body [] = some (stackOf 31 slices_symMergeCmpFunc_int_.body) := by kernel_rfl
theorem slices_symMergeCmpFunc_int_.h31 (k : Nat) (ds : List Dat) (r : (List Int)) (h : slices_symMergeCmpFunc_int_.c31 k ds = some r) : ∃ k', k' < k ∧ ∃ s, stackAt 31 slices_symMergeCmpFunc_int_.body [] = some s ∧ slices_symMergeCmpFunc_int_.R k' (start s) (slices_symMergeCmpFunc_int_.t31.fill ds) = some r := by
  unfold slices_symMergeCmpFunc_int_.c31 at h
  obtain ⟨x0, d0, rfl, h0⟩ := pop_some h
  obtain ⟨x1, d1, rfl, h1⟩ := pop_some h0
  obtain ⟨x2, d2, rfl, h2⟩ := pop_some h1
  obtain ⟨x3, d3, rfl, h3⟩ := pop_some h2
  obtain ⟨x4, d4, rfl, h4⟩ := pop_some h3
  obtain ⟨rfl, g⟩ := popN_some h4
  cases k with
  | zero => cases (show none = some r from g)
  | succ k => exact ⟨k, Nat.lt_succ_self k, _, slices_symMergeCmpFunc_int_.s31, (slices_symMergeCmpFunc_int_.e31 k x0 x1 x2 x3 x4).symm.trans g⟩
theorem slices_symMergeCmpFunc_int_.e64 (k : Nat) (x0 : Int) (x1 : Int) (x2 : Int) (x3 : (List Int)) (x4 : Int) (x5 : Int) (x6 : Int) (x7 : Int) (x8 : (List Int)) : slices_symMergeCmpFunc_int_.j32 (k + 1) x0 x1 x2 x3 x4 x5 x6 x7 x8 = slices_symMergeCmpFunc_int_.R k (start (stackOf 64 slices_symMergeCmpFunc_int_.body)) (slices_symMergeCmpFunc_int_.t64.fill [⟨(.int .i64), x0⟩, ⟨(.int .i64), x1⟩, ⟨(.int .i64), x2⟩, ⟨(.slice (.int .i64)), x3⟩, ⟨(.int .i64), x4⟩, ⟨(.int .i64), x5⟩, ⟨(.int .i64), x6⟩, ⟨(.int .i64), x7⟩, ⟨(.slice (.int .i64)), x8⟩]) := by kernel_rfl
theorem slices_symMergeCmpFunc_int_.s64 : stackAt 64 slices_symMergeCmpFunc_int_.body [] = some (stackOf 64 slices_symMergeCmpFunc_int_.body) := by kernel_rfl
theorem slices_symMergeCmpFunc_int_.h64 (k : Nat) (ds : List Dat) (r : (List Int)) (h : slices_symMergeCmpFunc_int_.c64 k ds = some r) : ∃ k', k' < k ∧ ∃ s, stackAt 64 slices_symMergeCmpFunc_int_.body [] = some s ∧ slices_symMergeCmpFunc_int_.R k' (start s) (slices_symMergeCmpFunc_int_.t64.fill ds) = some r := by
  unfold slices_symMergeCmpFunc_int_.c64 at h
  obtain ⟨x0, d0, rfl, h0⟩ := pop_some h
  obtain ⟨x1, d1, rfl, h1⟩ := pop_some h0
  obtain ⟨x2, d2, rfl, h2⟩ := pop_some h1
  obtain ⟨x3, d3, rfl, h3⟩ := pop_some h2
  obtain ⟨x4, d4, rfl, h4⟩ := pop_some h3
  obtain ⟨x5, d5, rfl, h5⟩ := pop_some h4
  obtain ⟨x6, d6, rfl, h6⟩ := pop_some h5
  obtain ⟨x7, d7, rfl, h7⟩ := pop_some h6
  obtain ⟨x8, d8, rfl, h8⟩ := pop_some h7
  obtain ⟨rfl, g⟩ := popN_some h8
  cases k with
  | zero => cases (show none = some r from g)
  | succ k => exact ⟨k, Nat.lt_succ_self k, _, slices_symMergeCmpFunc_int_.s64, (slices_symMergeCmpFunc_int_.e64 k x0 x1 x2 x3 x4 x5 x6 x7 x8).symm.trans g⟩
theorem slices_symMergeCmpFunc_int_.e19 (k : Nat) (x0 : Int) (x1 : Int) (x2 : (List Int)) : slices_symMergeCmpFunc_int_.l9 (k + 1) x0 x1 x2 = slices_symMergeCmpFunc_int_.R k (start (stackOf 19 slices_symMergeCmpFunc_int_.body)) (slices_symMergeCmpFunc_int_.t19.fill [⟨(.int .i64), x0⟩, ⟨(.int .i64), x1⟩, ⟨(.slice (.int .i64)), x2⟩]) := by kernel_rfl
theorem slices_symMergeCmpFunc_int_.s19 : stackAt 19 slices_symMergeCmpFunc_int_.body [] = some (stackOf 19 slices_symMergeCmpFunc_int_.body) := by kernel_rfl
theorem slices_symMergeCmpFunc_int_.h19 (k : Nat) (ds : List Dat) (r : (List Int)) (h : slices_symMergeCmpFunc_int_.c19 k ds = some r) : ∃ k', k' < k ∧ ∃ s, stackAt 19 slices_symMergeCmpFunc_int_.body [] = some s ∧ slices_symMergeCmpFunc_int_.R k' (start s) (slices_symMergeCmpFunc_int_.t19.fill ds) = some r := by
  unfold slices_symMergeCmpFunc_int_.c19 at h
  obtain ⟨x0, d0, rfl, h0⟩ := pop_some h
  obtain ⟨x1, d1, rfl, h1⟩ := pop_some h0
  obtain ⟨x2, d2, rfl, h2⟩ := pop_some h1
  obtain ⟨rfl, g⟩ := popN_some h2
  cases k with
  | zero => cases (show none = some r from g)
  | succ k => exact ⟨k, Nat.lt_succ_self k, _, slices_symMergeCmpFunc_int_.s19, (slices_symMergeCmpFunc_int_.e19 k x0 x1 x2).symm.trans g⟩
theorem slices_symMergeCmpFunc_int_.e43 (k : Nat) (x0 : Int) (x1 : Int) (x2 : (List Int)) : slices_symMergeCmpFunc_int_.l21 (k + 1) x0 x1 x2 = slices_symMergeCmpFunc_int_.R k (start (stackOf 43 slices_symMergeCmpFunc_int_.body)) (slices_symMergeCmpFunc_int_.t43.fill [⟨(.int .i64), x0⟩, ⟨(.int .i64), x1⟩, ⟨(.slice (.int .i64)), x2⟩]) := by kernel_rfl
theorem slices_symMergeCmpFunc_int_.s43 : stackAt 43 slices_symMergeCmpFunc_int_.body [] = some (stackOf 43 slices_symMergeCmpFunc_int_.body) := by kernel_rfl
theorem slices_symMergeCmpFunc_int_.h43 (k : Nat) (ds : List Dat) (r : (List Int)) (h : slices_symMergeCmpFunc_int_.c43 k ds = some r) : ∃ k', k' < k ∧ ∃ s, stackAt 43 slices_symMergeCmpFunc_int_.body [] = some s ∧ slices_symMergeCmpFunc_int_.R k' (start s) (slices_symMergeCmpFunc_int_.t43.fill ds) = some r := by
  unfold slices_symMergeCmpFunc_int_.c43 at h
  obtain ⟨x0, d0, rfl, h0⟩ := pop_some h
  obtain ⟨x1, d1, rfl, h1⟩ := pop_some h0
  obtain ⟨x2, d2, rfl, h2⟩ := pop_some h1
  obtain ⟨rfl, g⟩ := popN_some h2
  cases k with
  | zero => cases (show none = some r from g)
  | succ k => exact ⟨k, Nat.lt_succ_self k, _, slices_symMergeCmpFunc_int_.s43, (slices_symMergeCmpFunc_int_.e43 k x0 x1 x2).symm.trans g⟩
theorem slices_symMergeCmpFunc_int_.e67 (k : Nat) (x0 : Int) (x1 : Int) (x2 : Int) (x3 : (List Int)) (x4 : Int) (x5 : Int) (x6 : Int) (x7 : Int) (x8 : Int) (x9 : (List Int)) : slices_symMergeCmpFunc_int_.l33 (k + 1) x0 x1 x2 x3 x4 x5 x6 x7 x8 x9 = slices_symMergeCmpFunc_int_.R k (start (stackOf 67 slices_symMergeCmpFunc_int_.body)) (slices_symMergeCmpFunc_int_.t67.fill [⟨(.int .i64), x0⟩, ⟨(.int .i64), x1⟩, ⟨(.int .i64), x2⟩, ⟨(.slice (.int .i64)), x3⟩, ⟨(.int .i64), x4⟩, ⟨(.int .i64), x5⟩, ⟨(.int .i64), x6⟩, ⟨(.int .i64), x7⟩, ⟨(.int .i64), x8⟩, ⟨(.slice (.int .i64)), x9⟩]) := by kernel_rfl
theorem slices_symMergeCmpFunc_int_.s67 : stackAt 67 slices_symMergeCmpFunc_int_.body [] = some (stackOf 67 slices_symMergeCmpFunc_int_.body) := by kernel_rfl
theorem slices_symMergeCmpFunc_int_.h67 (k : Nat) (ds : List Dat) (r : (List Int)) (h : slices_symMergeCmpFunc_int_.c67 k ds = some r) : ∃ k', k' < k ∧ ∃ s, stackAt 67 slices_symMergeCmpFunc_int_.body [] = some s ∧ slices_symMergeCmpFunc_int_.R k' (start s) (slices_symMergeCmpFunc_int_.t67.fill ds) = some r := by
  unfold slices_symMergeCmpFunc_int_.c67 at h
  obtain ⟨x0, d0, rfl, h0⟩ := pop_some h
  obtain ⟨x1, d1, rfl, h1⟩ := pop_some h0
  obtain ⟨x2, d2, rfl, h2⟩ := pop_some h1
  obtain ⟨x3, d3, rfl, h3⟩ := pop_some h2
  obtain ⟨x4, d4, rfl, h4⟩ := pop_some h3
  obtain ⟨x5, d5, rfl, h5⟩ := pop_some h4
  obtain ⟨x6, d6, rfl, h6⟩ := pop_some h5
  obtain ⟨x7, d7, rfl, h7⟩ := pop_some h6
  obtain ⟨x8, d8, rfl, h8⟩ := pop_some h7
  obtain ⟨x9, d9, rfl, h9⟩ := pop_some h8
  obtain ⟨rfl, g⟩ := popN_some h9
  cases k with
  | zero => cases (show none = some r from g)
  | succ k => exact ⟨k, Nat.lt_succ_self k, _, slices_symMergeCmpFunc_int_.s67, (slices_symMergeCmpFunc_int_.e67 k x0 x1 x2 x3 x4 x5 x6 x7 x8 x9).symm.trans g⟩
theorem slices_symMergeCmpFunc_int_.e82 (k : Nat) (x0 : Int) (x1 : Int) (x2 : (List Int)) (x3 : Int) (x4 : Int) (x5 : Int) (x6 : (List Int)) : slices_symMergeCmpFunc_int_.j41 (k + 1) x0 x1 x2 x3 x4 x5 x6 = slices_symMergeCmpFunc_int_.R k (start (stackOf 82 slices_symMergeCmpFunc_int_.body)) (slices_symMergeCmpFunc_int_.t82.fill [⟨(.int .i64), x0⟩, ⟨(.int .i64), x1⟩, ⟨(.slice (.int .i64)), x2⟩, ⟨(.int .i64), x3⟩, ⟨(.int .i64), x4⟩, ⟨(.int .i64), x5⟩, ⟨(.slice (.int .i64)), x6⟩]) := by kernel_rfl
theorem slices_symMergeCmpFunc_int_.s82 : stackAt 82 slices_symMergeCmpFunc_int_.body [] = some (stackOf 82 slices_symMergeCmpFunc_int_.body) := by kernel_rfl
theorem slices_symMergeCmpFunc_int_.h82 (k : Nat) (ds : List Dat) (r : (List Int)) (h : slices_symMergeCmpFunc_int_.c82 k ds = some r) : ∃ k', k' < k ∧ ∃ s, stackAt 82 slices_symMergeCmpFunc_int_.body [] = some s ∧ slices_symMergeCmpFunc_int_.R k' (start s) (slices_symMergeCmpFunc_int_.t82.fill ds) = some r := by
  unfold slices_symMergeCmpFunc_int_.c82 at h
  obtain ⟨x0, d0, rfl, h0⟩ := pop_some h
  obtain ⟨x1, d1, rfl, h1⟩ := pop_some h0
  obtain ⟨x2, d2, rfl, h2⟩ := pop_some h1
  obtain ⟨x3, d3, rfl, h3⟩ := pop_some h2
  obtain ⟨x4, d4, rfl, h4⟩ := pop_some h3
  obtain ⟨x5, d5, rfl, h5⟩ := pop_some h4
  obtain ⟨x6, d6, rfl, h6⟩ := pop_some h5
  obtain ⟨rfl, g⟩ := popN_some h6
  cases k with
  | zero => cases (show none = some r from g)
  | succ k => exact ⟨k, Nat.lt_succ_self k, _, slices_symMergeCmpFunc_int_.s82, (slices_symMergeCmpFunc_int_.e82 k x0 x1 x2 x3 x4 x5 x6).symm.trans g⟩
theorem slices_symMergeCmpFunc_int_.e86 (k : Nat) (x0 : Int) (x1 : (List Int)) (x2 : Int) (x3 : Int) (x4 : (List Int)) : slices_symMergeCmpFunc_int_.j43 (k + 1) x0 x1 x2 x3 x4 = slices_symMergeCmpFunc_int_.R k (start (stackOf 86 slices_symMergeCmpFunc_int_.body)) (slices_symMergeCmpFunc_int_.t86.fill [⟨(.int .i64), x0⟩, ⟨(.slice (.int .i64)), x1⟩, ⟨(.int .i64), x2⟩, ⟨(.int .i64), x3⟩, ⟨(.slice (.int .i64)), x4⟩]) := by kernel_rfl
theorem slices_symMergeCmpFunc_int_.s86 : stackAt 86 slices_symMergeCmpFunc_int_.body [] = some (stackOf 86 slices_symMergeCmpFunc_int_.body) := by kernel_rfl
theorem slices_symMergeCmpFunc_int_.h86 (k : Nat) (ds : List Dat) (r : (List Int)) (h : slices_symMergeCmpFunc_int_.c86 k ds = some r) : ∃ k', k' < k ∧ ∃ s, stackAt 86 slices_symMergeCmpFunc_int_.body [] = some s ∧ slices_symMergeCmpFunc_int_.R k' (start s) (slices_symMergeCmpFunc_int_.t86.fill ds) = some r := by
  unfold slices_symMergeCmpFunc_int_.c86 at h
  obtain ⟨x0, d0, rfl, h0⟩ := pop_some h
  obtain ⟨x1, d1, rfl, h1⟩ := pop_some h0
  obtain ⟨x2, d2, rfl, h2⟩ := pop_some h1
  obtain ⟨x3, d3, rfl, h3⟩ := pop_some h2
  obtain ⟨x4, d4, rfl, h4⟩ := pop_some h3
  obtain ⟨rfl, g⟩ := popN_some h4
  cases k with
  | zero => cases (show none = some r from g)
  | succ k => exact ⟨k, Nat.lt_succ_self k, _, slices_symMergeCmpFunc_int_.s86, (slices_symMergeCmpFunc_int_.e86 k x0 x1 x2 x3 x4).symm.trans g⟩
theorem slices_symMergeCmpFunc_int_.e (k : Nat) (x0 : Int) (x1 : Int) (x2 : Int) (x3 : (List Int)) (x4 : (List Int)) : slices_symMergeCmpFunc_int_.f (k + 1) x0 x1 x2 x3 x4 = slices_symMergeCmpFunc_int_.R k ([.code slices_symMergeCmpFunc_int_.body]) (slices_symMergeCmpFunc_int_.ti.fill [⟨(.int .i64), x0⟩, ⟨(.int .i64), x1⟩, ⟨(.int .i64), x2⟩, ⟨(.slice (.int .i64)), x3⟩, ⟨(.slice (.int .i64)), x4⟩]) := by kernel_rfl
theorem slices_symMergeCmpFunc_int_.h (k : Nat) (ds : List Dat) (r : (List Int)) (h : slices_symMergeCmpFunc_int_.g k ds = some r) : ∃ k', k' < k ∧ slices_symMergeCmpFunc_int_.R k' ([.code slices_symMergeCmpFunc_int_.body]) (slices_symMergeCmpFunc_int_.ti.fill ds) = some r := by
  replace h : slices_symMergeCmpFunc_int_.c k ds = some r := h
  unfold slices_symMergeCmpFunc_int_.c at h
  obtain ⟨x0, d0, rfl, h0⟩ := pop_some h
  obtain ⟨x1, d1, rfl, h1⟩ := pop_some h0
  obtain ⟨x2, d2, rfl, h2⟩ := pop_some h1
  obtain ⟨x3, d3, rfl, h3⟩ := pop_some h2
  obtain ⟨x4, d4, rfl, h4⟩ := pop_some h3
  obtain ⟨rfl, g⟩ := popN_some h4
  cases k with
  | zero => cases (show none = some r from g)
  | succ k => exact ⟨k, Nat.lt_succ_self k, (slices_symMergeCmpFunc_int_.e k x0 x1 x2 x3 x4).symm.trans g⟩
theorem slices_symMergeCmpFunc_int_.o (ds : List Dat) (r : (List Int)) (h : slices_symMergeCmpFunc_int_.out ds = some r) : ds = slices_symMergeCmpFunc_int_.rs r := by
  unfold slices_symMergeCmpFunc_int_.out at h
  obtain ⟨x0, d0, rfl, h0⟩ := pop_some h
  obtain ⟨rfl, g⟩ := popN_some h0
  cases g
  rfl
theorem slices_symMergeCmpFunc_int_.fn : FnOk Try.prog 205 Try.f205 slices_symMergeCmpFunc_int_.body Try.f205.ntmps 5 (fnRes Try.f205) :=
  fnOk_of (by kernel_rfl) (by kernel_rfl) (by kernel_rfl) (by kernel_rfl)
theorem slices_symMergeCmpFunc_int_.con' : ∀ k ds r, slices_symMergeCmpFunc_int_.g k ds = some r → Con Try.prog 205 5 slices_symMergeCmpFunc_int_.ti slices_symMergeCmpFunc_int_.to ds (slices_symMergeCmpFunc_int_.rs r) :=
  fun_ok (T := T) T_ok mixed slices_symMergeCmpFunc_int_.fn (env := slices_symMergeCmpFunc_int_.env) (tbl := slices_symMergeCmpFunc_int_.tbl) (gOut := slices_symMergeCmpFunc_int_.out) (nin := 1) (cuts := [43, 41, 32]) (fuel := 100000) rfl (by kernel_rfl) (by kernel_rfl) (by kernel_rfl) (fun x hx => by
    simp only [slices_symMergeCmpFunc_int_.tbl, List.mem_cons, List.not_mem_nil, or_false] at hx
    rcases hx with rfl | rfl | rfl | rfl | rfl | rfl | rfl | rfl
    · exact slices_symMergeCmpFunc_int_.h7
    · exact slices_symMergeCmpFunc_int_.h31
    · exact slices_symMergeCmpFunc_int_.h64
    · exact slices_symMergeCmpFunc_int_.h19
    · exact slices_symMergeCmpFunc_int_.h43
    · exact slices_symMergeCmpFunc_int_.h67
    · exact slices_symMergeCmpFunc_int_.h82
    · exact slices_symMergeCmpFunc_int_.h86
) slices_symMergeCmpFunc_int_.o slices_symMergeCmpFunc_int_.h (fun k ih => by unfold slices_symMergeCmpFunc_int_.env; exact (envC_ok (fun ds K r h => by
    obtain ⟨x0, d0, rfl, h0⟩ := pop_some h
    obtain ⟨x1, d1, rfl, h1⟩ := pop_some h0
    obtain ⟨x2, d2, rfl, h2⟩ := pop_some h1
    obtain ⟨x3, d3, rfl, h3⟩ := pop_some h2
    obtain ⟨x4, d4, rfl, h4⟩ := pop_some h3
    obtain ⟨rfl, g⟩ := popN_some h4
    obtain ⟨r1, h1, h2⟩ := bind_some g
    exact ⟨_, h2, ih _ _ (by show slices_symMergeCmpFunc_int_.c k _ = some r1; unfold slices_symMergeCmpFunc_int_.c; simp only [pop_self, popN]; exact h1)⟩) (envC_ok (fun ds K r h => by
    obtain ⟨x0, d0, rfl, h0⟩ := pop_some h
    obtain ⟨x1, d1, rfl, h1⟩ := pop_some h0
    obtain ⟨x2, d2, rfl, h2⟩ := pop_some h1
    obtain ⟨rfl, g⟩ := popN_some h2
    obtain ⟨r1, h1, h2⟩ := bind_some g
    exact ⟨_, h2, code_Kraft_2.con k _ h1⟩) (envC_ok (fun ds K r h => by
    obtain ⟨x0, d0, rfl, h0⟩ := pop_some h
    obtain ⟨x1, d1, rfl, h1⟩ := pop_some h0
    obtain ⟨x2, d2, rfl, h2⟩ := pop_some h1
    obtain ⟨x3, d3, rfl, h3⟩ := pop_some h2
    obtain ⟨x4, d4, rfl, h4⟩ := pop_some h3
    obtain ⟨rfl, g⟩ := popN_some h4
    obtain ⟨r1, h1, h2⟩ := bind_some g
    exact ⟨_, h2, slices_rotateCmpFunc_int_.con k _ h1⟩) env0_ok))))
theorem slices_symMergeCmpFunc_int_.con (k : Nat) {x0 : Int} {x1 : Int} {x2 : Int} {x3 : (List Int)} {x4 : (List Int)} (r : (List Int)) (h : slices_symMergeCmpFunc_int_.f k x0 x1 x2 x3 x4 = some r) : Con Try.prog 205 5 slices_symMergeCmpFunc_int_.ti slices_symMergeCmpFunc_int_.to [⟨(.int .i64), x0⟩, ⟨(.int .i64), x1⟩, ⟨(.int .i64), x2⟩, ⟨(.slice (.int .i64)), x3⟩, ⟨(.slice (.int .i64)), x4⟩] (slices_symMergeCmpFunc_int_.rs r) :=
  slices_symMergeCmpFunc_int_.con' k _ r (by show slices_symMergeCmpFunc_int_.c k _ = some r; unfold slices_symMergeCmpFunc_int_.c; simp only [pop_self, popN]; exact h)
mutual
def slices_stableCmpFunc_int_.l2 : Nat → Int → List (Int) → Int → Int → Int → List (Int) → Option (List Int)
 | 0, _, _, _, _, _, _ => none
 | k + 1, n1, cmp2_0_0, blockSize6, a7, b8, data0 =>
  if b8 ≤ n1 then
   (slices_insertionSortCmpFunc_int_.f k a7 b8 cmp2_0_0 data0).bind fun r_3 =>
    slices_stableCmpFunc_int_.l2 k n1 cmp2_0_0 blockSize6 b8 (Go.IntKind.i64.wrap (b8 + blockSize6)) r_3
  else
   (slices_insertionSortCmpFunc_int_.f k a7 n1 cmp2_0_0 data0).bind fun r_3 =>
    slices_stableCmpFunc_int_.l7 k n1 cmp2_0_0 blockSize6 r_3
def slices_stableCmpFunc_int_.l7 : Nat → Int → List (Int) → Int → List (Int) → Option (List Int)
 | 0, _, _, _, _ => none
 | k + 1, n1, cmp2_0_0, blockSize6, data0 =>
  if blockSize6 < n1 then
   slices_stableCmpFunc_int_.l9 k n1 cmp2_0_0 blockSize6 0 (Go.IntKind.i64.wrap (2 * blockSize6)) data0
  else
   some (data0)
def slices_stableCmpFunc_int_.l9 : Nat → Int → List (Int) → Int → Int → Int → List (Int) → Option (List Int)
 | 0, _, _, _, _, _, _ => none
 | k + 1, n1, cmp2_0_0, blockSize6, a7, b8, data0 =>
  if b8 ≤ n1 then
   (slices_symMergeCmpFunc_int_.f k a7 (Go.IntKind.i64.wrap (a7 + blockSize6)) b8 cmp2_0_0 data0).bind fun r_3 =>
    slices_stableCmpFunc_int_.l9 k n1 cmp2_0_0 blockSize6 b8 (Go.IntKind.i64.wrap (b8 + Go.IntKind.i64.wrap (2 * blockSize6))) r_3
  else
   if Go.IntKind.i64.wrap (a7 + blockSize6) < n1 then
    (slices_symMergeCmpFunc_int_.f k a7 (Go.IntKind.i64.wrap (a7 + blockSize6)) n1 cmp2_0_0 data0).bind fun r_4 =>
     slices_stableCmpFunc_int_.j16 k n1 cmp2_0_0 blockSize6 r_4
   else
    slices_stableCmpFunc_int_.j16 k n1 cmp2_0_0 blockSize6 data0
def slices_stableCmpFunc_int_.j16 : Nat → Int → List (Int) → Int → List (Int) → Option (List Int)
 | 0, _, _, _, _ => none
 | k + 1, n1, cmp2_0_0, blockSize6, data0 =>
  slices_stableCmpFunc_int_.l7 k n1 cmp2_0_0 (Go.IntKind.i64.wrap (blockSize6 * 2)) data0
end
def slices_stableCmpFunc_int_.f (k : Nat) (n1 : Int) (cmp2_0_0 : List (Int)) (data0 : List (Int)) : Option (List Int) :=
 slices_stableCmpFunc_int_.l2 k n1 cmp2_0_0 20 0 20 data0

noncomputable def slices_stableCmpFunc_int_.body : Code := fnBody Try.f183
def slices_stableCmpFunc_int_.ti : Tm := ⟨[(0, .own 0), (1, .p (.int .i64)), (2, .fn 132 [.rs [.p (.slice (.int .i64))] 0])], [.own (.int .i64)]⟩
def slices_stableCmpFunc_int_.to : Tm := ⟨[], [.own (.int .i64)]⟩
def slices_stableCmpFunc_int_.rs (r : (List Int)) : List Dat := [⟨(.slice (.int .i64)), r⟩]
def slices_stableCmpFunc_int_.out (ds : List Dat) : Option ((List Int)) := pop (.slice (.int .i64)) ds fun x0 ds => popN ds (some (x0))
def slices_stableCmpFunc_int_.c (k : Nat) (ds : List Dat) : Option ((List Int)) := pop (.int .i64) ds fun x0 ds => pop (.slice (.int .i64)) ds fun x1 ds => pop (.slice (.int .i64)) ds fun x2 ds => popN ds (slices_stableCmpFunc_int_.f k x0 x1 x2)
def slices_stableCmpFunc_int_.g : Nat → List Dat → Option ((List Int))
 | 0, _ => none
 | k + 1, ds => slices_stableCmpFunc_int_.c k ds
def slices_stableCmpFunc_int_.env (k : Nat) : Nat → List SV → List Chunk → KT ((List Int)) → Option ((List Int)) := (envC 204 4 slices_insertionSortCmpFunc_int_.ti slices_insertionSortCmpFunc_int_.to (fun ds K => pop (.int .i64) ds fun x0 ds => pop (.int .i64) ds fun x1 ds => pop (.slice (.int .i64)) ds fun x2 ds => pop (.slice (.int .i64)) ds fun x3 ds => popN ds ((slices_insertionSortCmpFunc_int_.f k x0 x1 x2 x3).bind fun r => K (slices_insertionSortCmpFunc_int_.rs r))) (envC 205 5 slices_symMergeCmpFunc_int_.ti slices_symMergeCmpFunc_int_.to (fun ds K => pop (.int .i64) ds fun x0 ds => pop (.int .i64) ds fun x1 ds => pop (.int .i64) ds fun x2 ds => pop (.slice (.int .i64)) ds fun x3 ds => pop (.slice (.int .i64)) ds fun x4 ds => popN ds ((slices_symMergeCmpFunc_int_.f k x0 x1 x2 x3 x4).bind fun r => K (slices_symMergeCmpFunc_int_.rs r))) env0))
def slices_stableCmpFunc_int_.t5 : Tm := ⟨[(0, .own 0), (1, .p (.int .i64)), (2, .fn 132 [.rs [.p (.slice (.int .i64))] 0]), (6, .p (.int .i64)), (7, .p (.int .i64)), (8, .p (.int .i64))], [.own (.int .i64)]⟩
def slices_stableCmpFunc_int_.c5 (k : Nat) (ds : List Dat) : Option ((List Int)) := pop (.int .i64) ds fun x0 ds => pop (.slice (.int .i64)) ds fun x1 ds => pop (.int .i64) ds fun x2 ds => pop (.int .i64) ds fun x3 ds => pop (.int .i64) ds fun x4 ds => pop (.slice (.int .i64)) ds fun x5 ds => popN ds (slices_stableCmpFunc_int_.l2 k x0 x1 x2 x3 x4 x5)
def slices_stableCmpFunc_int_.t15 : Tm := ⟨[(0, .own 0), (1, .p (.int .i64)), (2, .fn 132 [.rs [.p (.slice (.int .i64))] 0]), (6, .p (.int .i64))], [.own (.int .i64)]⟩
def slices_stableCmpFunc_int_.c15 (k : Nat) (ds : List Dat) : Option ((List Int)) := pop (.int .i64) ds fun x0 ds => pop (.slice (.int .i64)) ds fun x1 ds => pop (.int .i64) ds fun x2 ds => pop (.slice (.int .i64)) ds fun x3 ds => popN ds (slices_stableCmpFunc_int_.l7 k x0 x1 x2 x3)
def slices_stableCmpFunc_int_.t19 : Tm := ⟨[(0, .own 0), (1, .p (.int .i64)), (2, .fn 132 [.rs [.p (.slice (.int .i64))] 0]), (6, .p (.int .i64)), (7, .p (.int .i64)), (8, .p (.int .i64))], [.own (.int .i64)]⟩
def slices_stableCmpFunc_int_.c19 (k : Nat) (ds : List Dat) : Option ((List Int)) := pop (.int .i64) ds fun x0 ds => pop (.slice (.int .i64)) ds fun x1 ds => pop (.int .i64) ds fun x2 ds => pop (.int .i64) ds fun x3 ds => pop (.int .i64) ds fun x4 ds => pop (.slice (.int .i64)) ds fun x5 ds => popN ds (slices_stableCmpFunc_int_.l9 k x0 x1 x2 x3 x4 x5)
def slices_stableCmpFunc_int_.t32 : Tm := ⟨[(0, .own 0), (1, .p (.int .i64)), (2, .fn 132 [.rs [.p (.slice (.int .i64))] 0]), (6, .p (.int .i64))], [.own (.int .i64)]⟩
def slices_stableCmpFunc_int_.c32 (k : Nat) (ds : List Dat) : Option ((List Int)) := pop (.int .i64) ds fun x0 ds => pop (.slice (.int .i64)) ds fun x1 ds => pop (.int .i64) ds fun x2 ds => pop (.slice (.int .i64)) ds fun x3 ds => popN ds (slices_stableCmpFunc_int_.j16 k x0 x1 x2 x3)
def slices_stableCmpFunc_int_.tbl : List (Nat × Tm × (Nat → List Dat → Option ((List Int)))) := [(5, slices_stableCmpFunc_int_.t5, slices_stableCmpFunc_int_.c5), (15, slices_stableCmpFunc_int_.t15, slices_stableCmpFunc_int_.c15), (19, slices_stableCmpFunc_int_.t19, slices_stableCmpFunc_int_.c19), (32, slices_stableCmpFunc_int_.t32, slices_stableCmpFunc_int_.c32)]
noncomputable abbrev slices_stableCmpFunc_int_.R (k : Nat) := run T (slices_stableCmpFunc_int_.env k) Try.f183.ntmps (cutE 1 slices_stableCmpFunc_int_.tbl k) (finE 1 slices_stableCmpFunc_int_.to slices_stableCmpFunc_int_.out) (fnRes Try.f183) [16] 100000 true
theorem slices_stableCmpFunc_int_.e5 (k : Nat) (x0 : Int) (x1 : (List Int)) (x2 : Int) (x3 : Int) (x4 : Int) (x5 : (List Int)) : slices_stableCmpFunc_int_.l2 (k + 1) x0 x1 x2 x3 x4 x5 = slices_stableCmpFunc_int_.R k (start (stackOf 5 slices_stableCmpFunc_int_.body)) (slices_stableCmpFunc_int_.t5.fill [⟨(.int .i64), x0⟩, ⟨(.slice (.int .i64)), x1⟩, ⟨(.int .i64), x2⟩, ⟨(.int .i64), x3⟩, ⟨(.int .i64), x4⟩, ⟨(.slice (.int .i64)), x5⟩]) := by kernel_rfl
theorem slices_stableCmpFunc_int_.s5 : stackAt 5 slices_stableCmpFunc_int_.body [] = some (stackOf 5 slices_stableCmpFunc_int_.body) := by kernel_rfl
theorem slices_stableCmpFunc_int_.h5 (k : Nat) (ds : List Dat) (r : (List Int)) (h : slices_stableCmpFunc_int_.c5 k ds = some r) : ∃ k', k' < k ∧ ∃ s, stackAt 5 slices_stableCmpFunc_int_.body [] = some s ∧ slices_stableCmpFunc_int_.R k' (start s) (slices_stableCmpFunc_int_.t5.fill ds) = some r := by
  unfold slices_stableCmpFunc_int_.c5 at h
  obtain ⟨x0, d0, rfl, h0⟩ := pop_some h
  obtain ⟨x1, d1, rfl, h1⟩ := pop_some h0
  obtain ⟨x2, d2, rfl, h2⟩ := pop_some h1
  obtain ⟨x3, d3, rfl, h3⟩ := pop_some h2
  obtain ⟨x4, d4, rfl, h4⟩ := pop_some h3
  obtain ⟨x5, d5, rfl, h5⟩ := pop_some h4
  obtain ⟨rfl, g⟩ := popN_some h5
  cases k with
  | zero => cases (show none = some r from g)
  | succ k => exact ⟨k, Nat.lt_succ_self k, _, slices_stableCmpFunc_int_.s5, (slices_stableCmpFunc_int_.e5 k x0 x1 x2 x3 x4 x5).symm.trans g⟩
theorem slices_stableCmpFunc_int_.e15 (k : Nat) (x0 : Int) (x1 : (List Int)) (x2 : Int) (x3 : (List Int)) : slices_stableCmpFunc_int_.l7 (k + 1) x0 x1 x2 x3 = slices_stableCmpFunc_int_.R k (start (stackOf 15 slices_stableCmpFunc_int_.body)) (slices_stableCmpFunc_int_.t15.fill [⟨(.int .i64), x0⟩, ⟨(.slice (.int .i64)), x1⟩, ⟨(.int .i64), x2⟩, ⟨(.slice (.int .i64)), x3⟩]) := by kernel_rfl
theorem slices_stableCmpFunc_int_.s15 : stackAt 15 slices_stableCmpFunc_int_.body [] = some (stackOf 15 slices_stableCmpFunc_int_.body) := by kernel_rfl
theorem slices_stableCmpFunc_int_.h15 (k : Nat) (ds : List Dat) (r : (List Int)) (h : slices_stableCmpFunc_int_.c15 k ds = some r) : ∃ k', k' < k ∧ ∃ s, stackAt 15 slices_stableCmpFunc_int_.body [] = some s ∧ slices_stableCmpFunc_int_.R k' (start s) (slices_stableCmpFunc_int_.t15.fill ds) = some r := by
  unfold slices_stableCmpFunc_int_.c15 at h
  obtain ⟨x0, d0, rfl, h0⟩ := pop_some h
  obtain ⟨x1, d1, rfl, h1⟩ := pop_some h0
  obtain ⟨x2, d2, rfl, h2⟩ := pop_some h1
  obtain ⟨x3, d3, rfl, h3⟩ := pop_some h2
  obtain ⟨rfl, g⟩ := popN_some h3
  cases k with
  | zero => cases (show none = some r from g)
  | succ k => exact ⟨k, Nat.lt_succ_self k, _, slices_stableCmpFunc_int_.s15, (slices_stableCmpFunc_int_.e15 k x0 x1 x2 x3).symm.trans g⟩
theorem slices_stableCmpFunc_int_.e19 (k : Nat) (x0 : Int) (x1 : (List Int)) (x2 : Int) (x3 : Int) (x4 : Int) (x5 : (List Int)) : slices_stableCmpFunc_int_.l9 (k + 1) x0 x1 x2 x3 x4 x5 = slices_stableCmpFunc_int_.R k (start (stackOf 19 slices_stableCmpFunc_int_.body)) (slices_stableCmpFunc_int_.t19.fill [⟨(.int .i64), x0⟩, ⟨(.slice (.int .i64)), x1⟩, ⟨(.int .i64), x2⟩, ⟨(.int .i64), x3⟩, ⟨(.int .i64), x4⟩, ⟨(.slice (.int .i64)), x5⟩]) := by kernel_rfl
theorem slices_stableCmpFunc_int_.s19 : stackAt 19 slices_stableCmpFunc_int_.body [] = some (stackOf 19 slices_stableCmpFunc_int_.body) := by kernel_rfl
theorem slices_stableCmpFunc_int_.h19 (k : Nat) (ds : List Dat) (r : (List Int)) (h : slices_stableCmpFunc_int_.c19 k ds = some r) : ∃ k', k' < k ∧ ∃ s, stackAt 19 slices_stableCmpFunc_int_.body [] = some s ∧ slices_stableCmpFunc_int_.R k' (start s) (slices_stableCmpFunc_int_.t19.fill ds) = some r := by
  unfold slices_stableCmpFunc_int_.c19 at h
  obtain ⟨x0, d0, rfl, h0⟩ := pop_some h
  obtain ⟨x1, d1, rfl, h1⟩ := pop_some h0
  obtain ⟨x2, d2, rfl, h2⟩ := pop_some h1
  obtain ⟨x3, d3, rfl, h3⟩ := pop_some h2
  obtain ⟨x4, d4, rfl, h4⟩ := pop_some h3
  obtain ⟨x5, d5, rfl, h5⟩ := pop_some h4
  obtain ⟨rfl, g⟩ := popN_some h5
  cases k with
  | zero => cases (show none = some r from g)
  | succ k => exact ⟨k, Nat.lt_succ_self k, _, slices_stableCmpFunc_int_.s19, (slices_stableCmpFunc_int_.e19 k x0 x1 x2 x3 x4 x5).symm.trans g⟩
theorem slices_stableCmpFunc_int_.e32 (k : Nat) (x0 : Int) (x1 : (List Int)) (x2 : Int) (x3 : (List Int)) : slices_stableCmpFunc_int_.j16 (k + 1) x0 x1 x2 x3 = slices_stableCmpFunc_int_.R k (start (stackOf 32 slices_stableCmpFunc_int_.body)) (slices_stableCmpFunc_int_.t32.fill [⟨(.int .i64), x0⟩, ⟨(.slice (.int .i64)), x1⟩, ⟨(.int .i64), x2⟩, ⟨(.slice (.int .i64)), x3⟩]) := by kernel_rfl
theorem slices_stableCmpFunc_int_.s32 : stackAt 32 slices_stableCmpFunc_int_.body [] = some (stackOf 32 slices_stableCmpFunc_int_.body) := by kernel_rfl
theorem slices_stableCmpFunc_int_.h32 (k : Nat) (ds : List Dat) (r : (List Int)) (h : slices_stableCmpFunc_int_.c32 k ds = some r) : ∃ k', k' < k ∧ ∃ s, stackAt 32 slices_stableCmpFunc_int_.body [] = some s ∧ slices_stableCmpFunc_int_.R k' (start s) (slices_stableCmpFunc_int_.t32.fill ds) = some r := by
  unfold slices_stableCmpFunc_int_.c32 at h
  obtain ⟨x0, d0, rfl, h0⟩ := pop_some h
  obtain ⟨x1, d1, rfl, h1⟩ := pop_some h0
  obtain ⟨x2, d2, rfl, h2⟩ := pop_some h1
  obtain ⟨x3, d3, rfl, h3⟩ := pop_some h2
  obtain ⟨rfl, g⟩ := popN_some h3
  cases k with
  | zero => cases (show none = some r from g)
  | succ k => exact ⟨k, Nat.lt_succ_self k, _, slices_stableCmpFunc_int_.s32, (slices_stableCmpFunc_int_.e32 k x0 x1 x2 x3).symm.trans g⟩
theorem slices_stableCmpFunc_int_.e (k : Nat) (x0 : Int) (x1 : (List Int)) (x2 : (List Int)) : slices_stableCmpFunc_int_.f k x0 x1 x2 = slices_stableCmpFunc_int_.R k ([.code slices_stableCmpFunc_int_.body]) (slices_stableCmpFunc_int_.ti.fill [⟨(.int .i64), x0⟩, ⟨(.slice (.int .i64)), x1⟩, ⟨(.slice (.int .i64)), x2⟩]) := by kernel_rfl
theorem slices_stableCmpFunc_int_.h (k : Nat) (ds : List Dat) (r : (List Int)) (h : slices_stableCmpFunc_int_.g k ds = some r) : ∃ k', k' < k ∧ slices_stableCmpFunc_int_.R k' ([.code slices_stableCmpFunc_int_.body]) (slices_stableCmpFunc_int_.ti.fill ds) = some r := by
  cases k with
  | zero => cases (show none = some r from h)
  | succ k =>
  replace h : slices_stableCmpFunc_int_.c k ds = some r := h
  unfold slices_stableCmpFunc_int_.c at h
  obtain ⟨x0, d0, rfl, h0⟩ := pop_some h
  obtain ⟨x1, d1, rfl, h1⟩ := pop_some h0
  obtain ⟨x2, d2, rfl, h2⟩ := pop_some h1
  obtain ⟨rfl, g⟩ := popN_some h2
  exact ⟨k, Nat.lt_succ_self k, (slices_stableCmpFunc_int_.e k x0 x1 x2).symm.trans g⟩
theorem slices_stableCmpFunc_int_.o (ds : List Dat) (r : (List Int)) (h : slices_stableCmpFunc_int_.out ds = some r) : ds = slices_stableCmpFunc_int_.rs r := by
  unfold slices_stableCmpFunc_int_.out at h
  obtain ⟨x0, d0, rfl, h0⟩ := pop_some h
  obtain ⟨rfl, g⟩ := popN_some h0
  cases g
  rfl
theorem slices_stableCmpFunc_int_.fn : FnOk Try.prog 183 Try.f183 slices_stableCmpFunc_int_.body Try.f183.ntmps 3 (fnRes Try.f183) :=
  fnOk_of (by kernel_rfl) (by kernel_rfl) (by kernel_rfl) (by kernel_rfl)
theorem slices_stableCmpFunc_int_.con' : ∀ k ds r, slices_stableCmpFunc_int_.g k ds = some r → Con Try.prog 183 3 slices_stableCmpFunc_int_.ti slices_stableCmpFunc_int_.to ds (slices_stableCmpFunc_int_.rs r) :=
  fun_ok (T := T) T_ok mixed slices_stableCmpFunc_int_.fn (env := slices_stableCmpFunc_int_.env) (tbl := slices_stableCmpFunc_int_.tbl) (gOut := slices_stableCmpFunc_int_.out) (nin := 1) (cuts := [16]) (fuel := 100000) rfl (by kernel_rfl) (by kernel_rfl) (by kernel_rfl) (fun x hx => by
    simp only [slices_stableCmpFunc_int_.tbl, List.mem_cons, List.not_mem_nil, or_false] at hx
    rcases hx with rfl | rfl | rfl | rfl
    · exact slices_stableCmpFunc_int_.h5
    · exact slices_stableCmpFunc_int_.h15
    · exact slices_stableCmpFunc_int_.h19
    · exact slices_stableCmpFunc_int_.h32
) slices_stableCmpFunc_int_.o slices_stableCmpFunc_int_.h (fun k _ => by unfold slices_stableCmpFunc_int_.env; exact (envC_ok (fun ds K r h => by
    obtain ⟨x0, d0, rfl, h0⟩ := pop_some h
    obtain ⟨x1, d1, rfl, h1⟩ := pop_some h0
    obtain ⟨x2, d2, rfl, h2⟩ := pop_some h1
    obtain ⟨x3, d3, rfl, h3⟩ := pop_some h2
    obtain ⟨rfl, g⟩ := popN_some h3
    obtain ⟨r1, h1, h2⟩ := bind_some g
    exact ⟨_, h2, slices_insertionSortCmpFunc_int_.con k _ h1⟩) (envC_ok (fun ds K r h => by
    obtain ⟨x0, d0, rfl, h0⟩ := pop_some h
    obtain ⟨x1, d1, rfl, h1⟩ := pop_some h0
    obtain ⟨x2, d2, rfl, h2⟩ := pop_some h1
    obtain ⟨x3, d3, rfl, h3⟩ := pop_some h2
    obtain ⟨x4, d4, rfl, h4⟩ := pop_some h3
    obtain ⟨rfl, g⟩ := popN_some h4
    obtain ⟨r1, h1, h2⟩ := bind_some g
    exact ⟨_, h2, slices_symMergeCmpFunc_int_.con k _ h1⟩) env0_ok)))
theorem slices_stableCmpFunc_int_.con (k : Nat) {x0 : Int} {x1 : (List Int)} {x2 : (List Int)} (r : (List Int)) (h : slices_stableCmpFunc_int_.f k x0 x1 x2 = some r) : Con Try.prog 183 3 slices_stableCmpFunc_int_.ti slices_stableCmpFunc_int_.to [⟨(.int .i64), x0⟩, ⟨(.slice (.int .i64)), x1⟩, ⟨(.slice (.int .i64)), x2⟩] (slices_stableCmpFunc_int_.rs r) :=
  slices_stableCmpFunc_int_.con' (k + 1) _ r (by show slices_stableCmpFunc_int_.c k _ = some r; unfold slices_stableCmpFunc_int_.c; simp only [pop_self, popN]; exact h)
def slices_SortStableFunc___int_int_.f (k : Nat) (cmp1_0_0 : List (Int)) (x0 : List (Int)) : Option (List Int) :=
 (slices_stableCmpFunc_int_.f k (↑x0.length : Int) cmp1_0_0 x0).bind fun r_1 =>
  some (r_1)

noncomputable def slices_SortStableFunc___int_int_.body : Code := fnBody Try.f131
def slices_SortStableFunc___int_int_.ti : Tm := ⟨[(0, .own 0), (1, .fn 132 [.rs [.p (.slice (.int .i64))] 0])], [.own (.int .i64)]⟩
def slices_SortStableFunc___int_int_.to : Tm := ⟨[], [.own (.int .i64)]⟩
def slices_SortStableFunc___int_int_.rs (r : (List Int)) : List Dat := [⟨(.slice (.int .i64)), r⟩]
def slices_SortStableFunc___int_int_.out (ds : List Dat) : Option ((List Int)) := pop (.slice (.int .i64)) ds fun x0 ds => popN ds (some (x0))
def slices_SortStableFunc___int_int_.c (k : Nat) (ds : List Dat) : Option ((List Int)) := pop (.slice (.int .i64)) ds fun x0 ds => pop (.slice (.int .i64)) ds fun x1 ds => popN ds (slices_SortStableFunc___int_int_.f k x0 x1)
def slices_SortStableFunc___int_int_.g : Nat → List Dat → Option ((List Int))
 | 0, _ => none
 | k + 1, ds => slices_SortStableFunc___int_int_.c k ds
def slices_SortStableFunc___int_int_.env (k : Nat) : Nat → List SV → List Chunk → KT ((List Int)) → Option ((List Int)) := (envC 183 3 slices_stableCmpFunc_int_.ti slices_stableCmpFunc_int_.to (fun ds K => pop (.int .i64) ds fun x0 ds => pop (.slice (.int .i64)) ds fun x1 ds => pop (.slice (.int .i64)) ds fun x2 ds => popN ds ((slices_stableCmpFunc_int_.f k x0 x1 x2).bind fun r => K (slices_stableCmpFunc_int_.rs r))) env0)
def slices_SortStableFunc___int_int_.tbl : List (Nat × Tm × (Nat → List Dat → Option ((List Int)))) := []
noncomputable abbrev slices_SortStableFunc___int_int_.R (k : Nat) := run T (slices_SortStableFunc___int_int_.env k) Try.f131.ntmps (cutE 1 slices_SortStableFunc___int_int_.tbl k) (finE 1 slices_SortStableFunc___int_int_.to slices_SortStableFunc___int_int_.out) (fnRes Try.f131) [] 100000 true
theorem slices_SortStableFunc___int_int_.e (k : Nat) (x0 : (List Int)) (x1 : (List Int)) : slices_SortStableFunc___int_int_.f k x0 x1 = slices_SortStableFunc___int_int_.R k ([.code slices_SortStableFunc___int_int_.body]) (slices_SortStableFunc___int_int_.ti.fill [⟨(.slice (.int .i64)), x0⟩, ⟨(.slice (.int .i64)), x1⟩]) := by kernel_rfl
theorem slices_SortStableFunc___int_int_.h (k : Nat) (ds : List Dat) (r : (List Int)) (h : slices_SortStableFunc___int_int_.g k ds = some r) : ∃ k', k' < k ∧ slices_SortStableFunc___int_int_.R k' ([.code slices_SortStableFunc___int_int_.body]) (slices_SortStableFunc___int_int_.ti.fill ds) = some r := by
  cases k with
  | zero => cases (show none = some r from h)
  | succ k =>
  replace h : slices_SortStableFunc___int_int_.c k ds = some r := h
  unfold slices_SortStableFunc___int_int_.c at h
  obtain ⟨x0, d0, rfl, h0⟩ := pop_some h
  obtain ⟨x1, d1, rfl, h1⟩ := pop_some h0
  obtain ⟨rfl, g⟩ := popN_some h1
  exact ⟨k, Nat.lt_succ_self k, (slices_SortStableFunc___int_int_.e k x0 x1).symm.trans g⟩
theorem slices_SortStableFunc___int_int_.o (ds : List Dat) (r : (List Int)) (h : slices_SortStableFunc___int_int_.out ds = some r) : ds = slices_SortStableFunc___int_int_.rs r := by
  unfold slices_SortStableFunc___int_int_.out at h
  obtain ⟨x0, d0, rfl, h0⟩ := pop_some h
  obtain ⟨rfl, g⟩ := popN_some h0
  cases g
  rfl
theorem slices_SortStableFunc___int_int_.fn : FnOk Try.prog 131 Try.f131 slices_SortStableFunc___int_int_.body Try.f131.ntmps 2 (fnRes Try.f131) :=
  fnOk_of (by kernel_rfl) (by kernel_rfl) (by kernel_rfl) (by kernel_rfl)
theorem slices_SortStableFunc___int_int_.con' : ∀ k ds r, slices_SortStableFunc___int_int_.g k ds = some r → Con Try.prog 131 2 slices_SortStableFunc___int_int_.ti slices_SortStableFunc___int_int_.to ds (slices_SortStableFunc___int_int_.rs r) :=
  fun_ok (T := T) T_ok mixed slices_SortStableFunc___int_int_.fn (env := slices_SortStableFunc___int_int_.env) (tbl := slices_SortStableFunc___int_int_.tbl) (gOut := slices_SortStableFunc___int_int_.out) (nin := 1) (cuts := []) (fuel := 100000) rfl (by kernel_rfl) (by kernel_rfl) (by kernel_rfl) (fun x hx => by simp [slices_SortStableFunc___int_int_.tbl] at hx) slices_SortStableFunc___int_int_.o slices_SortStableFunc___int_int_.h (fun k _ => by unfold slices_SortStableFunc___int_int_.env; exact (envC_ok (fun ds K r h => by
    obtain ⟨x0, d0, rfl, h0⟩ := pop_some h
    obtain ⟨x1, d1, rfl, h1⟩ := pop_some h0
    obtain ⟨x2, d2, rfl, h2⟩ := pop_some h1
    obtain ⟨rfl, g⟩ := popN_some h2
    obtain ⟨r1, h1, h2⟩ := bind_some g
    exact ⟨_, h2, slices_stableCmpFunc_int_.con k _ h1⟩) env0_ok))
theorem slices_SortStableFunc___int_int_.con (k : Nat) {x0 : (List Int)} {x1 : (List Int)} (r : (List Int)) (h : slices_SortStableFunc___int_int_.f k x0 x1 = some r) : Con Try.prog 131 2 slices_SortStableFunc___int_int_.ti slices_SortStableFunc___int_int_.to [⟨(.slice (.int .i64)), x0⟩, ⟨(.slice (.int .i64)), x1⟩] (slices_SortStableFunc___int_int_.rs r) :=
  slices_SortStableFunc___int_int_.con' (k + 1) _ r (by show slices_SortStableFunc___int_int_.c k _ = some r; unfold slices_SortStableFunc___int_int_.c; simp only [pop_self, popN]; exact h)
def slices_Clone___int_int_.f (k : Nat) (x0 : List (Int)) : Option (List (Int)) := if Short x0.length then some x0 else none
def slices_Clone___int_int_.ti : Tm := cloneIn (.int .i64)
def slices_Clone___int_int_.to : Tm := cloneOut (.int .i64)
def slices_Clone___int_int_.rs (r : List Int) : List Dat := [⟨.slice (.int .i64), r⟩]
theorem slices_Clone___int_int_.fn : FnOk Try.prog 74 Try.f74 (fnBody Try.f74) Try.f74.ntmps 1 (fnRes Try.f74) :=
  fnOk_of (by kernel_rfl) (by kernel_rfl) (by kernel_rfl) (by kernel_rfl)
theorem slices_Clone___int_int_.con (k : Nat) {x0 : List Int} (r : List Int) (h : slices_Clone___int_int_.f k x0 = some r) : Con Try.prog 74 1 slices_Clone___int_int_.ti slices_Clone___int_int_.to [⟨.slice (.int .i64), x0⟩] (slices_Clone___int_int_.rs r) := by
  unfold slices_Clone___int_int_.f at h
  split at h
  · rename_i hs
    cases h
    exact clone_con (by_ := elemB T 23) (u := (.int .i64)) (t := 23) (t' := 23) (k := restOf (stackOf 2 (fnBody Try.f74))) (ops := opsAt 1 (fnBody Try.f74)) (o1 := opAt 0 (opsAt 1 (fnBody Try.f74))) (o2 := opAt 1 (opsAt 1 (fnBody Try.f74))) T_ok mixed slices_Clone___int_int_.fn (by kernel_rfl) ⟨by kernel_rfl, by kernel_rfl, by kernel_rfl, by kernel_rfl, by kernel_rfl, by kernel_rfl, by kernel_rfl, ⟨3, by kernel_rfl⟩⟩ (Nat.le_of_ble_eq_true (by kernel_rfl)) (by kernel_rfl) (by kernel_rfl) (fun L => by kernel_rfl) (by kernel_rfl) (fun L => by kernel_rfl) (by kernel_rfl) x0 hs
  · cases h
mutual
def code_Kraft.l9 : Nat → Int → Int → Int → List (Int) → List (Int) → Option (Bool × Int × List (List Int))
 | 0, _, _, _, _, _ => none
 | k + 1, letters0, x34, x35, sizes3_0, order7 =>
  if x35 < x34 then
   if 0 ≤ x35 then
   if x35 < (↑order7.length : Int) then
    code_Kraft.l9 k letters0 x34 (Go.IntKind.i64.wrap (x35 + 1)) sizes3_0 (order7.set x35.toNat x35)
    else none
   else none
  else
   (slices_SortStableFunc___int_int_.f k sizes3_0 order7).bind fun r_3 =>
    if 0 ≤ (↑sizes3_0.length : Int) then
    if (↑sizes3_0.length : Int) ≤ (↑sizes3_0.length : Int) then
     if (↑sizes3_0.length : Int) * ((↑24 : Int) + 1) ≤ 281474976710656 then
      code_Kraft.l17 k letters0 true ((↑r_3.length : Int)) 0 sizes3_0 (List.replicate (↑sizes3_0.length : Int).toNat []) [] r_3
      else none
     else none
    else none
def code_Kraft.l17 : Nat → Int → Bool → Int → Int → List (Int) → List (List (Int)) → List (Int) → List (Int) → Option (Bool × Int × List (List Int))
 | 0, _, _, _, _, _, _, _, _ => none
 | k + 1, letters0, ok10, x51, x52, sizes3_0, l4, next9, x50 =>
  if x52 < x51 then
   if 0 ≤ x52 then
   if x52 < (↑x50.length : Int) then
    if ok10 = true then
      code_Kraft.l21 k letters0 (x50.getD x52.toNat (Int.ofNat 0)) x51 x52 sizes3_0 l4 next9 x50
     else
      some (false, 0, [])
    else none
   else none
  else
   some (true, 0, l4)
def code_Kraft.l21 : Nat → Int → Int → Int → Int → List (Int) → List (List (Int)) → List (Int) → List (Int) → Option (Bool × Int × List (List Int))
 | 0, _, _, _, _, _, _, _, _ => none
 | k + 1, letters0, i12, x51, x52, sizes3_0, l4, next9, x50 =>
  if 0 ≤ i12 then
  if i12 < (↑sizes3_0.length : Int) then
   if (↑next9.length : Int) < Go.Proofs.YtmagglebkbiffaaSx.rd (Int.ofNat 0) sizes3_0 i12 then
     if Go.Proofs.YtmagglebkbiffaaSx.fitsIn (next9 ++ [Int.ofNat 0]).length 8 = true then
     code_Kraft.l21 k letters0 i12 x51 x52 sizes3_0 l4 (next9 ++ [Int.ofNat 0]) x50
     else none
    else
     (slices_Clone___int_int_.f k next9).bind fun r_5 =>
      if 0 ≤ i12 then
      if i12 < (↑l4.length : Int) then
       code_Kraft.l25 k letters0 (Go.IntKind.i64.wrap ((↑next9.length : Int) - 1)) x51 x52 sizes3_0 (l4.set i12.toNat r_5) next9 x50
       else none
      else none
   else none
  else none
def code_Kraft.l25 : Nat → Int → Int → Int → Int → List (Int) → List (List (Int)) → List (Int) → List (Int) → Option (Bool × Int × List (List Int))
 | 0, _, _, _, _, _, _, _, _ => none
 | k + 1, letters0, k13, x51, x52, sizes3_0, l4, next9, x50 =>
  if 0 ≤ k13 then
   if 0 ≤ k13 then
   if k13 < (↑next9.length : Int) then
    if next9.getD k13.toNat (Int.ofNat 0) = Go.IntKind.i64.wrap (letters0 - 1) then
      if 0 ≤ k13 then
      if k13 < (↑next9.length : Int) then
       code_Kraft.l25 k letters0 (Go.IntKind.i64.wrap (k13 - 1)) x51 x52 sizes3_0 l4 (next9.set k13.toNat (Int.ofNat 0)) x50
       else none
      else none
     else
      if 0 ≤ k13 then
       if 0 ≤ k13 then
       if k13 < (↑next9.length : Int) then
        if 0 ≤ k13 then
         if k13 < (↑next9.length : Int) then
          code_Kraft.j31 k letters0 (decide (0 ≤ k13)) x51 x52 sizes3_0 l4 (next9.set k13.toNat (Go.IntKind.i64.wrap (next9.getD k13.toNat (Int.ofNat 0) + 1))) x50
          else none
         else none
        else none
       else none
      else
       code_Kraft.j31 k letters0 (decide (0 ≤ k13)) x51 x52 sizes3_0 l4 next9 x50
    else none
   else none
  else
   if 0 ≤ k13 then
    if 0 ≤ k13 then
    if k13 < (↑next9.length : Int) then
     if 0 ≤ k13 then
      if k13 < (↑next9.length : Int) then
       code_Kraft.j31 k letters0 (decide (0 ≤ k13)) x51 x52 sizes3_0 l4 (next9.set k13.toNat (Go.IntKind.i64.wrap (next9.getD k13.toNat (Int.ofNat 0) + 1))) x50
       else none
      else none
     else none
    else none
   else
    code_Kraft.j31 k letters0 (decide (0 ≤ k13)) x51 x52 sizes3_0 l4 next9 x50
def code_Kraft.j31 : Nat → Int → Bool → Int → Int → List (Int) → List (List (Int)) → List (Int) → List (Int) → Option (Bool × Int × List (List Int))
 | 0, _, _, _, _, _, _, _, _ => none
 | k + 1, letters0, ok10, x51, x52, sizes3_0, l4, next9, x50 =>
  code_Kraft.l17 k letters0 ok10 x51 (Go.IntKind.i64.wrap (x52 + 1)) sizes3_0 l4 next9 x50
end
def code_Kraft.f (k : Nat) (letters0 : Int) (sizes1 : List (Int)) : Option (Bool × Int × List (List Int)) :=
 if letters0 < 1 then
  some (false, 2, [])
 else
  if 4 < letters0 then
   some (false, 2, [])
  else
   if (↑sizes1.length : Int) < 1 then
    some (false, 1, [])
   else
    if 20 < (↑sizes1.length : Int) then
     some (false, 1, [])
    else
     (slices_ContainsFunc___int_int_.f k sizes1).bind fun r_5 =>
      if r_5 = true then
       some (false, 2, [])
      else
       if 0 ≤ (↑sizes1.length : Int) then
       if (↑sizes1.length : Int) ≤ (↑sizes1.length : Int) then
        if (↑sizes1.length : Int) * ((↑8 : Int) + 1) ≤ 281474976710656 then
         code_Kraft.l9 k letters0 ((↑(List.replicate (↑sizes1.length : Int).toNat (Int.ofNat 0)).length : Int)) 0 sizes1 (List.replicate (↑sizes1.length : Int).toNat (Int.ofNat 0))
         else none
        else none
       else none

noncomputable def code_Kraft.body : Code := fnBody Try.f65
def code_Kraft.ti : Tm := ⟨[(0, .p (.int .i64)), (1, .p (.slice (.int .i64)))], []⟩
def code_Kraft.to : Tm := ⟨[(0, .own 0), (1, .p .bool), (2, .p (.int .i64))], [.own (.slice (.int .i64))]⟩
def code_Kraft.rs (r : Bool × Int × (List (List Int))) : List Dat := [⟨.bool, r.1⟩, ⟨(.int .i64), r.2.1⟩, ⟨(.slice (.slice (.int .i64))), r.2.2⟩]
def code_Kraft.out (ds : List Dat) : Option (Bool × Int × (List (List Int))) := pop .bool ds fun x0 ds => pop (.int .i64) ds fun x1 ds => pop (.slice (.slice (.int .i64))) ds fun x2 ds => popN ds (some (x0, x1, x2))
def code_Kraft.c (k : Nat) (ds : List Dat) : Option (Bool × Int × (List (List Int))) := pop (.int .i64) ds fun x0 ds => pop (.slice (.int .i64)) ds fun x1 ds => popN ds (code_Kraft.f k x0 x1)
def code_Kraft.g : Nat → List Dat → Option (Bool × Int × (List (List Int)))
 | 0, _ => none
 | k + 1, ds => code_Kraft.c k ds
def code_Kraft.env (k : Nat) : Nat → List SV → List Chunk → KT (Bool × Int × (List (List Int))) → Option (Bool × Int × (List (List Int))) := (envC 131 2 slices_SortStableFunc___int_int_.ti slices_SortStableFunc___int_int_.to (fun ds K => pop (.slice (.int .i64)) ds fun x0 ds => pop (.slice (.int .i64)) ds fun x1 ds => popN ds ((slices_SortStableFunc___int_int_.f k x0 x1).bind fun r => K (slices_SortStableFunc___int_int_.rs r))) (envC 74 1 slices_Clone___int_int_.ti slices_Clone___int_int_.to (fun ds K => pop (.slice (.int .i64)) ds fun x0 ds => popN ds ((slices_Clone___int_int_.f k x0).bind fun r => K (slices_Clone___int_int_.rs r))) (envC 99 2 slices_ContainsFunc___int_int_.ti slices_ContainsFunc___int_int_.to (fun ds K => pop (.slice (.int .i64)) ds fun x0 ds => popN ds ((slices_ContainsFunc___int_int_.f k x0).bind fun r => K (slices_ContainsFunc___int_int_.rs r))) env0)))
def code_Kraft.t19 : Tm := ⟨[(0, .p (.int .i64)), (3, .ptr 0 0), (7, .own 1), (34, .p (.int .i64)), (35, .p (.int .i64))], [.box [.p (.slice (.int .i64))] 23, .own (.int .i64)]⟩
def code_Kraft.c19 (k : Nat) (ds : List Dat) : Option (Bool × Int × (List (List Int))) := pop (.int .i64) ds fun x0 ds => pop (.int .i64) ds fun x1 ds => pop (.int .i64) ds fun x2 ds => pop (.slice (.int .i64)) ds fun x3 ds => pop (.slice (.int .i64)) ds fun x4 ds => popN ds (code_Kraft.l9 k x0 x1 x2 x3 x4)
def code_Kraft.t35 : Tm := ⟨[(0, .p (.int .i64)), (3, .ptr 0 0), (4, .own 1), (9, .own 2), (10, .p .bool), (50, .own 3), (51, .p (.int .i64)), (52, .p (.int .i64))], [.box [.p (.slice (.int .i64))] 23, .own (.slice (.int .i64)), .own (.int .i64), .own (.int .i64)]⟩
def code_Kraft.c35 (k : Nat) (ds : List Dat) : Option (Bool × Int × (List (List Int))) := pop (.int .i64) ds fun x0 ds => pop .bool ds fun x1 ds => pop (.int .i64) ds fun x2 ds => pop (.int .i64) ds fun x3 ds => pop (.slice (.int .i64)) ds fun x4 ds => pop (.slice (.slice (.int .i64))) ds fun x5 ds => pop (.slice (.int .i64)) ds fun x6 ds => pop (.slice (.int .i64)) ds fun x7 ds => popN ds (code_Kraft.l17 k x0 x1 x2 x3 x4 x5 x6 x7)
def code_Kraft.t43 : Tm := ⟨[(0, .p (.int .i64)), (3, .ptr 0 0), (4, .own 1), (9, .own 2), (12, .p (.int .i64)), (50, .own 3), (51, .p (.int .i64)), (52, .p (.int .i64))], [.box [.p (.slice (.int .i64))] 23, .own (.slice (.int .i64)), .own (.int .i64), .own (.int .i64)]⟩
def code_Kraft.c43 (k : Nat) (ds : List Dat) : Option (Bool × Int × (List (List Int))) := pop (.int .i64) ds fun x0 ds => pop (.int .i64) ds fun x1 ds => pop (.int .i64) ds fun x2 ds => pop (.int .i64) ds fun x3 ds => pop (.slice (.int .i64)) ds fun x4 ds => pop (.slice (.slice (.int .i64))) ds fun x5 ds => pop (.slice (.int .i64)) ds fun x6 ds => pop (.slice (.int .i64)) ds fun x7 ds => popN ds (code_Kraft.l21 k x0 x1 x2 x3 x4 x5 x6 x7)
def code_Kraft.t51 : Tm := ⟨[(0, .p (.int .i64)), (3, .ptr 0 0), (4, .own 1), (9, .own 2), (13, .p (.int .i64)), (50, .own 3), (51, .p (.int .i64)), (52, .p (.int .i64))], [.box [.p (.slice (.int .i64))] 23, .own (.slice (.int .i64)), .own (.int .i64), .own (.int .i64)]⟩
def code_Kraft.c51 (k : Nat) (ds : List Dat) : Option (Bool × Int × (List (List Int))) := pop (.int .i64) ds fun x0 ds => pop (.int .i64) ds fun x1 ds => pop (.int .i64) ds fun x2 ds => pop (.int .i64) ds fun x3 ds => pop (.slice (.int .i64)) ds fun x4 ds => pop (.slice (.slice (.int .i64))) ds fun x5 ds => pop (.slice (.int .i64)) ds fun x6 ds => pop (.slice (.int .i64)) ds fun x7 ds => popN ds (code_Kraft.l25 k x0 x1 x2 x3 x4 x5 x6 x7)
def code_Kraft.t62 : Tm := ⟨[(0, .p (.int .i64)), (3, .ptr 0 0), (4, .own 1), (9, .own 2), (10, .p .bool), (50, .own 3), (51, .p (.int .i64)), (52, .p (.int .i64))], [.box [.p (.slice (.int .i64))] 23, .own (.slice (.int .i64)), .own (.int .i64), .own (.int .i64)]⟩
def code_Kraft.c62 (k : Nat) (ds : List Dat) : Option (Bool × Int × (List (List Int))) := pop (.int .i64) ds fun x0 ds => pop .bool ds fun x1 ds => pop (.int .i64) ds fun x2 ds => pop (.int .i64) ds fun x3 ds => pop (.slice (.int .i64)) ds fun x4 ds => pop (.slice (.slice (.int .i64))) ds fun x5 ds => pop (.slice (.int .i64)) ds fun x6 ds => pop (.slice (.int .i64)) ds fun x7 ds => popN ds (code_Kraft.j31 k x0 x1 x2 x3 x4 x5 x6 x7)
def code_Kraft.tbl : List (Nat × Tm × (Nat → List Dat → Option (Bool × Int × (List (List Int))))) := [(19, code_Kraft.t19, code_Kraft.c19), (35, code_Kraft.t35, code_Kraft.c35), (43, code_Kraft.t43, code_Kraft.c43), (51, code_Kraft.t51, code_Kraft.c51), (62, code_Kraft.t62, code_Kraft.c62)]
noncomputable abbrev code_Kraft.R (k : Nat) := run T (code_Kraft.env k) Try.f65.ntmps (cutE 0 code_Kraft.tbl k) (finE 0 code_Kraft.to code_Kraft.out) (fnRes Try.f65) [31] 100000 true
theorem code_Kraft.e19 (k : Nat) (x0 : Int) (x1 : Int) (x2 : Int) (x3 : (List Int)) (x4 : (List Int)) : code_Kraft.l9 (k + 1) x0 x1 x2 x3 x4 = code_Kraft.R k (start (stackOf 19 code_Kraft.body)) (code_Kraft.t19.fill [⟨(.int .i64), x0⟩, ⟨(.int .i64), x1⟩, ⟨(.int .i64), x2⟩, ⟨(.slice (.int .i64)), x3⟩, ⟨(.slice (.int .i64)), x4⟩]) := by kernel_rfl
theorem code_Kraft.s19 : stackAt 19 code_Kraft.body [] = some (stackOf 19 code_Kraft.body) := by kernel_rfl
theorem code_Kraft.h19 (k : Nat) (ds : List Dat) (r : Bool × Int × (List (List Int))) (h : code_Kraft.c19 k ds = some r) : ∃ k', k' < k ∧ ∃ s, stackAt 19 code_Kraft.body [] = some s ∧ code_Kraft.R k' (start s) (code_Kraft.t19.fill ds) = some r := by
  unfold code_Kraft.c19 at h
  obtain ⟨x0, d0, rfl, h0⟩ := pop_some h
  obtain ⟨x1, d1, rfl, h1⟩ := pop_some h0
  obtain ⟨x2, d2, rfl, h2⟩ := pop_some h1
  obtain ⟨x3, d3, rfl, h3⟩ := pop_some h2
  obtain ⟨x4, d4, rfl, h4⟩ := pop_some h3
  obtain ⟨rfl, g⟩ := popN_some h4
  cases k with
  | zero => cases (show none = some r from g)
  | succ k => exact ⟨k, Nat.lt_succ_self k, _, code_Kraft.s19, (code_Kraft.e19 k x0 x1 x2 x3 x4).symm.trans g⟩
theorem code_Kraft.e35 (k : Nat) (x0 : Int) (x1 : Bool) (x2 : Int) (x3 : Int) (x4 : (List Int)) (x5 : (List (List Int))) (x6 : (List Int)) (x7 : (List Int)) : code_Kraft.l17 (k + 1) x0 x1 x2 x3 x4 x5 x6 x7 = code_Kraft.R k (start (stackOf 35 code_Kraft.body)) (code_Kraft.t35.fill [⟨(.int .i64), x0⟩, ⟨.bool, x1⟩, ⟨(.int .i64), x2⟩, ⟨(.int .i64), x3⟩, ⟨(.slice (.int .i64)), x4⟩, ⟨(.slice (.slice (.int .i64))), x5⟩, ⟨(.slice (.int .i64)), x6⟩, ⟨(.slice (.int .i64)), x7⟩]) := by kernel_rfl
theorem code_Kraft.s35 : stackAt 35 code_Kraft.body [] = some (stackOf 35 code_Kraft.body) := by kernel_rfl
theorem code_Kraft.h35 (k : Nat) (ds : List Dat) (r : Bool × Int × (List (List Int))) (h : code_Kraft.c35 k ds = some r) : ∃ k', k' < k ∧ ∃ s, stackAt 35 code_Kraft.body [] = some s ∧ code_Kraft.R k' (start s) (code_Kraft.t35.fill ds) = some r := by
  unfold code_Kraft.c35 at h
  obtain ⟨x0, d0, rfl, h0⟩ := pop_some h
  obtain ⟨x1, d1, rfl, h1⟩ := pop_some h0
  obtain ⟨x2, d2, rfl, h2⟩ := pop_some h1
  obtain ⟨x3, d3, rfl, h3⟩ := pop_some h2
  obtain ⟨x4, d4, rfl, h4⟩ := pop_some h3
  obtain ⟨x5, d5, rfl, h5⟩ := pop_some h4
  obtain ⟨x6, d6, rfl, h6⟩ := pop_some h5
  obtain ⟨x7, d7, rfl, h7⟩ := pop_some h6
  obtain ⟨rfl, g⟩ := popN_some h7
  cases k with
  | zero => cases (show none = some r from g)
  | succ k => exact ⟨k, Nat.lt_succ_self k, _, code_Kraft.s35, (code_Kraft.e35 k x0 x1 x2 x3 x4 x5 x6 x7).symm.trans g⟩
theorem code_Kraft.e43 (k : Nat) (x0 : Int) (x1 : Int) (x2 : Int) (x3 : Int) (x4 : (List Int)) (x5 : (List (List Int))) (x6 : (List Int)) (x7 : (List Int)) : code_Kraft.l21 (k + 1) x0 x1 x2 x3 x4 x5 x6 x7 = code_Kraft.R k (start (stackOf 43 code_Kraft.body)) (code_Kraft.t43.fill [⟨(.int .i64), x0⟩, ⟨(.int .i64), x1⟩, ⟨(.int .i64), x2⟩, ⟨(.int .i64), x3⟩, ⟨(.slice (.int .i64)), x4⟩, ⟨(.slice (.slice (.int .i64))), x5⟩, ⟨(.slice (.int .i64)), x6⟩, ⟨(.slice (.int .i64)), x7⟩]) := by kernel_rfl
theorem code_Kraft.s43 : stackAt 43 code_Kraft.body [] = some (stackOf 43 code_Kraft.body) := by kernel_rfl
theorem code_Kraft.h43 (k : Nat) (ds : List Dat) (r : Bool × Int × (List (List Int))) (h : code_Kraft.c43 k ds = some r) : ∃ k', k' < k ∧ ∃ s, stackAt 43 code_Kraft.body [] = some s ∧ code_Kraft.R k' (start s) (code_Kraft.t43.fill ds) = some r := by
  unfold code_Kraft.c43 at h
  obtain ⟨x0, d0, rfl, h0⟩ := pop_some h
  obtain ⟨x1, d1, rfl, h1⟩ := pop_some h0
  obtain ⟨x2, d2, rfl, h2⟩ := pop_some h1
  obtain ⟨x3, d3, rfl, h3⟩ := pop_some h2
  obtain ⟨x4, d4, rfl, h4⟩ := pop_some h3
  obtain ⟨x5, d5, rfl, h5⟩ := pop_some h4
  obtain ⟨x6, d6, rfl, h6⟩ := pop_some h5
  obtain ⟨x7, d7, rfl, h7⟩ := pop_some h6
  obtain ⟨rfl, g⟩ := popN_some h7
  cases k with
  | zero => cases (show none = some r from g)
  | succ k => exact ⟨k, Nat.lt_succ_self k, _, code_Kraft.s43, (code_Kraft.e43 k x0 x1 x2 x3 x4 x5 x6 x7).symm.trans g⟩
theorem code_Kraft.e51 (k : Nat) (x0 : Int) (x1 : Int) (x2 : Int) (x3 : Int) (x4 : (List Int)) (x5 : (List (List Int))) (x6 : (List Int)) (x7 : (List Int)) : code_Kraft.l25 (k + 1) x0 x1 x2 x3 x4 x5 x6 x7 = code_Kraft.R k (start (stackOf 51 code_Kraft.body)) (code_Kraft.t51.fill [⟨(.int .i64), x0⟩, ⟨(.int .i64), x1⟩, ⟨(.int .i64), x2⟩, ⟨(.int .i64), x3⟩, ⟨(.slice (.int .i64)), x4⟩, ⟨(.slice (.slice (.int .i64))), x5⟩, ⟨(.slice (.int .i64)), x6⟩, ⟨(.slice (.int .i64)), x7⟩]) := by kernel_rfl
theorem code_Kraft.s51 : stackAt 51 code_Kraft.body [] = some (stackOf 51 code_Kraft.body) := by kernel_rfl
theorem code_Kraft.h51 (k : Nat) (ds : List Dat) (r : Bool × Int × (List (List Int))) (h : code_Kraft.c51 k ds = some r) : ∃ k', k' < k ∧ ∃ s, stackAt 51 code_Kraft.body [] = some s ∧ code_Kraft.R k' (start s) (code_Kraft.t51.fill ds) = some r := by
  unfold code_Kraft.c51 at h
  obtain ⟨x0, d0, rfl, h0⟩ := pop_some h
  obtain ⟨x1, d1, rfl, h1⟩ := pop_some h0
  obtain ⟨x2, d2, rfl, h2⟩ := pop_some h1
  obtain ⟨x3, d3, rfl, h3⟩ := pop_some h2
  obtain ⟨x4, d4, rfl, h4⟩ := pop_some h3
  obtain ⟨x5, d5, rfl, h5⟩ := pop_some h4
  obtain ⟨x6, d6, rfl, h6⟩ := pop_some h5
  obtain ⟨x7, d7, rfl, h7⟩ := pop_some h6
  obtain ⟨rfl, g⟩ := popN_some h7
  cases k with
  | zero => cases (show none = some r from g)
  | succ k => exact ⟨k, Nat.lt_succ_self k, _, code_Kraft.s51, (code_Kraft.e51 k x0 x1 x2 x3 x4 x5 x6 x7).symm.trans g⟩
theorem code_Kraft.e62 (k : Nat) (x0 : Int) (x1 : Bool) (x2 : Int) (x3 : Int) (x4 : (List Int)) (x5 : (List (List Int))) (x6 : (List Int)) (x7 : (List Int)) : code_Kraft.j31 (k + 1) x0 x1 x2 x3 x4 x5 x6 x7 = code_Kraft.R k (start (stackOf 62 code_Kraft.body)) (code_Kraft.t62.fill [⟨(.int .i64), x0⟩, ⟨.bool, x1⟩, ⟨(.int .i64), x2⟩, ⟨(.int .i64), x3⟩, ⟨(.slice (.int .i64)), x4⟩, ⟨(.slice (.slice (.int .i64))), x5⟩, ⟨(.slice (.int .i64)), x6⟩, ⟨(.slice (.int .i64)), x7⟩]) := by kernel_rfl
theorem code_Kraft.s62 : stackAt 62 code_Kraft.body [] = some (stackOf 62 code_Kraft.body) := by kernel_rfl
theorem code_Kraft.h62 (k : Nat) (ds : List Dat) (r : Bool × Int × (List (List Int))) (h : code_Kraft.c62 k ds = some r) : ∃ k', k' < k ∧ ∃ s, stackAt 62 code_Kraft.body [] = some s ∧ code_Kraft.R k' (start s) (code_Kraft.t62.fill ds) = some r := by
  unfold code_Kraft.c62 at h
  obtain ⟨x0, d0, rfl, h0⟩ := pop_some h
  obtain ⟨x1, d1, rfl, h1⟩ := pop_some h0
  obtain ⟨x2, d2, rfl, h2⟩ := pop_some h1
  obtain ⟨x3, d3, rfl, h3⟩ := pop_some h2
  obtain ⟨x4, d4, rfl, h4⟩ := pop_some h3
  obtain ⟨x5, d5, rfl, h5⟩ := pop_some h4
  obtain ⟨x6, d6, rfl, h6⟩ := pop_some h5
  obtain ⟨x7, d7, rfl, h7⟩ := pop_some h6
  obtain ⟨rfl, g⟩ := popN_some h7
  cases k with
  | zero => cases (show none = some r from g)
  | succ k => exact ⟨k, Nat.lt_succ_self k, _, code_Kraft.s62, (code_Kraft.e62 k x0 x1 x2 x3 x4 x5 x6 x7).symm.trans g⟩
theorem code_Kraft.e (k : Nat) (x0 : Int) (x1 : (List Int)) : code_Kraft.f k x0 x1 = code_Kraft.R k ([.code code_Kraft.body]) (code_Kraft.ti.fill [⟨(.int .i64), x0⟩, ⟨(.slice (.int .i64)), x1⟩]) := by kernel_rfl
theorem code_Kraft.h (k : Nat) (ds : List Dat) (r : Bool × Int × (List (List Int))) (h : code_Kraft.g k ds = some r) : ∃ k', k' < k ∧ code_Kraft.R k' ([.code code_Kraft.body]) (code_Kraft.ti.fill ds) = some r := by
  cases k with
  | zero => cases (show none = some r from h)
  | succ k =>
  replace h : code_Kraft.c k ds = some r := h
  unfold code_Kraft.c at h
  obtain ⟨x0, d0, rfl, h0⟩ := pop_some h
  obtain ⟨x1, d1, rfl, h1⟩ := pop_some h0
  obtain ⟨rfl, g⟩ := popN_some h1
  exact ⟨k, Nat.lt_succ_self k, (code_Kraft.e k x0 x1).symm.trans g⟩
theorem code_Kraft.o (ds : List Dat) (r : Bool × Int × (List (List Int))) (h : code_Kraft.out ds = some r) : ds = code_Kraft.rs r := by
  unfold code_Kraft.out at h
  obtain ⟨x0, d0, rfl, h0⟩ := pop_some h
  obtain ⟨x1, d1, rfl, h1⟩ := pop_some h0
  obtain ⟨x2, d2, rfl, h2⟩ := pop_some h1
  obtain ⟨rfl, g⟩ := popN_some h2
  cases g
  rfl
theorem code_Kraft.fn : FnOk Try.prog 65 Try.f65 code_Kraft.body Try.f65.ntmps 2 (fnRes Try.f65) :=
  fnOk_of (by kernel_rfl) (by kernel_rfl) (by kernel_rfl) (by kernel_rfl)
theorem code_Kraft.con' : ∀ k ds r, code_Kraft.g k ds = some r → Con Try.prog 65 2 code_Kraft.ti code_Kraft.to ds (code_Kraft.rs r) :=
  fun_ok (T := T) T_ok mixed code_Kraft.fn (env := code_Kraft.env) (tbl := code_Kraft.tbl) (gOut := code_Kraft.out) (nin := 0) (cuts := [31]) (fuel := 100000) rfl (by kernel_rfl) (by kernel_rfl) (by kernel_rfl) (fun x hx => by
    simp only [code_Kraft.tbl, List.mem_cons, List.not_mem_nil, or_false] at hx
    rcases hx with rfl | rfl | rfl | rfl | rfl
    · exact code_Kraft.h19
    · exact code_Kraft.h35
    · exact code_Kraft.h43
    · exact code_Kraft.h51
    · exact code_Kraft.h62
) code_Kraft.o code_Kraft.h (fun k _ => by unfold code_Kraft.env; exact (envC_ok (fun ds K r h => by
    obtain ⟨x0, d0, rfl, h0⟩ := pop_some h
    obtain ⟨x1, d1, rfl, h1⟩ := pop_some h0
    obtain ⟨rfl, g⟩ := popN_some h1
    obtain ⟨r1, h1, h2⟩ := bind_some g
    exact ⟨_, h2, slices_SortStableFunc___int_int_.con k _ h1⟩) (envC_ok (fun ds K r h => by
    obtain ⟨x0, d0, rfl, h0⟩ := pop_some h
    obtain ⟨rfl, g⟩ := popN_some h0
    obtain ⟨r1, h1, h2⟩ := bind_some g
    exact ⟨_, h2, slices_Clone___int_int_.con k _ h1⟩) (envC_ok (fun ds K r h => by
    obtain ⟨x0, d0, rfl, h0⟩ := pop_some h
    obtain ⟨rfl, g⟩ := popN_some h0
    obtain ⟨r1, h1, h2⟩ := bind_some g
    exact ⟨_, h2, slices_ContainsFunc___int_int_.con k _ h1⟩) env0_ok))))
theorem code_Kraft.con (k : Nat) {x0 : Int} {x1 : (List Int)} (r : Bool × Int × (List (List Int))) (h : code_Kraft.f k x0 x1 = some r) : Con Try.prog 65 2 code_Kraft.ti code_Kraft.to [⟨(.int .i64), x0⟩, ⟨(.slice (.int .i64)), x1⟩] (code_Kraft.rs r) :=
  code_Kraft.con' (k + 1) _ r (by show code_Kraft.c k _ = some r; unfold code_Kraft.c; simp only [pop_self, popN]; exact h)
mutual
def evermoreref24_Kraft.l3 : Nat → Int → List (Int) → Int → Int → Option (Bool)
 | 0, _, _, _, _ => none
 | k + 1, letters0, sizes1, room5, size6 =>
  if size6 ≤ 30 then
   evermoreref24_Kraft.l6 k letters0 sizes1 room5 size6 0
  else
   some (true)
def evermoreref24_Kraft.l6 : Nat → Int → List (Int) → Int → Int → Int → Option (Bool)
 | 0, _, _, _, _, _ => none
 | k + 1, letters0, sizes1, room5, size6, i7 =>
  if i7 < (↑sizes1.length : Int) then
   if 0 ≤ i7 then
   if i7 < (↑sizes1.length : Int) then
    if Go.Proofs.YtmagglebkbiffaaSx.rd (Int.ofNat 0) sizes1 i7 = size6 then
      evermoreref24_Kraft.j7 k letters0 sizes1 (Go.IntKind.i64.wrap (room5 - 1)) size6 i7
     else
      evermoreref24_Kraft.j7 k letters0 sizes1 room5 size6 i7
    else none
   else none
  else
   if room5 < 0 then
    some (false)
   else
    if 100 < Go.IntKind.i64.wrap (room5 * letters0) then
     evermoreref24_Kraft.j4 k letters0 sizes1 100 size6
    else
     evermoreref24_Kraft.j4 k letters0 sizes1 (Go.IntKind.i64.wrap (room5 * letters0)) size6
def evermoreref24_Kraft.j7 : Nat → Int → List (Int) → Int → Int → Int → Option (Bool)
 | 0, _, _, _, _, _ => none
 | k + 1, letters0, sizes1, room5, size6, i7 =>
  evermoreref24_Kraft.l6 k letters0 sizes1 room5 size6 (Go.IntKind.i64.wrap (i7 + 1))
def evermoreref24_Kraft.j4 : Nat → Int → List (Int) → Int → Int → Option (Bool)
 | 0, _, _, _, _ => none
 | k + 1, letters0, sizes1, room5, size6 =>
  evermoreref24_Kraft.l3 k letters0 sizes1 room5 (Go.IntKind.i64.wrap (size6 + 1))
end
def evermoreref24_Kraft.f (k : Nat) (letters0 : Int) (sizes1 : List (Int)) : Option (Bool) :=
 evermoreref24_Kraft.l3 k letters0 sizes1 1 0

noncomputable def evermoreref24_Kraft.body : Code := fnBody Try.f66
def evermoreref24_Kraft.ti : Tm := ⟨[(0, .p (.int .i64)), (1, .p (.slice (.int .i64)))], []⟩
def evermoreref24_Kraft.to : Tm := ⟨[(0, .p .bool)], []⟩
def evermoreref24_Kraft.rs (r : Bool) : List Dat := [⟨.bool, r⟩]
def evermoreref24_Kraft.out (ds : List Dat) : Option (Bool) := pop .bool ds fun x0 ds => popN ds (some (x0))
def evermoreref24_Kraft.c (k : Nat) (ds : List Dat) : Option (Bool) := pop (.int .i64) ds fun x0 ds => pop (.slice (.int .i64)) ds fun x1 ds => popN ds (evermoreref24_Kraft.f k x0 x1)
def evermoreref24_Kraft.g : Nat → List Dat → Option (Bool)
 | 0, _ => none
 | k + 1, ds => evermoreref24_Kraft.c k ds
def evermoreref24_Kraft.env (k : Nat) : Nat → List SV → List Chunk → KT (Bool) → Option (Bool) := env0
def evermoreref24_Kraft.t7 : Tm := ⟨[(0, .p (.int .i64)), (1, .p (.slice (.int .i64))), (5, .p (.int .i64)), (6, .p (.int .i64))], []⟩
def evermoreref24_Kraft.c7 (k : Nat) (ds : List Dat) : Option (Bool) := pop (.int .i64) ds fun x0 ds => pop (.slice (.int .i64)) ds fun x1 ds => pop (.int .i64) ds fun x2 ds => pop (.int .i64) ds fun x3 ds => popN ds (evermoreref24_Kraft.l3 k x0 x1 x2 x3)
def evermoreref24_Kraft.t13 : Tm := ⟨[(0, .p (.int .i64)), (1, .p (.slice (.int .i64))), (5, .p (.int .i64)), (6, .p (.int .i64)), (7, .p (.int .i64))], []⟩
def evermoreref24_Kraft.c13 (k : Nat) (ds : List Dat) : Option (Bool) := pop (.int .i64) ds fun x0 ds => pop (.slice (.int .i64)) ds fun x1 ds => pop (.int .i64) ds fun x2 ds => pop (.int .i64) ds fun x3 ds => pop (.int .i64) ds fun x4 ds => popN ds (evermoreref24_Kraft.l6 k x0 x1 x2 x3 x4)
def evermoreref24_Kraft.t14 : Tm := ⟨[(0, .p (.int .i64)), (1, .p (.slice (.int .i64))), (5, .p (.int .i64)), (6, .p (.int .i64)), (7, .p (.int .i64))], []⟩
def evermoreref24_Kraft.c14 (k : Nat) (ds : List Dat) : Option (Bool) := pop (.int .i64) ds fun x0 ds => pop (.slice (.int .i64)) ds fun x1 ds => pop (.int .i64) ds fun x2 ds => pop (.int .i64) ds fun x3 ds => pop (.int .i64) ds fun x4 ds => popN ds (evermoreref24_Kraft.j7 k x0 x1 x2 x3 x4)
def evermoreref24_Kraft.t8 : Tm := ⟨[(0, .p (.int .i64)), (1, .p (.slice (.int .i64))), (5, .p (.int .i64)), (6, .p (.int .i64))], []⟩
def evermoreref24_Kraft.c8 (k : Nat) (ds : List Dat) : Option (Bool) := pop (.int .i64) ds fun x0 ds => pop (.slice (.int .i64)) ds fun x1 ds => pop (.int .i64) ds fun x2 ds => pop (.int .i64) ds fun x3 ds => popN ds (evermoreref24_Kraft.j4 k x0 x1 x2 x3)
def evermoreref24_Kraft.tbl : List (Nat × Tm × (Nat → List Dat → Option (Bool))) := [(7, evermoreref24_Kraft.t7, evermoreref24_Kraft.c7), (13, evermoreref24_Kraft.t13, evermoreref24_Kraft.c13), (14, evermoreref24_Kraft.t14, evermoreref24_Kraft.c14), (8, evermoreref24_Kraft.t8, evermoreref24_Kraft.c8)]
noncomputable abbrev evermoreref24_Kraft.R (k : Nat) := run T (evermoreref24_Kraft.env k) Try.f66.ntmps (cutE 0 evermoreref24_Kraft.tbl k) (finE 0 evermoreref24_Kraft.to evermoreref24_Kraft.out) (fnRes Try.f66) [4, 7] 100000 true
theorem evermoreref24_Kraft.e7 (k : Nat) (x0 : Int) (x1 : (List Int)) (x2 : Int) (x3 : Int) : evermoreref24_Kraft.l3 (k + 1) x0 x1 x2 x3 = evermoreref24_Kraft.R k (start (stackOf 7 evermoreref24_Kraft.body)) (evermoreref24_Kraft.t7.fill [⟨(.int .i64), x0⟩, ⟨(.slice (.int .i64)), x1⟩, ⟨(.int .i64), x2⟩, ⟨(.int .i64), x3⟩]) := by kernel_rfl
theorem evermoreref24_Kraft.s7 : stackAt 7 evermoreref24_Kraft.body [] = some (stackOf 7 evermoreref24_Kraft.body) := by kernel_rfl
theorem evermoreref24_Kraft.h7 (k : Nat) (ds : List Dat) (r : Bool) (h : evermoreref24_Kraft.c7 k ds = some r) : ∃ k', k' < k ∧ ∃ s, stackAt 7 evermoreref24_Kraft.body [] = some s ∧ evermoreref24_Kraft.R k' (start s) (evermoreref24_Kraft.t7.fill ds) = some r := by
  unfold evermoreref24_Kraft.c7 at h
  obtain ⟨x0, d0, rfl, h0⟩ := pop_some h
  obtain ⟨x1, d1, rfl, h1⟩ := pop_some h0
  obtain ⟨x2, d2, rfl, h2⟩ := pop_some h1
  obtain ⟨x3, d3, rfl, h3⟩ := pop_some h2
  obtain ⟨rfl, g⟩ := popN_some h3
  cases k with
  | zero => cases (show none = some r from g)
  | succ k => exact ⟨k, Nat.lt_succ_self k, _, evermoreref24_Kraft.s7, (evermoreref24_Kraft.e7 k x0 x1 x2 x3).symm.trans g⟩
theorem evermoreref24_Kraft.e13 (k : Nat) (x0 : Int) (x1 : (List Int)) (x2 : Int) (x3 : Int) (x4 : Int) : evermoreref24_Kraft.l6 (k + 1) x0 x1 x2 x3 x4 = evermoreref24_Kraft.R k (start (stackOf 13 evermoreref24_Kraft.body)) (evermoreref24_Kraft.t13.fill [⟨(.int .i64), x0⟩, ⟨(.slice (.int .i64)), x1⟩, ⟨(.int .i64), x2⟩, ⟨(.int .i64), x3⟩, ⟨(.int .i64), x4⟩]) := by kernel_rfl
theorem evermoreref24_Kraft.s13 : stackAt 13 evermoreref24_Kraft.body [] = some (stackOf 13 evermoreref24_Kraft.body) := by kernel_rfl
theorem evermoreref24_Kraft.h13 (k : Nat) (ds : List Dat) (r : Bool) (h : evermoreref24_Kraft.c13 k ds = some r) : ∃ k', k' < k ∧ ∃ s, stackAt 13 evermoreref24_Kraft.body [] = some s ∧ evermoreref24_Kraft.R k' (start s) (evermoreref24_Kraft.t13.fill ds) = some r := by
  unfold evermoreref24_Kraft.c13 at h
  obtain ⟨x0, d0, rfl, h0⟩ := pop_some h
  obtain ⟨x1, d1, rfl, h1⟩ := pop_some h0
  obtain ⟨x2, d2, rfl, h2⟩ := pop_some h1
  obtain ⟨x3, d3, rfl, h3⟩ := pop_some h2
  obtain ⟨x4, d4, rfl, h4⟩ := pop_some h3
  obtain ⟨rfl, g⟩ := popN_some h4
  cases k with
  | zero => cases (show none = some r from g)
  | succ k => exact ⟨k, Nat.lt_succ_self k, _, evermoreref24_Kraft.s13, (evermoreref24_Kraft.e13 k x0 x1 x2 x3 x4).symm.trans g⟩
theorem evermoreref24_Kraft.e14 (k : Nat) (x0 : Int) (x1 : (List Int)) (x2 : Int) (x3 : Int) (x4 : Int) : evermoreref24_Kraft.j7 (k + 1) x0 x1 x2 x3 x4 = evermoreref24_Kraft.R k (start (stackOf 14 evermoreref24_Kraft.body)) (evermoreref24_Kraft.t14.fill [⟨(.int .i64), x0⟩, ⟨(.slice (.int .i64)), x1⟩, ⟨(.int .i64), x2⟩, ⟨(.int .i64), x3⟩, ⟨(.int .i64), x4⟩]) := by kernel_rfl
theorem evermoreref24_Kraft.s14 : stackAt 14 evermoreref24_Kraft.body [] = some (stackOf 14 evermoreref24_Kraft.body) := by kernel_rfl
theorem evermoreref24_Kraft.h14 (k : Nat) (ds : List Dat) (r : Bool) (h : evermoreref24_Kraft.c14 k ds = some r) : ∃ k', k' < k ∧ ∃ s, stackAt 14 evermoreref24_Kraft.body [] = some s ∧ evermoreref24_Kraft.R k' (start s) (evermoreref24_Kraft.t14.fill ds) = some r := by
  unfold evermoreref24_Kraft.c14 at h
  obtain ⟨x0, d0, rfl, h0⟩ := pop_some h
  obtain ⟨x1, d1, rfl, h1⟩ := pop_some h0
  obtain ⟨x2, d2, rfl, h2⟩ := pop_some h1
  obtain ⟨x3, d3, rfl, h3⟩ := pop_some h2
  obtain ⟨x4, d4, rfl, h4⟩ := pop_some h3
  obtain ⟨rfl, g⟩ := popN_some h4
  cases k with
  | zero => cases (show none = some r from g)
  | succ k => exact ⟨k, Nat.lt_succ_self k, _, evermoreref24_Kraft.s14, (evermoreref24_Kraft.e14 k x0 x1 x2 x3 x4).symm.trans g⟩
theorem evermoreref24_Kraft.e8 (k : Nat) (x0 : Int) (x1 : (List Int)) (x2 : Int) (x3 : Int) : evermoreref24_Kraft.j4 (k + 1) x0 x1 x2 x3 = evermoreref24_Kraft.R k (start (stackOf 8 evermoreref24_Kraft.body)) (evermoreref24_Kraft.t8.fill [⟨(.int .i64), x0⟩, ⟨(.slice (.int .i64)), x1⟩, ⟨(.int .i64), x2⟩, ⟨(.int .i64), x3⟩]) := by kernel_rfl
theorem evermoreref24_Kraft.s8 : stackAt 8 evermoreref24_Kraft.body [] = some (stackOf 8 evermoreref24_Kraft.body) := by kernel_rfl
theorem evermoreref24_Kraft.h8 (k : Nat) (ds : List Dat) (r : Bool) (h : evermoreref24_Kraft.c8 k ds = some r) : ∃ k', k' < k ∧ ∃ s, stackAt 8 evermoreref24_Kraft.body [] = some s ∧ evermoreref24_Kraft.R k' (start s) (evermoreref24_Kraft.t8.fill ds) = some r := by
  unfold evermoreref24_Kraft.c8 at h
  obtain ⟨x0, d0, rfl, h0⟩ := pop_some h
  obtain ⟨x1, d1, rfl, h1⟩ := pop_some h0
  obtain ⟨x2, d2, rfl, h2⟩ := pop_some h1
  obtain ⟨x3, d3, rfl, h3⟩ := pop_some h2
  obtain ⟨rfl, g⟩ := popN_some h3
  cases k with
  | zero => cases (show none = some r from g)
  | succ k => exact ⟨k, Nat.lt_succ_self k, _, evermoreref24_Kraft.s8, (evermoreref24_Kraft.e8 k x0 x1 x2 x3).symm.trans g⟩
theorem evermoreref24_Kraft.e (k : Nat) (x0 : Int) (x1 : (List Int)) : evermoreref24_Kraft.f k x0 x1 = evermoreref24_Kraft.R k ([.code evermoreref24_Kraft.body]) (evermoreref24_Kraft.ti.fill [⟨(.int .i64), x0⟩, ⟨(.slice (.int .i64)), x1⟩]) := by kernel_rfl
theorem evermoreref24_Kraft.h (k : Nat) (ds : List Dat) (r : Bool) (h : evermoreref24_Kraft.g k ds = some r) : ∃ k', k' < k ∧ evermoreref24_Kraft.R k' ([.code evermoreref24_Kraft.body]) (evermoreref24_Kraft.ti.fill ds) = some r := by
  cases k with
  | zero => cases (show none = some r from h)
  | succ k =>
  replace h : evermoreref24_Kraft.c k ds = some r := h
  unfold evermoreref24_Kraft.c at h
  obtain ⟨x0, d0, rfl, h0⟩ := pop_some h
  obtain ⟨x1, d1, rfl, h1⟩ := pop_some h0
  obtain ⟨rfl, g⟩ := popN_some h1
  exact ⟨k, Nat.lt_succ_self k, (evermoreref24_Kraft.e k x0 x1).symm.trans g⟩
theorem evermoreref24_Kraft.o (ds : List Dat) (r : Bool) (h : evermoreref24_Kraft.out ds = some r) : ds = evermoreref24_Kraft.rs r := by
  unfold evermoreref24_Kraft.out at h
  obtain ⟨x0, d0, rfl, h0⟩ := pop_some h
  obtain ⟨rfl, g⟩ := popN_some h0
  cases g
  rfl
theorem evermoreref24_Kraft.fn : FnOk Try.prog 66 Try.f66 evermoreref24_Kraft.body Try.f66.ntmps 2 (fnRes Try.f66) :=
  fnOk_of (by kernel_rfl) (by kernel_rfl) (by kernel_rfl) (by kernel_rfl)
theorem evermoreref24_Kraft.con' : ∀ k ds r, evermoreref24_Kraft.g k ds = some r → Con Try.prog 66 2 evermoreref24_Kraft.ti evermoreref24_Kraft.to ds (evermoreref24_Kraft.rs r) :=
  fun_ok (T := T) T_ok mixed evermoreref24_Kraft.fn (env := evermoreref24_Kraft.env) (tbl := evermoreref24_Kraft.tbl) (gOut := evermoreref24_Kraft.out) (nin := 0) (cuts := [4, 7]) (fuel := 100000) rfl (by kernel_rfl) (by kernel_rfl) (by kernel_rfl) (fun x hx => by
    simp only [evermoreref24_Kraft.tbl, List.mem_cons, List.not_mem_nil, or_false] at hx
    rcases hx with rfl | rfl | rfl | rfl
    · exact evermoreref24_Kraft.h7
    · exact evermoreref24_Kraft.h13
    · exact evermoreref24_Kraft.h14
    · exact evermoreref24_Kraft.h8
) evermoreref24_Kraft.o evermoreref24_Kraft.h (fun k _ => by unfold evermoreref24_Kraft.env; exact env0_ok)
theorem evermoreref24_Kraft.con (k : Nat) {x0 : Int} {x1 : (List Int)} (r : Bool) (h : evermoreref24_Kraft.f k x0 x1 = some r) : Con Try.prog 66 2 evermoreref24_Kraft.ti evermoreref24_Kraft.to [⟨(.int .i64), x0⟩, ⟨(.slice (.int .i64)), x1⟩] (evermoreref24_Kraft.rs r) :=
  evermoreref24_Kraft.con' (k + 1) _ r (by show evermoreref24_Kraft.c k _ = some r; unfold evermoreref24_Kraft.c; simp only [pop_self, popN]; exact h)
mutual
def evermoreref1_May.l6 : Nat → Int → List (Int) → Int → Option (Int)
 | 0, _, _, _ => none
 | k + 1, letters0, w1, i5 =>
  if i5 < (↑w1.length : Int) then
   if 0 ≤ i5 then
   if i5 < (↑w1.length : Int) then
    if Go.Proofs.YtmagglebkbiffaaSx.rd (Int.ofNat 0) w1 i5 < 0 then
      some (2)
     else
      if 0 ≤ i5 then
      if i5 < (↑w1.length : Int) then
       if letters0 ≤ Go.Proofs.YtmagglebkbiffaaSx.rd (Int.ofNat 0) w1 i5 then
         some (2)
        else
         evermoreref1_May.l6 k letters0 w1 (Go.IntKind.i64.wrap (i5 + 1))
       else none
      else none
    else none
   else none
  else
   some (0)
end
def evermoreref1_May.f (k : Nat) (letters0 : Int) (w1 : List (Int)) : Option (Int) :=
 if letters0 < 1 then
  some (2)
 else
  if 4 < letters0 then
   some (2)
  else
   if 60 < (↑w1.length : Int) then
    some (1)
   else
    evermoreref1_May.l6 k letters0 w1 0

noncomputable def evermoreref1_May.body : Code := fnBody Try.f19
def evermoreref1_May.ti : Tm := ⟨[(0, .p (.int .i64)), (1, .p (.slice (.int .i64)))], []⟩
def evermoreref1_May.to : Tm := ⟨[(0, .p (.int .i64))], []⟩
def evermoreref1_May.rs (r : Int) : List Dat := [⟨(.int .i64), r⟩]
def evermoreref1_May.out (ds : List Dat) : Option (Int) := pop (.int .i64) ds fun x0 ds => popN ds (some (x0))
def evermoreref1_May.c (k : Nat) (ds : List Dat) : Option (Int) := pop (.int .i64) ds fun x0 ds => pop (.slice (.int .i64)) ds fun x1 ds => popN ds (evermoreref1_May.f k x0 x1)
def evermoreref1_May.g : Nat → List Dat → Option (Int)
 | 0, _ => none
 | k + 1, ds => evermoreref1_May.c k ds
def evermoreref1_May.env (k : Nat) : Nat → List SV → List Chunk → KT (Int) → Option (Int) := env0
def evermoreref1_May.t13 : Tm := ⟨[(0, .p (.int .i64)), (1, .p (.slice (.int .i64))), (5, .p (.int .i64))], []⟩
def evermoreref1_May.c13 (k : Nat) (ds : List Dat) : Option (Int) := pop (.int .i64) ds fun x0 ds => pop (.slice (.int .i64)) ds fun x1 ds => pop (.int .i64) ds fun x2 ds => popN ds (evermoreref1_May.l6 k x0 x1 x2)
def evermoreref1_May.tbl : List (Nat × Tm × (Nat → List Dat → Option (Int))) := [(13, evermoreref1_May.t13, evermoreref1_May.c13)]
noncomputable abbrev evermoreref1_May.R (k : Nat) := run T (evermoreref1_May.env k) Try.f19.ntmps (cutE 0 evermoreref1_May.tbl k) (finE 0 evermoreref1_May.to evermoreref1_May.out) (fnRes Try.f19) [] 100000 true
theorem evermoreref1_May.e13 (k : Nat) (x0 : Int) (x1 : (List Int)) (x2 : Int) : evermoreref1_May.l6 (k + 1) x0 x1 x2 = evermoreref1_May.R k (start (stackOf 13 evermoreref1_May.body)) (evermoreref1_May.t13.fill [⟨(.int .i64), x0⟩, ⟨(.slice (.int .i64)), x1⟩, ⟨(.int .i64), x2⟩]) := by kernel_rfl
theorem evermoreref1_May.s13 : stackAt 13 evermoreref1_May.body [] = some (stackOf 13 evermoreref1_May.body) := by kernel_rfl
theorem evermoreref1_May.h13 (k : Nat) (ds : List Dat) (r : Int) (h : evermoreref1_May.c13 k ds = some r) : ∃ k', k' < k ∧ ∃ s, stackAt 13 evermoreref1_May.body [] = some s ∧ evermoreref1_May.R k' (start s) (evermoreref1_May.t13.fill ds) = some r := by
  unfold evermoreref1_May.c13 at h
  obtain ⟨x0, d0, rfl, h0⟩ := pop_some h
  obtain ⟨x1, d1, rfl, h1⟩ := pop_some h0
  obtain ⟨x2, d2, rfl, h2⟩ := pop_some h1
  obtain ⟨rfl, g⟩ := popN_some h2
  cases k with
  | zero => cases (show none = some r from g)
  | succ k => exact ⟨k, Nat.lt_succ_self k, _, evermoreref1_May.s13, (evermoreref1_May.e13 k x0 x1 x2).symm.trans g⟩
theorem evermoreref1_May.e (k : Nat) (x0 : Int) (x1 : (List Int)) : evermoreref1_May.f k x0 x1 = evermoreref1_May.R k ([.code evermoreref1_May.body]) (evermoreref1_May.ti.fill [⟨(.int .i64), x0⟩, ⟨(.slice (.int .i64)), x1⟩]) := by kernel_rfl
theorem evermoreref1_May.h (k : Nat) (ds : List Dat) (r : Int) (h : evermoreref1_May.g k ds = some r) : ∃ k', k' < k ∧ evermoreref1_May.R k' ([.code evermoreref1_May.body]) (evermoreref1_May.ti.fill ds) = some r := by
  cases k with
  | zero => cases (show none = some r from h)
  | succ k =>
  replace h : evermoreref1_May.c k ds = some r := h
  unfold evermoreref1_May.c at h
  obtain ⟨x0, d0, rfl, h0⟩ := pop_some h
  obtain ⟨x1, d1, rfl, h1⟩ := pop_some h0
  obtain ⟨rfl, g⟩ := popN_some h1
  exact ⟨k, Nat.lt_succ_self k, (evermoreref1_May.e k x0 x1).symm.trans g⟩
theorem evermoreref1_May.o (ds : List Dat) (r : Int) (h : evermoreref1_May.out ds = some r) : ds = evermoreref1_May.rs r := by
  unfold evermoreref1_May.out at h
  obtain ⟨x0, d0, rfl, h0⟩ := pop_some h
  obtain ⟨rfl, g⟩ := popN_some h0
  cases g
  rfl
theorem evermoreref1_May.fn : FnOk Try.prog 19 Try.f19 evermoreref1_May.body Try.f19.ntmps 2 (fnRes Try.f19) :=
  fnOk_of (by kernel_rfl) (by kernel_rfl) (by kernel_rfl) (by kernel_rfl)
theorem evermoreref1_May.con' : ∀ k ds r, evermoreref1_May.g k ds = some r → Con Try.prog 19 2 evermoreref1_May.ti evermoreref1_May.to ds (evermoreref1_May.rs r) :=
  fun_ok (T := T) T_ok mixed evermoreref1_May.fn (env := evermoreref1_May.env) (tbl := evermoreref1_May.tbl) (gOut := evermoreref1_May.out) (nin := 0) (cuts := []) (fuel := 100000) rfl (by kernel_rfl) (by kernel_rfl) (by kernel_rfl) (fun x hx => by
    simp only [evermoreref1_May.tbl, List.mem_cons, List.not_mem_nil, or_false] at hx
    subst hx
    · exact evermoreref1_May.h13
) evermoreref1_May.o evermoreref1_May.h (fun k _ => by unfold evermoreref1_May.env; exact env0_ok)
theorem evermoreref1_May.con (k : Nat) {x0 : Int} {x1 : (List Int)} (r : Int) (h : evermoreref1_May.f k x0 x1 = some r) : Con Try.prog 19 2 evermoreref1_May.ti evermoreref1_May.to [⟨(.int .i64), x0⟩, ⟨(.slice (.int .i64)), x1⟩] (evermoreref1_May.rs r) :=
  evermoreref1_May.con' (k + 1) _ r (by show evermoreref1_May.c k _ = some r; unfold evermoreref1_May.c; simp only [pop_self, popN]; exact h)
mutual
def evermoreref1_Words.l4 : Nat → List (Int) → List (Int) → Int → Option (Bool)
 | 0, _, _, _ => none
 | k + 1, a0, b1, i5 =>
  if i5 < (↑a0.length : Int) then
   if 0 ≤ i5 then
   if i5 < (↑a0.length : Int) then
    if 0 ≤ i5 then
     if i5 < (↑b1.length : Int) then
      if Go.Proofs.YtmagglebkbiffaaSx.rd (Int.ofNat 0) a0 i5 = Go.Proofs.YtmagglebkbiffaaSx.rd (Int.ofNat 0) b1 i5 then
        evermoreref1_Words.l4 k a0 b1 (Go.IntKind.i64.wrap (i5 + 1))
       else
        some (false)
      else none
     else none
    else none
   else none
  else
   some (true)
end
def evermoreref1_Words.f (k : Nat) (a0 : List (Int)) (b1 : List (Int)) : Option (Bool) :=
 if (↑a0.length : Int) = (↑b1.length : Int) then
  evermoreref1_Words.l4 k a0 b1 0
 else
  some (false)

noncomputable def evermoreref1_Words.body : Code := fnBody Try.f25
def evermoreref1_Words.ti : Tm := ⟨[(0, .p (.slice (.int .i64))), (1, .p (.slice (.int .i64)))], []⟩
def evermoreref1_Words.to : Tm := ⟨[(0, .p .bool)], []⟩
def evermoreref1_Words.rs (r : Bool) : List Dat := [⟨.bool, r⟩]
def evermoreref1_Words.out (ds : List Dat) : Option (Bool) := pop .bool ds fun x0 ds => popN ds (some (x0))
def evermoreref1_Words.c (k : Nat) (ds : List Dat) : Option (Bool) := pop (.slice (.int .i64)) ds fun x0 ds => pop (.slice (.int .i64)) ds fun x1 ds => popN ds (evermoreref1_Words.f k x0 x1)
def evermoreref1_Words.g : Nat → List Dat → Option (Bool)
 | 0, _ => none
 | k + 1, ds => evermoreref1_Words.c k ds
def evermoreref1_Words.env (k : Nat) : Nat → List SV → List Chunk → KT (Bool) → Option (Bool) := env0
def evermoreref1_Words.t9 : Tm := ⟨[(0, .p (.slice (.int .i64))), (1, .p (.slice (.int .i64))), (5, .p (.int .i64))], []⟩
def evermoreref1_Words.c9 (k : Nat) (ds : List Dat) : Option (Bool) := pop (.slice (.int .i64)) ds fun x0 ds => pop (.slice (.int .i64)) ds fun x1 ds => pop (.int .i64) ds fun x2 ds => popN ds (evermoreref1_Words.l4 k x0 x1 x2)
def evermoreref1_Words.tbl : List (Nat × Tm × (Nat → List Dat → Option (Bool))) := [(9, evermoreref1_Words.t9, evermoreref1_Words.c9)]
noncomputable abbrev evermoreref1_Words.R (k : Nat) := run T (evermoreref1_Words.env k) Try.f25.ntmps (cutE 0 evermoreref1_Words.tbl k) (finE 0 evermoreref1_Words.to evermoreref1_Words.out) (fnRes Try.f25) [] 100000 true
theorem evermoreref1_Words.e9 (k : Nat) (x0 : (List Int)) (x1 : (List Int)) (x2 : Int) : evermoreref1_Words.l4 (k + 1) x0 x1 x2 = evermoreref1_Words.R k (start (stackOf 9 evermoreref1_Words.body)) (evermoreref1_Words.t9.fill [⟨(.slice (.int .i64)), x0⟩, ⟨(.slice (.int .i64)), x1⟩, ⟨(.int .i64), x2⟩]) := by kernel_rfl
theorem evermoreref1_Words.s9 : stackAt 9 evermoreref1_Words.body [] = some (stackOf 9 evermoreref1_Words.body) := by kernel_rfl
theorem evermoreref1_Words.h9 (k : Nat) (ds : List Dat) (r : Bool) (h : evermoreref1_Words.c9 k ds = some r) : ∃ k', k' < k ∧ ∃ s, stackAt 9 evermoreref1_Words.body [] = some s ∧ evermoreref1_Words.R k' (start s) (evermoreref1_Words.t9.fill ds) = some r := by
  unfold evermoreref1_Words.c9 at h
  obtain ⟨x0, d0, rfl, h0⟩ := pop_some h
  obtain ⟨x1, d1, rfl, h1⟩ := pop_some h0
  obtain ⟨x2, d2, rfl, h2⟩ := pop_some h1
  obtain ⟨rfl, g⟩ := popN_some h2
  cases k with
  | zero => cases (show none = some r from g)
  | succ k => exact ⟨k, Nat.lt_succ_self k, _, evermoreref1_Words.s9, (evermoreref1_Words.e9 k x0 x1 x2).symm.trans g⟩
theorem evermoreref1_Words.e (k : Nat) (x0 : (List Int)) (x1 : (List Int)) : evermoreref1_Words.f k x0 x1 = evermoreref1_Words.R k ([.code evermoreref1_Words.body]) (evermoreref1_Words.ti.fill [⟨(.slice (.int .i64)), x0⟩, ⟨(.slice (.int .i64)), x1⟩]) := by kernel_rfl
theorem evermoreref1_Words.h (k : Nat) (ds : List Dat) (r : Bool) (h : evermoreref1_Words.g k ds = some r) : ∃ k', k' < k ∧ evermoreref1_Words.R k' ([.code evermoreref1_Words.body]) (evermoreref1_Words.ti.fill ds) = some r := by
  cases k with
  | zero => cases (show none = some r from h)
  | succ k =>
  replace h : evermoreref1_Words.c k ds = some r := h
  unfold evermoreref1_Words.c at h
  obtain ⟨x0, d0, rfl, h0⟩ := pop_some h
  obtain ⟨x1, d1, rfl, h1⟩ := pop_some h0
  obtain ⟨rfl, g⟩ := popN_some h1
  exact ⟨k, Nat.lt_succ_self k, (evermoreref1_Words.e k x0 x1).symm.trans g⟩
theorem evermoreref1_Words.o (ds : List Dat) (r : Bool) (h : evermoreref1_Words.out ds = some r) : ds = evermoreref1_Words.rs r := by
  unfold evermoreref1_Words.out at h
  obtain ⟨x0, d0, rfl, h0⟩ := pop_some h
  obtain ⟨rfl, g⟩ := popN_some h0
  cases g
  rfl
theorem evermoreref1_Words.fn : FnOk Try.prog 25 Try.f25 evermoreref1_Words.body Try.f25.ntmps 2 (fnRes Try.f25) :=
  fnOk_of (by kernel_rfl) (by kernel_rfl) (by kernel_rfl) (by kernel_rfl)
theorem evermoreref1_Words.con' : ∀ k ds r, evermoreref1_Words.g k ds = some r → Con Try.prog 25 2 evermoreref1_Words.ti evermoreref1_Words.to ds (evermoreref1_Words.rs r) :=
  fun_ok (T := T) T_ok mixed evermoreref1_Words.fn (env := evermoreref1_Words.env) (tbl := evermoreref1_Words.tbl) (gOut := evermoreref1_Words.out) (nin := 0) (cuts := []) (fuel := 100000) rfl (by kernel_rfl) (by kernel_rfl) (by kernel_rfl) (fun x hx => by
    simp only [evermoreref1_Words.tbl, List.mem_cons, List.not_mem_nil, or_false] at hx
    subst hx
    · exact evermoreref1_Words.h9
) evermoreref1_Words.o evermoreref1_Words.h (fun k _ => by unfold evermoreref1_Words.env; exact env0_ok)
theorem evermoreref1_Words.con (k : Nat) {x0 : (List Int)} {x1 : (List Int)} (r : Bool) (h : evermoreref1_Words.f k x0 x1 = some r) : Con Try.prog 25 2 evermoreref1_Words.ti evermoreref1_Words.to [⟨(.slice (.int .i64)), x0⟩, ⟨(.slice (.int .i64)), x1⟩] (evermoreref1_Words.rs r) :=
  evermoreref1_Words.con' (k + 1) _ r (by show evermoreref1_Words.c k _ = some r; unfold evermoreref1_Words.c; simp only [pop_self, popN]; exact h)
def evermoreref24_Begins.f (k : Nat) (w0 : List (Int)) (v1 : List (Int)) : Option (Bool) :=
 if (↑w0.length : Int) < (↑v1.length : Int) then
  some (false)
 else
  if 0 ≤ 0 then
  if 0 ≤ (↑v1.length : Int) then
   if (↑v1.length : Int) ≤ (↑w0.length : Int) then
    (evermoreref1_Words.f k (List.take ((↑v1.length : Int).toNat - Int.toNat 0) (List.drop (Int.toNat 0) w0)) v1).bind fun r_5 =>
      some (r_5)
    else none
   else none
  else none

noncomputable def evermoreref24_Begins.body : Code := fnBody Try.f129
def evermoreref24_Begins.ti : Tm := ⟨[(0, .p (.slice (.int .i64))), (1, .p (.slice (.int .i64)))], []⟩
def evermoreref24_Begins.to : Tm := ⟨[(0, .p .bool)], []⟩
def evermoreref24_Begins.rs (r : Bool) : List Dat := [⟨.bool, r⟩]
def evermoreref24_Begins.out (ds : List Dat) : Option (Bool) := pop .bool ds fun x0 ds => popN ds (some (x0))
def evermoreref24_Begins.c (k : Nat) (ds : List Dat) : Option (Bool) := pop (.slice (.int .i64)) ds fun x0 ds => pop (.slice (.int .i64)) ds fun x1 ds => popN ds (evermoreref24_Begins.f k x0 x1)
def evermoreref24_Begins.g : Nat → List Dat → Option (Bool)
 | 0, _ => none
 | k + 1, ds => evermoreref24_Begins.c k ds
def evermoreref24_Begins.env (k : Nat) : Nat → List SV → List Chunk → KT (Bool) → Option (Bool) := (envC 25 2 evermoreref1_Words.ti evermoreref1_Words.to (fun ds K => pop (.slice (.int .i64)) ds fun x0 ds => pop (.slice (.int .i64)) ds fun x1 ds => popN ds ((evermoreref1_Words.f k x0 x1).bind fun r => K (evermoreref1_Words.rs r))) env0)
def evermoreref24_Begins.tbl : List (Nat × Tm × (Nat → List Dat → Option (Bool))) := []
noncomputable abbrev evermoreref24_Begins.R (k : Nat) := run T (evermoreref24_Begins.env k) Try.f129.ntmps (cutE 0 evermoreref24_Begins.tbl k) (finE 0 evermoreref24_Begins.to evermoreref24_Begins.out) (fnRes Try.f129) [] 100000 true
theorem evermoreref24_Begins.e (k : Nat) (x0 : (List Int)) (x1 : (List Int)) : evermoreref24_Begins.f k x0 x1 = evermoreref24_Begins.R k ([.code evermoreref24_Begins.body]) (evermoreref24_Begins.ti.fill [⟨(.slice (.int .i64)), x0⟩, ⟨(.slice (.int .i64)), x1⟩]) := by kernel_rfl
theorem evermoreref24_Begins.h (k : Nat) (ds : List Dat) (r : Bool) (h : evermoreref24_Begins.g k ds = some r) : ∃ k', k' < k ∧ evermoreref24_Begins.R k' ([.code evermoreref24_Begins.body]) (evermoreref24_Begins.ti.fill ds) = some r := by
  cases k with
  | zero => cases (show none = some r from h)
  | succ k =>
  replace h : evermoreref24_Begins.c k ds = some r := h
  unfold evermoreref24_Begins.c at h
  obtain ⟨x0, d0, rfl, h0⟩ := pop_some h
  obtain ⟨x1, d1, rfl, h1⟩ := pop_some h0
  obtain ⟨rfl, g⟩ := popN_some h1
  exact ⟨k, Nat.lt_succ_self k, (evermoreref24_Begins.e k x0 x1).symm.trans g⟩
theorem evermoreref24_Begins.o (ds : List Dat) (r : Bool) (h : evermoreref24_Begins.out ds = some r) : ds = evermoreref24_Begins.rs r := by
  unfold evermoreref24_Begins.out at h
  obtain ⟨x0, d0, rfl, h0⟩ := pop_some h
  obtain ⟨rfl, g⟩ := popN_some h0
  cases g
  rfl
theorem evermoreref24_Begins.fn : FnOk Try.prog 129 Try.f129 evermoreref24_Begins.body Try.f129.ntmps 2 (fnRes Try.f129) :=
  fnOk_of (by kernel_rfl) (by kernel_rfl) (by kernel_rfl) (by kernel_rfl)
theorem evermoreref24_Begins.con' : ∀ k ds r, evermoreref24_Begins.g k ds = some r → Con Try.prog 129 2 evermoreref24_Begins.ti evermoreref24_Begins.to ds (evermoreref24_Begins.rs r) :=
  fun_ok (T := T) T_ok mixed evermoreref24_Begins.fn (env := evermoreref24_Begins.env) (tbl := evermoreref24_Begins.tbl) (gOut := evermoreref24_Begins.out) (nin := 0) (cuts := []) (fuel := 100000) rfl (by kernel_rfl) (by kernel_rfl) (by kernel_rfl) (fun x hx => by simp [evermoreref24_Begins.tbl] at hx) evermoreref24_Begins.o evermoreref24_Begins.h (fun k _ => by unfold evermoreref24_Begins.env; exact (envC_ok (fun ds K r h => by
    obtain ⟨x0, d0, rfl, h0⟩ := pop_some h
    obtain ⟨x1, d1, rfl, h1⟩ := pop_some h0
    obtain ⟨rfl, g⟩ := popN_some h1
    obtain ⟨r1, h1, h2⟩ := bind_some g
    exact ⟨_, h2, evermoreref1_Words.con k _ h1⟩) env0_ok))
theorem evermoreref24_Begins.con (k : Nat) {x0 : (List Int)} {x1 : (List Int)} (r : Bool) (h : evermoreref24_Begins.f k x0 x1 = some r) : Con Try.prog 129 2 evermoreref24_Begins.ti evermoreref24_Begins.to [⟨(.slice (.int .i64)), x0⟩, ⟨(.slice (.int .i64)), x1⟩] (evermoreref24_Begins.rs r) :=
  evermoreref24_Begins.con' (k + 1) _ r (by show evermoreref24_Begins.c k _ = some r; unfold evermoreref24_Begins.c; simp only [pop_self, popN]; exact h)
mutual
def evermoreref24_Apart.l2 : Nat → List (List (Int)) → Int → Option (Bool)
 | 0, _, _ => none
 | k + 1, l0, i3 =>
  if i3 < (↑l0.length : Int) then
   evermoreref24_Apart.l5 k l0 i3 0
  else
   some (true)
def evermoreref24_Apart.l5 : Nat → List (List (Int)) → Int → Int → Option (Bool)
 | 0, _, _, _ => none
 | k + 1, l0, i3, k4 =>
  if k4 < (↑l0.length : Int) then
   if 0 ≤ i3 then
   if i3 < (↑l0.length : Int) then
    if 0 ≤ k4 then
     if k4 < (↑l0.length : Int) then
      (evermoreref24_Begins.f k (Go.Proofs.YtmagglebkbiffaaSx.rd [] l0 i3) (Go.Proofs.YtmagglebkbiffaaSx.rd [] l0 k4)).bind fun r_7 =>
        if i3 = k4 then
         evermoreref24_Apart.l5 k l0 i3 (Go.IntKind.i64.wrap (k4 + 1))
        else
         if r_7 = true then
          some (false)
         else
          evermoreref24_Apart.l5 k l0 i3 (Go.IntKind.i64.wrap (k4 + 1))
      else none
     else none
    else none
   else none
  else
   evermoreref24_Apart.l2 k l0 (Go.IntKind.i64.wrap (i3 + 1))
end
def evermoreref24_Apart.f (k : Nat) (l0 : List (List (Int))) : Option (Bool) :=
 evermoreref24_Apart.l2 k l0 0

noncomputable def evermoreref24_Apart.body : Code := fnBody Try.f64
def evermoreref24_Apart.ti : Tm := ⟨[(0, .p (.slice (.slice (.int .i64))))], []⟩
def evermoreref24_Apart.to : Tm := ⟨[(0, .p .bool)], []⟩
def evermoreref24_Apart.rs (r : Bool) : List Dat := [⟨.bool, r⟩]
def evermoreref24_Apart.out (ds : List Dat) : Option (Bool) := pop .bool ds fun x0 ds => popN ds (some (x0))
def evermoreref24_Apart.c (k : Nat) (ds : List Dat) : Option (Bool) := pop (.slice (.slice (.int .i64))) ds fun x0 ds => popN ds (evermoreref24_Apart.f k x0)
def evermoreref24_Apart.g : Nat → List Dat → Option (Bool)
 | 0, _ => none
 | k + 1, ds => evermoreref24_Apart.c k ds
def evermoreref24_Apart.env (k : Nat) : Nat → List SV → List Chunk → KT (Bool) → Option (Bool) := (envC 129 2 evermoreref24_Begins.ti evermoreref24_Begins.to (fun ds K => pop (.slice (.int .i64)) ds fun x0 ds => pop (.slice (.int .i64)) ds fun x1 ds => popN ds ((evermoreref24_Begins.f k x0 x1).bind fun r => K (evermoreref24_Begins.rs r))) env0)
def evermoreref24_Apart.t5 : Tm := ⟨[(0, .p (.slice (.slice (.int .i64)))), (3, .p (.int .i64))], []⟩
def evermoreref24_Apart.c5 (k : Nat) (ds : List Dat) : Option (Bool) := pop (.slice (.slice (.int .i64))) ds fun x0 ds => pop (.int .i64) ds fun x1 ds => popN ds (evermoreref24_Apart.l2 k x0 x1)
def evermoreref24_Apart.t11 : Tm := ⟨[(0, .p (.slice (.slice (.int .i64)))), (3, .p (.int .i64)), (4, .p (.int .i64))], []⟩
def evermoreref24_Apart.c11 (k : Nat) (ds : List Dat) : Option (Bool) := pop (.slice (.slice (.int .i64))) ds fun x0 ds => pop (.int .i64) ds fun x1 ds => pop (.int .i64) ds fun x2 ds => popN ds (evermoreref24_Apart.l5 k x0 x1 x2)
def evermoreref24_Apart.tbl : List (Nat × Tm × (Nat → List Dat → Option (Bool))) := [(5, evermoreref24_Apart.t5, evermoreref24_Apart.c5), (11, evermoreref24_Apart.t11, evermoreref24_Apart.c11)]
noncomputable abbrev evermoreref24_Apart.R (k : Nat) := run T (evermoreref24_Apart.env k) Try.f64.ntmps (cutE 0 evermoreref24_Apart.tbl k) (finE 0 evermoreref24_Apart.to evermoreref24_Apart.out) (fnRes Try.f64) [] 100000 true
theorem evermoreref24_Apart.e5 (k : Nat) (x0 : (List (List Int))) (x1 : Int) : evermoreref24_Apart.l2 (k + 1) x0 x1 = evermoreref24_Apart.R k (start (stackOf 5 evermoreref24_Apart.body)) (evermoreref24_Apart.t5.fill [⟨(.slice (.slice (.int .i64))), x0⟩, ⟨(.int .i64), x1⟩]) := by kernel_rfl
theorem evermoreref24_Apart.s5 : stackAt 5 evermoreref24_Apart.body [] = some (stackOf 5 evermoreref24_Apart.body) := by kernel_rfl
theorem evermoreref24_Apart.h5 (k : Nat) (ds : List Dat) (r : Bool) (h : evermoreref24_Apart.c5 k ds = some r) : ∃ k', k' < k ∧ ∃ s, stackAt 5 evermoreref24_Apart.body [] = some s ∧ evermoreref24_Apart.R k' (start s) (evermoreref24_Apart.t5.fill ds) = some r := by
  unfold evermoreref24_Apart.c5 at h
  obtain ⟨x0, d0, rfl, h0⟩ := pop_some h
  obtain ⟨x1, d1, rfl, h1⟩ := pop_some h0
  obtain ⟨rfl, g⟩ := popN_some h1
  cases k with
  | zero => cases (show none = some r from g)
  | succ k => exact ⟨k, Nat.lt_succ_self k, _, evermoreref24_Apart.s5, (evermoreref24_Apart.e5 k x0 x1).symm.trans g⟩
theorem evermoreref24_Apart.e11 (k : Nat) (x0 : (List (List Int))) (x1 : Int) (x2 : Int) : evermoreref24_Apart.l5 (k + 1) x0 x1 x2 = evermoreref24_Apart.R k (start (stackOf 11 evermoreref24_Apart.body)) (evermoreref24_Apart.t11.fill [⟨(.slice (.slice (.int .i64))), x0⟩, ⟨(.int .i64), x1⟩, ⟨(.int .i64), x2⟩]) := by kernel_rfl
theorem evermoreref24_Apart.s11 : stackAt 11 evermoreref24_Apart.body [] = some (stackOf 11 evermoreref24_Apart.body) := by kernel_rfl
theorem evermoreref24_Apart.h11 (k : Nat) (ds : List Dat) (r : Bool) (h : evermoreref24_Apart.c11 k ds = some r) : ∃ k', k' < k ∧ ∃ s, stackAt 11 evermoreref24_Apart.body [] = some s ∧ evermoreref24_Apart.R k' (start s) (evermoreref24_Apart.t11.fill ds) = some r := by
  unfold evermoreref24_Apart.c11 at h
  obtain ⟨x0, d0, rfl, h0⟩ := pop_some h
  obtain ⟨x1, d1, rfl, h1⟩ := pop_some h0
  obtain ⟨x2, d2, rfl, h2⟩ := pop_some h1
  obtain ⟨rfl, g⟩ := popN_some h2
  cases k with
  | zero => cases (show none = some r from g)
  | succ k => exact ⟨k, Nat.lt_succ_self k, _, evermoreref24_Apart.s11, (evermoreref24_Apart.e11 k x0 x1 x2).symm.trans g⟩
theorem evermoreref24_Apart.e (k : Nat) (x0 : (List (List Int))) : evermoreref24_Apart.f k x0 = evermoreref24_Apart.R k ([.code evermoreref24_Apart.body]) (evermoreref24_Apart.ti.fill [⟨(.slice (.slice (.int .i64))), x0⟩]) := by kernel_rfl
theorem evermoreref24_Apart.h (k : Nat) (ds : List Dat) (r : Bool) (h : evermoreref24_Apart.g k ds = some r) : ∃ k', k' < k ∧ evermoreref24_Apart.R k' ([.code evermoreref24_Apart.body]) (evermoreref24_Apart.ti.fill ds) = some r := by
  cases k with
  | zero => cases (show none = some r from h)
  | succ k =>
  replace h : evermoreref24_Apart.c k ds = some r := h
  unfold evermoreref24_Apart.c at h
  obtain ⟨x0, d0, rfl, h0⟩ := pop_some h
  obtain ⟨rfl, g⟩ := popN_some h0
  exact ⟨k, Nat.lt_succ_self k, (evermoreref24_Apart.e k x0).symm.trans g⟩
theorem evermoreref24_Apart.o (ds : List Dat) (r : Bool) (h : evermoreref24_Apart.out ds = some r) : ds = evermoreref24_Apart.rs r := by
  unfold evermoreref24_Apart.out at h
  obtain ⟨x0, d0, rfl, h0⟩ := pop_some h
  obtain ⟨rfl, g⟩ := popN_some h0
  cases g
  rfl
theorem evermoreref24_Apart.fn : FnOk Try.prog 64 Try.f64 evermoreref24_Apart.body Try.f64.ntmps 1 (fnRes Try.f64) :=
  fnOk_of (by kernel_rfl) (by kernel_rfl) (by kernel_rfl) (by kernel_rfl)
theorem evermoreref24_Apart.con' : ∀ k ds r, evermoreref24_Apart.g k ds = some r → Con Try.prog 64 1 evermoreref24_Apart.ti evermoreref24_Apart.to ds (evermoreref24_Apart.rs r) :=
  fun_ok (T := T) T_ok mixed evermoreref24_Apart.fn (env := evermoreref24_Apart.env) (tbl := evermoreref24_Apart.tbl) (gOut := evermoreref24_Apart.out) (nin := 0) (cuts := []) (fuel := 100000) rfl (by kernel_rfl) (by kernel_rfl) (by kernel_rfl) (fun x hx => by
    simp only [evermoreref24_Apart.tbl, List.mem_cons, List.not_mem_nil, or_false] at hx
    rcases hx with rfl | rfl
    · exact evermoreref24_Apart.h5
    · exact evermoreref24_Apart.h11
) evermoreref24_Apart.o evermoreref24_Apart.h (fun k _ => by unfold evermoreref24_Apart.env; exact (envC_ok (fun ds K r h => by
    obtain ⟨x0, d0, rfl, h0⟩ := pop_some h
    obtain ⟨x1, d1, rfl, h1⟩ := pop_some h0
    obtain ⟨rfl, g⟩ := popN_some h1
    obtain ⟨r1, h1, h2⟩ := bind_some g
    exact ⟨_, h2, evermoreref24_Begins.con k _ h1⟩) env0_ok))
theorem evermoreref24_Apart.con (k : Nat) {x0 : (List (List Int))} (r : Bool) (h : evermoreref24_Apart.f k x0 = some r) : Con Try.prog 64 1 evermoreref24_Apart.ti evermoreref24_Apart.to [⟨(.slice (.slice (.int .i64))), x0⟩] (evermoreref24_Apart.rs r) :=
  evermoreref24_Apart.con' (k + 1) _ r (by show evermoreref24_Apart.c k _ = some r; unfold evermoreref24_Apart.c; simp only [pop_self, popN]; exact h)
mutual
def evermorelaw_CodeKraft.j7 : Nat → Int → List (Int) → Bool → Int → Int → List (List (Int)) → Option (Bool)
 | 0, _, _, _, _, _, _ => none
 | k + 1, letters0, sizes1, is6, e7, no8, l5 =>
  evermorelaw_CodeKraft.l8 k letters0 sizes1 is6 e7 no8 0 l5
def evermorelaw_CodeKraft.l8 : Nat → Int → List (Int) → Bool → Int → Int → Int → List (List (Int)) → Option (Bool)
 | 0, _, _, _, _, _, _, _ => none
 | k + 1, letters0, sizes1, is6, e7, no8, i9, l5 =>
  if i9 < (↑sizes1.length : Int) then
   if no8 = 0 then
    if 0 ≤ i9 then
    if i9 < (↑sizes1.length : Int) then
     if Go.Proofs.YtmagglebkbiffaaSx.rd (Int.ofNat 0) sizes1 i9 < 1 then
       evermorelaw_CodeKraft.j9 k letters0 sizes1 is6 e7 2 i9 l5
      else
       if 0 ≤ i9 then
       if i9 < (↑sizes1.length : Int) then
        if 30 < Go.Proofs.YtmagglebkbiffaaSx.rd (Int.ofNat 0) sizes1 i9 then
          evermorelaw_CodeKraft.j9 k letters0 sizes1 is6 e7 2 i9 l5
         else
          evermorelaw_CodeKraft.j9 k letters0 sizes1 is6 e7 no8 i9 l5
        else none
       else none
     else none
    else none
   else
    if no8 = 0 then
     (evermoreref24_Kraft.f k letters0 sizes1).bind fun r_5 =>
      if e7 = 0 then
       if (!is6 == r_5) = true then
        some (false)
       else
        if is6 = true then
         if (↑l5.length : Int) = (↑sizes1.length : Int) then
          evermorelaw_CodeKraft.l22 k letters0 sizes1 0 l5
         else
          some (false)
        else
         some (decide ((↑l5.length : Int) = 0))
      else
       some (false)
    else
     if e7 = no8 then
      if is6 = true then
       some (false)
      else
       some (decide ((↑l5.length : Int) = 0))
     else
      some (false)
  else
   if no8 = 0 then
    (evermoreref24_Kraft.f k letters0 sizes1).bind fun r_4 =>
     if e7 = 0 then
      if (!is6 == r_4) = true then
       some (false)
      else
       if is6 = true then
        if (↑l5.length : Int) = (↑sizes1.length : Int) then
         evermorelaw_CodeKraft.l22 k letters0 sizes1 0 l5
        else
         some (false)
       else
        some (decide ((↑l5.length : Int) = 0))
     else
      some (false)
   else
    if e7 = no8 then
     if is6 = true then
      some (false)
     else
      some (decide ((↑l5.length : Int) = 0))
    else
     some (false)
def evermorelaw_CodeKraft.j9 : Nat → Int → List (Int) → Bool → Int → Int → Int → List (List (Int)) → Option (Bool)
 | 0, _, _, _, _, _, _, _ => none
 | k + 1, letters0, sizes1, is6, e7, no8, i9, l5 =>
  evermorelaw_CodeKraft.l8 k letters0 sizes1 is6 e7 no8 (Go.IntKind.i64.wrap (i9 + 1)) l5
def evermorelaw_CodeKraft.l22 : Nat → Int → List (Int) → Int → List (List (Int)) → Option (Bool)
 | 0, _, _, _, _ => none
 | k + 1, letters0, sizes1, i11, l5 =>
  if i11 < (↑l5.length : Int) then
   if 0 ≤ i11 then
   if i11 < (↑l5.length : Int) then
    (evermoreref1_May.f k letters0 (l5.getD i11.toNat [])).bind fun r_5 =>
      if r_5 = 0 then
       if 0 ≤ i11 then
       if i11 < (↑l5.length : Int) then
        if 0 ≤ i11 then
         if i11 < (↑sizes1.length : Int) then
          if (↑(l5.getD i11.toNat []).length : Int) = Go.Proofs.YtmagglebkbiffaaSx.rd (Int.ofNat 0) sizes1 i11 then
            evermorelaw_CodeKraft.l22 k letters0 sizes1 (Go.IntKind.i64.wrap (i11 + 1)) l5
           else
            some (false)
          else none
         else none
        else none
       else none
      else
       some (false)
    else none
   else none
  else
   (evermoreref24_Apart.f k l5).bind fun r_3 =>
    some (r_3)
end
def evermorelaw_CodeKraft.f (k : Nat) (letters0 : Int) (sizes1 : List (Int)) : Option (Bool) :=
 (code_Kraft.f k letters0 sizes1).bind fun r_1 =>
  if letters0 < 1 then
   evermorelaw_CodeKraft.j7 k letters0 sizes1 r_1.fst r_1.snd.fst 2 r_1.snd.snd
  else
   if 4 < letters0 then
    evermorelaw_CodeKraft.j7 k letters0 sizes1 r_1.fst r_1.snd.fst 2 r_1.snd.snd
   else
    if (↑sizes1.length : Int) < 1 then
     evermorelaw_CodeKraft.j7 k letters0 sizes1 r_1.fst r_1.snd.fst 1 r_1.snd.snd
    else
     if 20 < (↑sizes1.length : Int) then
      evermorelaw_CodeKraft.j7 k letters0 sizes1 r_1.fst r_1.snd.fst 1 r_1.snd.snd
     else
      evermorelaw_CodeKraft.j7 k letters0 sizes1 r_1.fst r_1.snd.fst 0 r_1.snd.snd

noncomputable def evermorelaw_CodeKraft.body : Code := fnBody Try.f13
def evermorelaw_CodeKraft.ti : Tm := ⟨[(0, .p (.int .i64)), (1, .p (.slice (.int .i64)))], []⟩
def evermorelaw_CodeKraft.to : Tm := ⟨[(0, .p .bool)], []⟩
def evermorelaw_CodeKraft.rs (r : Bool) : List Dat := [⟨.bool, r⟩]
def evermorelaw_CodeKraft.out (ds : List Dat) : Option (Bool) := pop .bool ds fun x0 ds => popN ds (some (x0))
def evermorelaw_CodeKraft.c (k : Nat) (ds : List Dat) : Option (Bool) := pop (.int .i64) ds fun x0 ds => pop (.slice (.int .i64)) ds fun x1 ds => popN ds (evermorelaw_CodeKraft.f k x0 x1)
def evermorelaw_CodeKraft.g : Nat → List Dat → Option (Bool)
 | 0, _ => none
 | k + 1, ds => evermorelaw_CodeKraft.c k ds
def evermorelaw_CodeKraft.env (k : Nat) : Nat → List SV → List Chunk → KT (Bool) → Option (Bool) := (envC 66 2 evermoreref24_Kraft.ti evermoreref24_Kraft.to (fun ds K => pop (.int .i64) ds fun x0 ds => pop (.slice (.int .i64)) ds fun x1 ds => popN ds ((evermoreref24_Kraft.f k x0 x1).bind fun r => K (evermoreref24_Kraft.rs r))) (envC 19 2 evermoreref1_May.ti evermoreref1_May.to (fun ds K => pop (.int .i64) ds fun x0 ds => pop (.slice (.int .i64)) ds fun x1 ds => popN ds ((evermoreref1_May.f k x0 x1).bind fun r => K (evermoreref1_May.rs r))) (envC 64 1 evermoreref24_Apart.ti evermoreref24_Apart.to (fun ds K => pop (.slice (.slice (.int .i64))) ds fun x0 ds => popN ds ((evermoreref24_Apart.f k x0).bind fun r => K (evermoreref24_Apart.rs r))) (envC 65 2 code_Kraft.ti code_Kraft.to (fun ds K => pop (.int .i64) ds fun x0 ds => pop (.slice (.int .i64)) ds fun x1 ds => popN ds ((code_Kraft.f k x0 x1).bind fun r => K (code_Kraft.rs r))) env0))))
def evermorelaw_CodeKraft.t14 : Tm := ⟨[(0, .p (.int .i64)), (1, .p (.slice (.int .i64))), (5, .own 0), (6, .p .bool), (7, .p (.int .i64)), (8, .p (.int .i64))], [.own (.slice (.int .i64))]⟩
def evermorelaw_CodeKraft.c14 (k : Nat) (ds : List Dat) : Option (Bool) := pop (.int .i64) ds fun x0 ds => pop (.slice (.int .i64)) ds fun x1 ds => pop .bool ds fun x2 ds => pop (.int .i64) ds fun x3 ds => pop (.int .i64) ds fun x4 ds => pop (.slice (.slice (.int .i64))) ds fun x5 ds => popN ds (evermorelaw_CodeKraft.j7 k x0 x1 x2 x3 x4 x5)
def evermorelaw_CodeKraft.t17 : Tm := ⟨[(0, .p (.int .i64)), (1, .p (.slice (.int .i64))), (5, .own 0), (6, .p .bool), (7, .p (.int .i64)), (8, .p (.int .i64)), (9, .p (.int .i64))], [.own (.slice (.int .i64))]⟩
def evermorelaw_CodeKraft.c17 (k : Nat) (ds : List Dat) : Option (Bool) := pop (.int .i64) ds fun x0 ds => pop (.slice (.int .i64)) ds fun x1 ds => pop .bool ds fun x2 ds => pop (.int .i64) ds fun x3 ds => pop (.int .i64) ds fun x4 ds => pop (.int .i64) ds fun x5 ds => pop (.slice (.slice (.int .i64))) ds fun x6 ds => popN ds (evermorelaw_CodeKraft.l8 k x0 x1 x2 x3 x4 x5 x6)
def evermorelaw_CodeKraft.t18 : Tm := ⟨[(0, .p (.int .i64)), (1, .p (.slice (.int .i64))), (5, .own 0), (6, .p .bool), (7, .p (.int .i64)), (8, .p (.int .i64)), (9, .p (.int .i64))], [.own (.slice (.int .i64))]⟩
def evermorelaw_CodeKraft.c18 (k : Nat) (ds : List Dat) : Option (Bool) := pop (.int .i64) ds fun x0 ds => pop (.slice (.int .i64)) ds fun x1 ds => pop .bool ds fun x2 ds => pop (.int .i64) ds fun x3 ds => pop (.int .i64) ds fun x4 ds => pop (.int .i64) ds fun x5 ds => pop (.slice (.slice (.int .i64))) ds fun x6 ds => popN ds (evermorelaw_CodeKraft.j9 k x0 x1 x2 x3 x4 x5 x6)
def evermorelaw_CodeKraft.t45 : Tm := ⟨[(0, .p (.int .i64)), (1, .p (.slice (.int .i64))), (5, .own 0), (11, .p (.int .i64))], [.own (.slice (.int .i64))]⟩
def evermorelaw_CodeKraft.c45 (k : Nat) (ds : List Dat) : Option (Bool) := pop (.int .i64) ds fun x0 ds => pop (.slice (.int .i64)) ds fun x1 ds => pop (.int .i64) ds fun x2 ds => pop (.slice (.slice (.int .i64))) ds fun x3 ds => popN ds (evermorelaw_CodeKraft.l22 k x0 x1 x2 x3)
def evermorelaw_CodeKraft.tbl : List (Nat × Tm × (Nat → List Dat → Option (Bool))) := [(14, evermorelaw_CodeKraft.t14, evermorelaw_CodeKraft.c14), (17, evermorelaw_CodeKraft.t17, evermorelaw_CodeKraft.c17), (18, evermorelaw_CodeKraft.t18, evermorelaw_CodeKraft.c18), (45, evermorelaw_CodeKraft.t45, evermorelaw_CodeKraft.c45)]
noncomputable abbrev evermorelaw_CodeKraft.R (k : Nat) := run T (evermorelaw_CodeKraft.env k) Try.f13.ntmps (cutE 0 evermorelaw_CodeKraft.tbl k) (finE 0 evermorelaw_CodeKraft.to evermorelaw_CodeKraft.out) (fnRes Try.f13) [9, 7] 100000 true
theorem evermorelaw_CodeKraft.e14 (k : Nat) (x0 : Int) (x1 : (List Int)) (x2 : Bool) (x3 : Int) (x4 : Int) (x5 : (List (List Int))) : evermorelaw_CodeKraft.j7 (k + 1) x0 x1 x2 x3 x4 x5 = evermorelaw_CodeKraft.R k (start (stackOf 14 evermorelaw_CodeKraft.body)) (evermorelaw_CodeKraft.t14.fill [⟨(.int .i64), x0⟩, ⟨(.slice (.int .i64)), x1⟩, ⟨.bool, x2⟩, ⟨(.int .i64), x3⟩, ⟨(.int .i64), x4⟩, ⟨(.slice (.slice (.int .i64))), x5⟩]) := by kernel_rfl
theorem evermorelaw_CodeKraft.s14 : stackAt 14 evermorelaw_CodeKraft.body [] = some (stackOf 14 evermorelaw_CodeKraft.body) := by kernel_rfl
theorem evermorelaw_CodeKraft.h14 (k : Nat) (ds : List Dat) (r : Bool) (h : evermorelaw_CodeKraft.c14 k ds = some r) : ∃ k', k' < k ∧ ∃ s, stackAt 14 evermorelaw_CodeKraft.body [] = some s ∧ evermorelaw_CodeKraft.R k' (start s) (evermorelaw_CodeKraft.t14.fill ds) = some r := by
  unfold evermorelaw_CodeKraft.c14 at h
  obtain ⟨x0, d0, rfl, h0⟩ := pop_some h
  obtain ⟨x1, d1, rfl, h1⟩ := pop_some h0
  obtain ⟨x2, d2, rfl, h2⟩ := pop_some h1
  obtain ⟨x3, d3, rfl, h3⟩ := pop_some h2
  obtain ⟨x4, d4, rfl, h4⟩ := pop_some h3
  obtain ⟨x5, d5, rfl, h5⟩ := pop_some h4
  obtain ⟨rfl, g⟩ := popN_some h5
  cases k with
  | zero => cases (show none = some r from g)
  | succ k => exact ⟨k, Nat.lt_succ_self k, _, evermorelaw_CodeKraft.s14, (evermorelaw_CodeKraft.e14 k x0 x1 x2 x3 x4 x5).symm.trans g⟩
theorem evermorelaw_CodeKraft.e17 (k : Nat) (x0 : Int) (x1 : (List Int)) (x2 : Bool) (x3 : Int) (x4 : Int) (x5 : Int) (x6 : (List (List Int))) : evermorelaw_CodeKraft.l8 (k + 1) x0 x1 x2 x3 x4 x5 x6 = evermorelaw_CodeKraft.R k (start (stackOf 17 evermorelaw_CodeKraft.body)) (evermorelaw_CodeKraft.t17.fill [⟨(.int .i64), x0⟩, ⟨(.slice (.int .i64)), x1⟩, ⟨.bool, x2⟩, ⟨(.int .i64), x3⟩, ⟨(.int .i64), x4⟩, ⟨(.int .i64), x5⟩, ⟨(.slice (.slice (.int .i64))), x6⟩]) := by kernel_rfl
theorem evermorelaw_CodeKraft.s17 : stackAt 17 evermorelaw_CodeKraft.body [] = some (stackOf 17 evermorelaw_CodeKraft.body) := by kernel_rfl
theorem evermorelaw_CodeKraft.h17 (k : Nat) (ds : List Dat) (r : Bool) (h : evermorelaw_CodeKraft.c17 k ds = some r) : ∃ k', k' < k ∧ ∃ s, stackAt 17 evermorelaw_CodeKraft.body [] = some s ∧ evermorelaw_CodeKraft.R k' (start s) (evermorelaw_CodeKraft.t17.fill ds) = some r := by
  unfold evermorelaw_CodeKraft.c17 at h
  obtain ⟨x0, d0, rfl, h0⟩ := pop_some h
  obtain ⟨x1, d1, rfl, h1⟩ := pop_some h0
  obtain ⟨x2, d2, rfl, h2⟩ := pop_some h1
  obtain ⟨x3, d3, rfl, h3⟩ := pop_some h2
  obtain ⟨x4, d4, rfl, h4⟩ := pop_some h3
  obtain ⟨x5, d5, rfl, h5⟩ := pop_some h4
  obtain ⟨x6, d6, rfl, h6⟩ := pop_some h5
  obtain ⟨rfl, g⟩ := popN_some h6
  cases k with
  | zero => cases (show none = some r from g)
  | succ k => exact ⟨k, Nat.lt_succ_self k, _, evermorelaw_CodeKraft.s17, (evermorelaw_CodeKraft.e17 k x0 x1 x2 x3 x4 x5 x6).symm.trans g⟩
theorem evermorelaw_CodeKraft.e18 (k : Nat) (x0 : Int) (x1 : (List Int)) (x2 : Bool) (x3 : Int) (x4 : Int) (x5 : Int) (x6 : (List (List Int))) : evermorelaw_CodeKraft.j9 (k + 1) x0 x1 x2 x3 x4 x5 x6 = evermorelaw_CodeKraft.R k (start (stackOf 18 evermorelaw_CodeKraft.body)) (evermorelaw_CodeKraft.t18.fill [⟨(.int .i64), x0⟩, ⟨(.slice (.int .i64)), x1⟩, ⟨.bool, x2⟩, ⟨(.int .i64), x3⟩, ⟨(.int .i64), x4⟩, ⟨(.int .i64), x5⟩, ⟨(.slice (.slice (.int .i64))), x6⟩]) := by kernel_rfl
theorem evermorelaw_CodeKraft.s18 : stackAt 18 evermorelaw_CodeKraft.body [] = some (stackOf 18 evermorelaw_CodeKraft.body) := by kernel_rfl
theorem evermorelaw_CodeKraft.h18 (k : Nat) (ds : List Dat) (r : Bool) (h : evermorelaw_CodeKraft.c18 k ds = some r) : ∃ k', k' < k ∧ ∃ s, stackAt 18 evermorelaw_CodeKraft.body [] = some s ∧ evermorelaw_CodeKraft.R k' (start s) (evermorelaw_CodeKraft.t18.fill ds) = some r := by
  unfold evermorelaw_CodeKraft.c18 at h
  obtain ⟨x0, d0, rfl, h0⟩ := pop_some h
  obtain ⟨x1, d1, rfl, h1⟩ := pop_some h0
  obtain ⟨x2, d2, rfl, h2⟩ := pop_some h1
  obtain ⟨x3, d3, rfl, h3⟩ := pop_some h2
  obtain ⟨x4, d4, rfl, h4⟩ := pop_some h3
  obtain ⟨x5, d5, rfl, h5⟩ := pop_some h4
  obtain ⟨x6, d6, rfl, h6⟩ := pop_some h5
  obtain ⟨rfl, g⟩ := popN_some h6
  cases k with
  | zero => cases (show none = some r from g)
  | succ k => exact ⟨k, Nat.lt_succ_self k, _, evermorelaw_CodeKraft.s18, (evermorelaw_CodeKraft.e18 k x0 x1 x2 x3 x4 x5 x6).symm.trans g⟩
theorem evermorelaw_CodeKraft.e45 (k : Nat) (x0 : Int) (x1 : (List Int)) (x2 : Int) (x3 : (List (List Int))) : evermorelaw_CodeKraft.l22 (k + 1) x0 x1 x2 x3 = evermorelaw_CodeKraft.R k (start (stackOf 45 evermorelaw_CodeKraft.body)) (evermorelaw_CodeKraft.t45.fill [⟨(.int .i64), x0⟩, ⟨(.slice (.int .i64)), x1⟩, ⟨(.int .i64), x2⟩, ⟨(.slice (.slice (.int .i64))), x3⟩]) := by kernel_rfl
theorem evermorelaw_CodeKraft.s45 : stackAt 45 evermorelaw_CodeKraft.body [] = some (stackOf 45 evermorelaw_CodeKraft.body) := by kernel_rfl
theorem evermorelaw_CodeKraft.h45 (k : Nat) (ds : List Dat) (r : Bool) (h : evermorelaw_CodeKraft.c45 k ds = some r) : ∃ k', k' < k ∧ ∃ s, stackAt 45 evermorelaw_CodeKraft.body [] = some s ∧ evermorelaw_CodeKraft.R k' (start s) (evermorelaw_CodeKraft.t45.fill ds) = some r := by
  unfold evermorelaw_CodeKraft.c45 at h
  obtain ⟨x0, d0, rfl, h0⟩ := pop_some h
  obtain ⟨x1, d1, rfl, h1⟩ := pop_some h0
  obtain ⟨x2, d2, rfl, h2⟩ := pop_some h1
  obtain ⟨x3, d3, rfl, h3⟩ := pop_some h2
  obtain ⟨rfl, g⟩ := popN_some h3
  cases k with
  | zero => cases (show none = some r from g)
  | succ k => exact ⟨k, Nat.lt_succ_self k, _, evermorelaw_CodeKraft.s45, (evermorelaw_CodeKraft.e45 k x0 x1 x2 x3).symm.trans g⟩
theorem evermorelaw_CodeKraft.e (k : Nat) (x0 : Int) (x1 : (List Int)) : evermorelaw_CodeKraft.f k x0 x1 = evermorelaw_CodeKraft.R k ([.code evermorelaw_CodeKraft.body]) (evermorelaw_CodeKraft.ti.fill [⟨(.int .i64), x0⟩, ⟨(.slice (.int .i64)), x1⟩]) := by kernel_rfl
theorem evermorelaw_CodeKraft.h (k : Nat) (ds : List Dat) (r : Bool) (h : evermorelaw_CodeKraft.g k ds = some r) : ∃ k', k' < k ∧ evermorelaw_CodeKraft.R k' ([.code evermorelaw_CodeKraft.body]) (evermorelaw_CodeKraft.ti.fill ds) = some r := by
  cases k with
  | zero => cases (show none = some r from h)
  | succ k =>
  replace h : evermorelaw_CodeKraft.c k ds = some r := h
  unfold evermorelaw_CodeKraft.c at h
  obtain ⟨x0, d0, rfl, h0⟩ := pop_some h
  obtain ⟨x1, d1, rfl, h1⟩ := pop_some h0
  obtain ⟨rfl, g⟩ := popN_some h1
  exact ⟨k, Nat.lt_succ_self k, (evermorelaw_CodeKraft.e k x0 x1).symm.trans g⟩
theorem evermorelaw_CodeKraft.o (ds : List Dat) (r : Bool) (h : evermorelaw_CodeKraft.out ds = some r) : ds = evermorelaw_CodeKraft.rs r := by
  unfold evermorelaw_CodeKraft.out at h
  obtain ⟨x0, d0, rfl, h0⟩ := pop_some h
  obtain ⟨rfl, g⟩ := popN_some h0
  cases g
  rfl
theorem evermorelaw_CodeKraft.fn : FnOk Try.prog 13 Try.f13 evermorelaw_CodeKraft.body Try.f13.ntmps 2 (fnRes Try.f13) :=
  fnOk_of (by kernel_rfl) (by kernel_rfl) (by kernel_rfl) (by kernel_rfl)
theorem evermorelaw_CodeKraft.con' : ∀ k ds r, evermorelaw_CodeKraft.g k ds = some r → Con Try.prog 13 2 evermorelaw_CodeKraft.ti evermorelaw_CodeKraft.to ds (evermorelaw_CodeKraft.rs r) :=
  fun_ok (T := T) T_ok mixed evermorelaw_CodeKraft.fn (env := evermorelaw_CodeKraft.env) (tbl := evermorelaw_CodeKraft.tbl) (gOut := evermorelaw_CodeKraft.out) (nin := 0) (cuts := [9, 7]) (fuel := 100000) rfl (by kernel_rfl) (by kernel_rfl) (by kernel_rfl) (fun x hx => by
    simp only [evermorelaw_CodeKraft.tbl, List.mem_cons, List.not_mem_nil, or_false] at hx
    rcases hx with rfl | rfl | rfl | rfl
    · exact evermorelaw_CodeKraft.h14
    · exact evermorelaw_CodeKraft.h17
    · exact evermorelaw_CodeKraft.h18
    · exact evermorelaw_CodeKraft.h45
) evermorelaw_CodeKraft.o evermorelaw_CodeKraft.h (fun k _ => by unfold evermorelaw_CodeKraft.env; exact (envC_ok (fun ds K r h => by
    obtain ⟨x0, d0, rfl, h0⟩ := pop_some h
    obtain ⟨x1, d1, rfl, h1⟩ := pop_some h0
    obtain ⟨rfl, g⟩ := popN_some h1
    obtain ⟨r1, h1, h2⟩ := bind_some g
    exact ⟨_, h2, evermoreref24_Kraft.con k _ h1⟩) (envC_ok (fun ds K r h => by
    obtain ⟨x0, d0, rfl, h0⟩ := pop_some h
    obtain ⟨x1, d1, rfl, h1⟩ := pop_some h0
    obtain ⟨rfl, g⟩ := popN_some h1
    obtain ⟨r1, h1, h2⟩ := bind_some g
    exact ⟨_, h2, evermoreref1_May.con k _ h1⟩) (envC_ok (fun ds K r h => by
    obtain ⟨x0, d0, rfl, h0⟩ := pop_some h
    obtain ⟨rfl, g⟩ := popN_some h0
    obtain ⟨r1, h1, h2⟩ := bind_some g
    exact ⟨_, h2, evermoreref24_Apart.con k _ h1⟩) (envC_ok (fun ds K r h => by
    obtain ⟨x0, d0, rfl, h0⟩ := pop_some h
    obtain ⟨x1, d1, rfl, h1⟩ := pop_some h0
    obtain ⟨rfl, g⟩ := popN_some h1
    obtain ⟨r1, h1, h2⟩ := bind_some g
    exact ⟨_, h2, code_Kraft.con k _ h1⟩) env0_ok)))))
theorem evermorelaw_CodeKraft.con (k : Nat) {x0 : Int} {x1 : (List Int)} (r : Bool) (h : evermorelaw_CodeKraft.f k x0 x1 = some r) : Con Try.prog 13 2 evermorelaw_CodeKraft.ti evermorelaw_CodeKraft.to [⟨(.int .i64), x0⟩, ⟨(.slice (.int .i64)), x1⟩] (evermorelaw_CodeKraft.rs r) :=
  evermorelaw_CodeKraft.con' (k + 1) _ r (by show evermorelaw_CodeKraft.c k _ = some r; unfold evermorelaw_CodeKraft.c; simp only [pop_self, popN]; exact h)
/-- The one pure statement of the law, over whatever arguments can be read. -/
def evermorelaw_CodeKraft.PureH : Prop := ∀ (x0 : Int) (x1 : (List Int)), Ty.okv (.int .i64) x0 → Ty.okv (.slice (.int .i64)) x1 → ∃ k, evermorelaw_CodeKraft.f k x0 x1 = some true
end Go.Proofs.YtmagglebkbiffaaSx
