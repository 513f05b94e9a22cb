import Derived.Test.YtfkilmmldjajmaaSxT
import Derived.Test.YtfkilmmldjajmaaSxQ
import Derived.Test.YtfkilmmldjajmaaSxV2
import Derived.Test.YtfkilmmldjajmaaSxW
import Derived.KernelRfl
import Derived.Test.YtfkilmmldjajmaaProg
set_option linter.unusedVariables false
set_option maxRecDepth 100000
namespace Go.Proofs.YtfkilmmldjajmaaSx
open Go Go.Proofs
theorem T_check : T.check Try.prog = true := by kernel_rfl
theorem T_ok : TOk Try.prog T := TT.check_ok T_check
theorem mixed : Try.prog.follows .mixedOrders = true := by kernel_rfl
def evermorelaw_list.f (k : Nat) (l0 : List (Int)) : Option (List Int) :=
 if 0 ≤ (↑l0.length : Int) then
 if (↑l0.length : Int) ≤ Go.IntKind.i64.wrap ((↑l0.length : Int) + 3) then
  if Go.IntKind.i64.wrap ((↑l0.length : Int) + 3) * ((↑8 : Int) + 1) ≤ 281474976710656 then
   some (Go.Proofs.YtfkilmmldjajmaaSx.cpy (List.replicate (↑l0.length : Int).toNat (Int.ofNat 0)) l0 0 (List.replicate (↑l0.length : Int).toNat (Int.ofNat 0)).length)
   else none
  else none
 else none

noncomputable def evermorelaw_list.body : Code := fnBody Try.f78
def evermorelaw_list.ti : Tm := ⟨[(0, .p (.slice (.int .i64)))], []⟩
def evermorelaw_list.to : Tm := ⟨[(0, .own 0)], [.own (.int .i64)]⟩
def evermorelaw_list.rs (r : (List Int)) : List Dat := [⟨(.slice (.int .i64)), r⟩]
def evermorelaw_list.out (ds : List Dat) : Option ((List Int)) := pop (.slice (.int .i64)) ds fun x0 ds => popN ds (some (x0))
def evermorelaw_list.c (k : Nat) (ds : List Dat) : Option ((List Int)) := pop (.slice (.int .i64)) ds fun x0 ds => popN ds (evermorelaw_list.f k x0)
def evermorelaw_list.g : Nat → List Dat → Option ((List Int))
 | 0, _ => none
 | k + 1, ds => evermorelaw_list.c k ds
def evermorelaw_list.env (k : Nat) : Nat → List SV → List Chunk → KT ((List Int)) → Option ((List Int)) := env0
def evermorelaw_list.tbl : List (Nat × Tm × (Nat → List Dat → Option ((List Int)))) := []
noncomputable abbrev evermorelaw_list.R (k : Nat) := run T (evermorelaw_list.env k) Try.f78.ntmps (cutE 0 evermorelaw_list.tbl k) (finE 0 evermorelaw_list.to evermorelaw_list.out) (fnRes Try.f78) [] 100000 true
theorem evermorelaw_list.e (k : Nat) (x0 : (List Int)) : evermorelaw_list.f k x0 = evermorelaw_list.R k ([.code evermorelaw_list.body]) (evermorelaw_list.ti.fill [⟨(.slice (.int .i64)), x0⟩]) := by kernel_rfl
theorem evermorelaw_list.h (k : Nat) (ds : List Dat) (r : (List Int)) (h : evermorelaw_list.g k ds = some r) : ∃ k', k' < k ∧ evermorelaw_list.R k' ([.code evermorelaw_list.body]) (evermorelaw_list.ti.fill ds) = some r := by
  cases k with
  | zero => cases (show none = some r from h)
  | succ k =>
  replace h : evermorelaw_list.c k ds = some r := h
  unfold evermorelaw_list.c at h
  obtain ⟨x0, d0, rfl, h0⟩ := pop_some h
  obtain ⟨rfl, g⟩ := popN_some h0
  exact ⟨k, Nat.lt_succ_self k, (evermorelaw_list.e k x0).symm.trans g⟩
theorem evermorelaw_list.o (ds : List Dat) (r : (List Int)) (h : evermorelaw_list.out ds = some r) : ds = evermorelaw_list.rs r := by
  unfold evermorelaw_list.out at h
  obtain ⟨x0, d0, rfl, h0⟩ := pop_some h
  obtain ⟨rfl, g⟩ := popN_some h0
  cases g
  rfl
theorem evermorelaw_list.fn : FnOk Try.prog 78 Try.f78 evermorelaw_list.body Try.f78.ntmps 1 (fnRes Try.f78) :=
  fnOk_of (by kernel_rfl) (by kernel_rfl) (by kernel_rfl) (by kernel_rfl)
theorem evermorelaw_list.con' : ∀ k ds r, evermorelaw_list.g k ds = some r → Con Try.prog 78 1 evermorelaw_list.ti evermorelaw_list.to ds (evermorelaw_list.rs r) :=
  fun_ok (T := T) T_ok mixed evermorelaw_list.fn (env := evermorelaw_list.env) (tbl := evermorelaw_list.tbl) (gOut := evermorelaw_list.out) (nin := 0) (cuts := []) (fuel := 100000) rfl (by kernel_rfl) (by kernel_rfl) (by kernel_rfl) (fun x hx => by simp [evermorelaw_list.tbl] at hx) evermorelaw_list.o evermorelaw_list.h (fun k _ => by unfold evermorelaw_list.env; exact env0_ok)
theorem evermorelaw_list.con (k : Nat) {x0 : (List Int)} (r : (List Int)) (h : evermorelaw_list.f k x0 = some r) : Con Try.prog 78 1 evermorelaw_list.ti evermorelaw_list.to [⟨(.slice (.int .i64)), x0⟩] (evermorelaw_list.rs r) :=
  evermorelaw_list.con' (k + 1) _ r (by show evermorelaw_list.c k _ = some r; unfold evermorelaw_list.c; simp only [pop_self, popN]; exact h)
mutual
def evermorelaw_lists.l3 : Nat → List (List (Int)) → Int → List (List (Int)) → Option (List (List Int))
 | 0, _, _, _ => none
 | k + 1, l0, i4, out3 =>
  if i4 < (↑l0.length : Int) then
   if 0 ≤ i4 then
   if i4 < (↑l0.length : Int) then
    (evermorelaw_list.f k (Go.Proofs.YtfkilmmldjajmaaSx.rd [] l0 i4)).bind fun r_5 =>
      if Go.Proofs.YtfkilmmldjajmaaSx.fitsIn (out3 ++ [r_5]).length 24 = true then
      evermorelaw_lists.l3 k l0 (Go.IntKind.i64.wrap (i4 + 1)) (out3 ++ [r_5])
      else none
    else none
   else none
  else
   some (out3)
end
def evermorelaw_lists.f (k : Nat) (l0 : List (List (Int))) : Option (List (List Int)) :=
 evermorelaw_lists.l3 k l0 0 []

noncomputable def evermorelaw_lists.body : Code := fnBody Try.f29
def evermorelaw_lists.ti : Tm := ⟨[(0, .p (.slice (.slice (.int .i64))))], []⟩
def evermorelaw_lists.to : Tm := ⟨[(0, .own 0)], [.own (.slice (.int .i64))]⟩
def evermorelaw_lists.rs (r : (List (List Int))) : List Dat := [⟨(.slice (.slice (.int .i64))), r⟩]
def evermorelaw_lists.out (ds : List Dat) : Option ((List (List Int))) := pop (.slice (.slice (.int .i64))) ds fun x0 ds => popN ds (some (x0))
def evermorelaw_lists.c (k : Nat) (ds : List Dat) : Option ((List (List Int))) := pop (.slice (.slice (.int .i64))) ds fun x0 ds => popN ds (evermorelaw_lists.f k x0)
def evermorelaw_lists.g : Nat → List Dat → Option ((List (List Int)))
 | 0, _ => none
 | k + 1, ds => evermorelaw_lists.c k ds
def evermorelaw_lists.env (k : Nat) : Nat → List SV → List Chunk → KT ((List (List Int))) → Option ((List (List Int))) := (envC 78 1 evermorelaw_list.ti evermorelaw_list.to (fun ds K => pop (.slice (.int .i64)) ds fun x0 ds => popN ds ((evermorelaw_list.f k x0).bind fun r => K (evermorelaw_list.rs r))) env0)
def evermorelaw_lists.t7 : Tm := ⟨[(0, .p (.slice (.slice (.int .i64)))), (3, .own 0), (4, .p (.int .i64))], [.own (.slice (.int .i64))]⟩
def evermorelaw_lists.c7 (k : Nat) (ds : List Dat) : Option ((List (List Int))) := pop (.slice (.slice (.int .i64))) ds fun x0 ds => pop (.int .i64) ds fun x1 ds => pop (.slice (.slice (.int .i64))) ds fun x2 ds => popN ds (evermorelaw_lists.l3 k x0 x1 x2)
def evermorelaw_lists.tbl : List (Nat × Tm × (Nat → List Dat → Option ((List (List Int))))) := [(7, evermorelaw_lists.t7, evermorelaw_lists.c7)]
noncomputable abbrev evermorelaw_lists.R (k : Nat) := run T (evermorelaw_lists.env k) Try.f29.ntmps (cutE 0 evermorelaw_lists.tbl k) (finE 0 evermorelaw_lists.to evermorelaw_lists.out) (fnRes Try.f29) [] 100000 true
theorem evermorelaw_lists.e7 (k : Nat) (x0 : (List (List Int))) (x1 : Int) (x2 : (List (List Int))) : evermorelaw_lists.l3 (k + 1) x0 x1 x2 = evermorelaw_lists.R k (start (stackOf 7 evermorelaw_lists.body)) (evermorelaw_lists.t7.fill [⟨(.slice (.slice (.int .i64))), x0⟩, ⟨(.int .i64), x1⟩, ⟨(.slice (.slice (.int .i64))), x2⟩]) := by kernel_rfl
theorem evermorelaw_lists.s7 : stackAt 7 evermorelaw_lists.body [] = some (stackOf 7 evermorelaw_lists.body) := by kernel_rfl
theorem evermorelaw_lists.h7 (k : Nat) (ds : List Dat) (r : (List (List Int))) (h : evermorelaw_lists.c7 k ds = some r) : ∃ k', k' < k ∧ ∃ s, stackAt 7 evermorelaw_lists.body [] = some s ∧ evermorelaw_lists.R k' (start s) (evermorelaw_lists.t7.fill ds) = some r := by
  unfold evermorelaw_lists.c7 at h
  obtain ⟨x0, d0, rfl, h0⟩ := pop_some h
  obtain ⟨x1, d1, rfl, h1⟩ := pop_some h0
  obtain ⟨x2, d2, rfl, h2⟩ := pop_some h1
  obtain ⟨rfl, g⟩ := popN_some h2
  cases k with
  | zero => cases (show none = some r from g)
  | succ k => exact ⟨k, Nat.lt_succ_self k, _, evermorelaw_lists.s7, (evermorelaw_lists.e7 k x0 x1 x2).symm.trans g⟩
theorem evermorelaw_lists.e (k : Nat) (x0 : (List (List Int))) : evermorelaw_lists.f k x0 = evermorelaw_lists.R k ([.code evermorelaw_lists.body]) (evermorelaw_lists.ti.fill [⟨(.slice (.slice (.int .i64))), x0⟩]) := by kernel_rfl
theorem evermorelaw_lists.h (k : Nat) (ds : List Dat) (r : (List (List Int))) (h : evermorelaw_lists.g k ds = some r) : ∃ k', k' < k ∧ evermorelaw_lists.R k' ([.code evermorelaw_lists.body]) (evermorelaw_lists.ti.fill ds) = some r := by
  cases k with
  | zero => cases (show none = some r from h)
  | succ k =>
  replace h : evermorelaw_lists.c k ds = some r := h
  unfold evermorelaw_lists.c at h
  obtain ⟨x0, d0, rfl, h0⟩ := pop_some h
  obtain ⟨rfl, g⟩ := popN_some h0
  exact ⟨k, Nat.lt_succ_self k, (evermorelaw_lists.e k x0).symm.trans g⟩
theorem evermorelaw_lists.o (ds : List Dat) (r : (List (List Int))) (h : evermorelaw_lists.out ds = some r) : ds = evermorelaw_lists.rs r := by
  unfold evermorelaw_lists.out at h
  obtain ⟨x0, d0, rfl, h0⟩ := pop_some h
  obtain ⟨rfl, g⟩ := popN_some h0
  cases g
  rfl
theorem evermorelaw_lists.fn : FnOk Try.prog 29 Try.f29 evermorelaw_lists.body Try.f29.ntmps 1 (fnRes Try.f29) :=
  fnOk_of (by kernel_rfl) (by kernel_rfl) (by kernel_rfl) (by kernel_rfl)
theorem evermorelaw_lists.con' : ∀ k ds r, evermorelaw_lists.g k ds = some r → Con Try.prog 29 1 evermorelaw_lists.ti evermorelaw_lists.to ds (evermorelaw_lists.rs r) :=
  fun_ok (T := T) T_ok mixed evermorelaw_lists.fn (env := evermorelaw_lists.env) (tbl := evermorelaw_lists.tbl) (gOut := evermorelaw_lists.out) (nin := 0) (cuts := []) (fuel := 100000) rfl (by kernel_rfl) (by kernel_rfl) (by kernel_rfl) (fun x hx => by
    simp only [evermorelaw_lists.tbl, List.mem_cons, List.not_mem_nil, or_false] at hx
    subst hx
    · exact evermorelaw_lists.h7
) evermorelaw_lists.o evermorelaw_lists.h (fun k _ => by unfold evermorelaw_lists.env; exact (envC_ok (fun ds K r h => by
    obtain ⟨x0, d0, rfl, h0⟩ := pop_some h
    obtain ⟨rfl, g⟩ := popN_some h0
    obtain ⟨r1, h1, h2⟩ := bind_some g
    exact ⟨_, h2, evermorelaw_list.con k _ h1⟩) env0_ok))
theorem evermorelaw_lists.con (k : Nat) {x0 : (List (List Int))} (r : (List (List Int))) (h : evermorelaw_lists.f k x0 = some r) : Con Try.prog 29 1 evermorelaw_lists.ti evermorelaw_lists.to [⟨(.slice (.slice (.int .i64))), x0⟩] (evermorelaw_lists.rs r) :=
  evermorelaw_lists.con' (k + 1) _ r (by show evermorelaw_lists.c k _ = some r; unfold evermorelaw_lists.c; simp only [pop_self, popN]; exact h)
def code_Check_1.f (k : Nat) (a0 : Int) (x1_0 : Int) : Option (Bool × Int) :=
 if a0 < 0 then
  some (true, x1_0)
 else
  some (decide (x1_0 ≤ a0), x1_0)

noncomputable def code_Check_1.body : Code := fnBody Try.f97
def code_Check_1.ti : Tm := ⟨[(0, .p (.int .i64)), (1, .ptr 0 0)], [.box [.p (.int .i64)] 3]⟩
def code_Check_1.to : Tm := ⟨[(0, .p .bool)], [.box [.p (.int .i64)] 3]⟩
def code_Check_1.rs (r : Bool × Int) : List Dat := [⟨.bool, r.1⟩, ⟨(.int .i64), r.2⟩]
def code_Check_1.out (ds : List Dat) : Option (Bool × Int) := pop .bool ds fun x0 ds => pop (.int .i64) ds fun x1 ds => popN ds (some (x0, x1))
def code_Check_1.c (k : Nat) (ds : List Dat) : Option (Bool × Int) := pop (.int .i64) ds fun x0 ds => pop (.int .i64) ds fun x1 ds => popN ds (code_Check_1.f k x0 x1)
def code_Check_1.g : Nat → List Dat → Option (Bool × Int)
 | 0, _ => none
 | k + 1, ds => code_Check_1.c k ds
def code_Check_1.env (k : Nat) : Nat → List SV → List Chunk → KT (Bool × Int) → Option (Bool × Int) := env0
def code_Check_1.tbl : List (Nat × Tm × (Nat → List Dat → Option (Bool × Int))) := []
noncomputable abbrev code_Check_1.R (k : Nat) := run T (code_Check_1.env k) Try.f97.ntmps (cutE 1 code_Check_1.tbl k) (finE 1 code_Check_1.to code_Check_1.out) (fnRes Try.f97) [] 100000 true
theorem code_Check_1.e (k : Nat) (x0 : Int) (x1 : Int) : code_Check_1.f k x0 x1 = code_Check_1.R k ([.code code_Check_1.body]) (code_Check_1.ti.fill [⟨(.int .i64), x0⟩, ⟨(.int .i64), x1⟩]) := by kernel_rfl
theorem code_Check_1.h (k : Nat) (ds : List Dat) (r : Bool × Int) (h : code_Check_1.g k ds = some r) : ∃ k', k' < k ∧ code_Check_1.R k' ([.code code_Check_1.body]) (code_Check_1.ti.fill ds) = some r := by
  cases k with
  | zero => cases (show none = some r from h)
  | succ k =>
  replace h : code_Check_1.c k ds = some r := h
  unfold code_Check_1.c at h
  obtain ⟨x0, d0, rfl, h0⟩ := pop_some h
  obtain ⟨x1, d1, rfl, h1⟩ := pop_some h0
  obtain ⟨rfl, g⟩ := popN_some h1
  exact ⟨k, Nat.lt_succ_self k, (code_Check_1.e k x0 x1).symm.trans g⟩
theorem code_Check_1.o (ds : List Dat) (r : Bool × Int) (h : code_Check_1.out ds = some r) : ds = code_Check_1.rs r := by
  unfold code_Check_1.out at h
  obtain ⟨x0, d0, rfl, h0⟩ := pop_some h
  obtain ⟨x1, d1, rfl, h1⟩ := pop_some h0
  obtain ⟨rfl, g⟩ := popN_some h1
  cases g
  rfl
theorem code_Check_1.fn : FnOk Try.prog 97 Try.f97 code_Check_1.body Try.f97.ntmps 2 (fnRes Try.f97) :=
  fnOk_of (by kernel_rfl) (by kernel_rfl) (by kernel_rfl) (by kernel_rfl)
theorem code_Check_1.con' : ∀ k ds r, code_Check_1.g k ds = some r → Con Try.prog 97 2 code_Check_1.ti code_Check_1.to ds (code_Check_1.rs r) :=
  fun_ok (T := T) T_ok mixed code_Check_1.fn (env := code_Check_1.env) (tbl := code_Check_1.tbl) (gOut := code_Check_1.out) (nin := 1) (cuts := []) (fuel := 100000) rfl (by kernel_rfl) (by kernel_rfl) (by kernel_rfl) (fun x hx => by simp [code_Check_1.tbl] at hx) code_Check_1.o code_Check_1.h (fun k _ => by unfold code_Check_1.env; exact env0_ok)
theorem code_Check_1.con (k : Nat) {x0 : Int} {x1 : Int} (r : Bool × Int) (h : code_Check_1.f k x0 x1 = some r) : Con Try.prog 97 2 code_Check_1.ti code_Check_1.to [⟨(.int .i64), x0⟩, ⟨(.int .i64), x1⟩] (code_Check_1.rs r) :=
  code_Check_1.con' (k + 1) _ r (by show code_Check_1.c k _ = some r; unfold code_Check_1.c; simp only [pop_self, popN]; exact h)
mutual
def slices_IndexFunc___int_int_.l2 : Nat → List (Int) → Int → Int → Int → Option (Int × Int)
 | 0, _, _, _, _ => none
 | k + 1, s0, x7, x8, c0_0 =>
  if x8 < x7 then
   if 0 ≤ x8 then
   if x8 < (↑s0.length : Int) then
    (code_Check_1.f k (Go.Proofs.YtfkilmmldjajmaaSx.rd (Int.ofNat 0) s0 x8) c0_0).bind fun r_5 =>
      if r_5.fst = true then
       some (x8, r_5.snd)
      else
       slices_IndexFunc___int_int_.l2 k s0 x7 (Go.IntKind.i64.wrap (x8 + 1)) r_5.snd
    else none
   else none
  else
   some (-1, c0_0)
end
def slices_IndexFunc___int_int_.f (k : Nat) (s0 : List (Int)) (c0_0 : Int) : Option (Int × Int) :=
 slices_IndexFunc___int_int_.l2 k s0 ((↑s0.length : Int)) 0 c0_0

noncomputable def slices_IndexFunc___int_int_.body : Code := fnBody Try.f146
def slices_IndexFunc___int_int_.ti : Tm := ⟨[(0, .p (.slice (.int .i64))), (1, .fn 97 [.ptr 0 0])], [.box [.p (.int .i64)] 3]⟩
def slices_IndexFunc___int_int_.to : Tm := ⟨[(0, .p (.int .i64))], [.box [.p (.int .i64)] 3]⟩
def slices_IndexFunc___int_int_.rs (r : Int × Int) : List Dat := [⟨(.int .i64), r.1⟩, ⟨(.int .i64), r.2⟩]
def slices_IndexFunc___int_int_.out (ds : List Dat) : Option (Int × Int) := pop (.int .i64) ds fun x0 ds => pop (.int .i64) ds fun x1 ds => popN ds (some (x0, x1))
def slices_IndexFunc___int_int_.c (k : Nat) (ds : List Dat) : Option (Int × Int) := pop (.slice (.int .i64)) ds fun x0 ds => pop (.int .i64) ds fun x1 ds => popN ds (slices_IndexFunc___int_int_.f k x0 x1)
def slices_IndexFunc___int_int_.g : Nat → List Dat → Option (Int × Int)
 | 0, _ => none
 | k + 1, ds => slices_IndexFunc___int_int_.c k ds
def slices_IndexFunc___int_int_.env (k : Nat) : Nat → List SV → List Chunk → KT (Int × Int) → Option (Int × Int) := (envC 97 2 code_Check_1.ti code_Check_1.to (fun ds K => pop (.int .i64) ds fun x0 ds => pop (.int .i64) ds fun x1 ds => popN ds ((code_Check_1.f k x0 x1).bind fun r => K (code_Check_1.rs r))) env0)
def slices_IndexFunc___int_int_.t5 : Tm := ⟨[(0, .p (.slice (.int .i64))), (1, .fn 97 [.ptr 0 0]), (7, .p (.int .i64)), (8, .p (.int .i64))], [.box [.p (.int .i64)] 3]⟩
def slices_IndexFunc___int_int_.c5 (k : Nat) (ds : List Dat) : Option (Int × Int) := pop (.slice (.int .i64)) ds fun x0 ds => pop (.int .i64) ds fun x1 ds => pop (.int .i64) ds fun x2 ds => pop (.int .i64) ds fun x3 ds => popN ds (slices_IndexFunc___int_int_.l2 k x0 x1 x2 x3)
def slices_IndexFunc___int_int_.tbl : List (Nat × Tm × (Nat → List Dat → Option (Int × Int))) := [(5, slices_IndexFunc___int_int_.t5, slices_IndexFunc___int_int_.c5)]
noncomputable abbrev slices_IndexFunc___int_int_.R (k : Nat) := run T (slices_IndexFunc___int_int_.env k) Try.f146.ntmps (cutE 1 slices_IndexFunc___int_int_.tbl k) (finE 1 slices_IndexFunc___int_int_.to slices_IndexFunc___int_int_.out) (fnRes Try.f146) [] 100000 true
theorem slices_IndexFunc___int_int_.e5 (k : Nat) (x0 : (List Int)) (x1 : Int) (x2 : Int) (x3 : Int) : slices_IndexFunc___int_int_.l2 (k + 1) x0 x1 x2 x3 = slices_IndexFunc___int_int_.R k (start (stackOf 5 slices_IndexFunc___int_int_.body)) (slices_IndexFunc___int_int_.t5.fill [⟨(.slice (.int .i64)), x0⟩, ⟨(.int .i64), x1⟩, ⟨(.int .i64), x2⟩, ⟨(.int .i64), x3⟩]) := by kernel_rfl
theorem slices_IndexFunc___int_int_.s5 : stackAt 5 slices_IndexFunc___int_int_.body [] = some (stackOf 5 slices_IndexFunc___int_int_.body) := by kernel_rfl
theorem slices_IndexFunc___int_int_.h5 (k : Nat) (ds : List Dat) (r : Int × Int) (h : slices_IndexFunc___int_int_.c5 k ds = some r) : ∃ k', k' < k ∧ ∃ s, stackAt 5 slices_IndexFunc___int_int_.body [] = some s ∧ slices_IndexFunc___int_int_.R k' (start s) (slices_IndexFunc___int_int_.t5.fill ds) = some r := by
  unfold slices_IndexFunc___int_int_.c5 at h
  obtain ⟨x0, d0, rfl, h0⟩ := pop_some h
  obtain ⟨x1, d1, rfl, h1⟩ := pop_some h0
  obtain ⟨x2, d2, rfl, h2⟩ := pop_some h1
  obtain ⟨x3, d3, rfl, h3⟩ := pop_some h2
  obtain ⟨rfl, g⟩ := popN_some h3
  cases k with
  | zero => cases (show none = some r from g)
  | succ k => exact ⟨k, Nat.lt_succ_self k, _, slices_IndexFunc___int_int_.s5, (slices_IndexFunc___int_int_.e5 k x0 x1 x2 x3).symm.trans g⟩
theorem slices_IndexFunc___int_int_.e (k : Nat) (x0 : (List Int)) (x1 : Int) : slices_IndexFunc___int_int_.f k x0 x1 = slices_IndexFunc___int_int_.R k ([.code slices_IndexFunc___int_int_.body]) (slices_IndexFunc___int_int_.ti.fill [⟨(.slice (.int .i64)), x0⟩, ⟨(.int .i64), x1⟩]) := by kernel_rfl
theorem slices_IndexFunc___int_int_.h (k : Nat) (ds : List Dat) (r : Int × Int) (h : slices_IndexFunc___int_int_.g k ds = some r) : ∃ k', k' < k ∧ slices_IndexFunc___int_int_.R k' ([.code slices_IndexFunc___int_int_.body]) (slices_IndexFunc___int_int_.ti.fill ds) = some r := by
  cases k with
  | zero => cases (show none = some r from h)
  | succ k =>
  replace h : slices_IndexFunc___int_int_.c k ds = some r := h
  unfold slices_IndexFunc___int_int_.c at h
  obtain ⟨x0, d0, rfl, h0⟩ := pop_some h
  obtain ⟨x1, d1, rfl, h1⟩ := pop_some h0
  obtain ⟨rfl, g⟩ := popN_some h1
  exact ⟨k, Nat.lt_succ_self k, (slices_IndexFunc___int_int_.e k x0 x1).symm.trans g⟩
theorem slices_IndexFunc___int_int_.o (ds : List Dat) (r : Int × Int) (h : slices_IndexFunc___int_int_.out ds = some r) : ds = slices_IndexFunc___int_int_.rs r := by
  unfold slices_IndexFunc___int_int_.out at h
  obtain ⟨x0, d0, rfl, h0⟩ := pop_some h
  obtain ⟨x1, d1, rfl, h1⟩ := pop_some h0
  obtain ⟨rfl, g⟩ := popN_some h1
  cases g
  rfl
theorem slices_IndexFunc___int_int_.fn : FnOk Try.prog 146 Try.f146 slices_IndexFunc___int_int_.body Try.f146.ntmps 2 (fnRes Try.f146) :=
  fnOk_of (by kernel_rfl) (by kernel_rfl) (by kernel_rfl) (by kernel_rfl)
theorem slices_IndexFunc___int_int_.con' : ∀ k ds r, slices_IndexFunc___int_int_.g k ds = some r → Con Try.prog 146 2 slices_IndexFunc___int_int_.ti slices_IndexFunc___int_int_.to ds (slices_IndexFunc___int_int_.rs r) :=
  fun_ok (T := T) T_ok mixed slices_IndexFunc___int_int_.fn (env := slices_IndexFunc___int_int_.env) (tbl := slices_IndexFunc___int_int_.tbl) (gOut := slices_IndexFunc___int_int_.out) (nin := 1) (cuts := []) (fuel := 100000) rfl (by kernel_rfl) (by kernel_rfl) (by kernel_rfl) (fun x hx => by
    simp only [slices_IndexFunc___int_int_.tbl, List.mem_cons, List.not_mem_nil, or_false] at hx
    subst hx
    · exact slices_IndexFunc___int_int_.h5
) slices_IndexFunc___int_int_.o slices_IndexFunc___int_int_.h (fun k _ => by unfold slices_IndexFunc___int_int_.env; exact (envC_ok (fun ds K r h => by
    obtain ⟨x0, d0, rfl, h0⟩ := pop_some h
    obtain ⟨x1, d1, rfl, h1⟩ := pop_some h0
    obtain ⟨rfl, g⟩ := popN_some h1
    obtain ⟨r1, h1, h2⟩ := bind_some g
    exact ⟨_, h2, code_Check_1.con k _ h1⟩) env0_ok))
theorem slices_IndexFunc___int_int_.con (k : Nat) {x0 : (List Int)} {x1 : Int} (r : Int × Int) (h : slices_IndexFunc___int_int_.f k x0 x1 = some r) : Con Try.prog 146 2 slices_IndexFunc___int_int_.ti slices_IndexFunc___int_int_.to [⟨(.slice (.int .i64)), x0⟩, ⟨(.int .i64), x1⟩] (slices_IndexFunc___int_int_.rs r) :=
  slices_IndexFunc___int_int_.con' (k + 1) _ r (by show slices_IndexFunc___int_int_.c k _ = some r; unfold slices_IndexFunc___int_int_.c; simp only [pop_self, popN]; exact h)
def slices_ContainsFunc___int_int_.f (k : Nat) (s0 : List (Int)) (c0_0 : Int) : Option (Bool × Int) :=
 (slices_IndexFunc___int_int_.f k s0 c0_0).bind fun r_1 =>
  some (decide (0 ≤ r_1.fst), r_1.snd)

noncomputable def slices_ContainsFunc___int_int_.body : Code := fnBody Try.f74
def slices_ContainsFunc___int_int_.ti : Tm := ⟨[(0, .p (.slice (.int .i64))), (1, .fn 97 [.ptr 0 0])], [.box [.p (.int .i64)] 3]⟩
def slices_ContainsFunc___int_int_.to : Tm := ⟨[(0, .p .bool)], [.box [.p (.int .i64)] 3]⟩
def slices_ContainsFunc___int_int_.rs (r : Bool × Int) : List Dat := [⟨.bool, r.1⟩, ⟨(.int .i64), r.2⟩]
def slices_ContainsFunc___int_int_.out (ds : List Dat) : Option (Bool × Int) := pop .bool ds fun x0 ds => pop (.int .i64) ds fun x1 ds => popN ds (some (x0, x1))
def slices_ContainsFunc___int_int_.c (k : Nat) (ds : List Dat) : Option (Bool × Int) := pop (.slice (.int .i64)) ds fun x0 ds => pop (.int .i64) ds fun x1 ds => popN ds (slices_ContainsFunc___int_int_.f k x0 x1)
def slices_ContainsFunc___int_int_.g : Nat → List Dat → Option (Bool × Int)
 | 0, _ => none
 | k + 1, ds => slices_ContainsFunc___int_int_.c k ds
def slices_ContainsFunc___int_int_.env (k : Nat) : Nat → List SV → List Chunk → KT (Bool × Int) → Option (Bool × Int) := (envC 146 2 slices_IndexFunc___int_int_.ti slices_IndexFunc___int_int_.to (fun ds K => pop (.slice (.int .i64)) ds fun x0 ds => pop (.int .i64) ds fun x1 ds => popN ds ((slices_IndexFunc___int_int_.f k x0 x1).bind fun r => K (slices_IndexFunc___int_int_.rs r))) env0)
def slices_ContainsFunc___int_int_.tbl : List (Nat × Tm × (Nat → List Dat → Option (Bool × Int))) := []
noncomputable abbrev slices_ContainsFunc___int_int_.R (k : Nat) := run T (slices_ContainsFunc___int_int_.env k) Try.f74.ntmps (cutE 1 slices_ContainsFunc___int_int_.tbl k) (finE 1 slices_ContainsFunc___int_int_.to slices_ContainsFunc___int_int_.out) (fnRes Try.f74) [] 100000 true
theorem slices_ContainsFunc___int_int_.e (k : Nat) (x0 : (List Int)) (x1 : Int) : slices_ContainsFunc___int_int_.f k x0 x1 = slices_ContainsFunc___int_int_.R k ([.code slices_ContainsFunc___int_int_.body]) (slices_ContainsFunc___int_int_.ti.fill [⟨(.slice (.int .i64)), x0⟩, ⟨(.int .i64), x1⟩]) := by kernel_rfl
theorem slices_ContainsFunc___int_int_.h (k : Nat) (ds : List Dat) (r : Bool × Int) (h : slices_ContainsFunc___int_int_.g k ds = some r) : ∃ k', k' < k ∧ slices_ContainsFunc___int_int_.R k' ([.code slices_ContainsFunc___int_int_.body]) (slices_ContainsFunc___int_int_.ti.fill ds) = some r := by
  cases k with
  | zero => cases (show none = some r from h)
  | succ k =>
  replace h : slices_ContainsFunc___int_int_.c k ds = some r := h
  unfold slices_ContainsFunc___int_int_.c at h
  obtain ⟨x0, d0, rfl, h0⟩ := pop_some h
  obtain ⟨x1, d1, rfl, h1⟩ := pop_some h0
  obtain ⟨rfl, g⟩ := popN_some h1
  exact ⟨k, Nat.lt_succ_self k, (slices_ContainsFunc___int_int_.e k x0 x1).symm.trans g⟩
theorem slices_ContainsFunc___int_int_.o (ds : List Dat) (r : Bool × Int) (h : slices_ContainsFunc___int_int_.out ds = some r) : ds = slices_ContainsFunc___int_int_.rs r := by
  unfold slices_ContainsFunc___int_int_.out at h
  obtain ⟨x0, d0, rfl, h0⟩ := pop_some h
  obtain ⟨x1, d1, rfl, h1⟩ := pop_some h0
  obtain ⟨rfl, g⟩ := popN_some h1
  cases g
  rfl
theorem slices_ContainsFunc___int_int_.fn : FnOk Try.prog 74 Try.f74 slices_ContainsFunc___int_int_.body Try.f74.ntmps 2 (fnRes Try.f74) :=
  fnOk_of (by kernel_rfl) (by kernel_rfl) (by kernel_rfl) (by kernel_rfl)
theorem slices_ContainsFunc___int_int_.con' : ∀ k ds r, slices_ContainsFunc___int_int_.g k ds = some r → Con Try.prog 74 2 slices_ContainsFunc___int_int_.ti slices_ContainsFunc___int_int_.to ds (slices_ContainsFunc___int_int_.rs r) :=
  fun_ok (T := T) T_ok mixed slices_ContainsFunc___int_int_.fn (env := slices_ContainsFunc___int_int_.env) (tbl := slices_ContainsFunc___int_int_.tbl) (gOut := slices_ContainsFunc___int_int_.out) (nin := 1) (cuts := []) (fuel := 100000) rfl (by kernel_rfl) (by kernel_rfl) (by kernel_rfl) (fun x hx => by simp [slices_ContainsFunc___int_int_.tbl] at hx) slices_ContainsFunc___int_int_.o slices_ContainsFunc___int_int_.h (fun k _ => by unfold slices_ContainsFunc___int_int_.env; exact (envC_ok (fun ds K r h => by
    obtain ⟨x0, d0, rfl, h0⟩ := pop_some h
    obtain ⟨x1, d1, rfl, h1⟩ := pop_some h0
    obtain ⟨rfl, g⟩ := popN_some h1
    obtain ⟨r1, h1, h2⟩ := bind_some g
    exact ⟨_, h2, slices_IndexFunc___int_int_.con k _ h1⟩) env0_ok))
theorem slices_ContainsFunc___int_int_.con (k : Nat) {x0 : (List Int)} {x1 : Int} (r : Bool × Int) (h : slices_ContainsFunc___int_int_.f k x0 x1 = some r) : Con Try.prog 74 2 slices_ContainsFunc___int_int_.ti slices_ContainsFunc___int_int_.to [⟨(.slice (.int .i64)), x0⟩, ⟨(.int .i64), x1⟩] (slices_ContainsFunc___int_int_.rs r) :=
  slices_ContainsFunc___int_int_.con' (k + 1) _ r (by show slices_ContainsFunc___int_int_.c k _ = some r; unfold slices_ContainsFunc___int_int_.c; simp only [pop_self, popN]; exact h)
mutual
def code_Check.l6 : Nat → List (List (Int)) → Int → Int → Int → Option (Int)
 | 0, _, _, _, _ => none
 | k + 1, x21, x22, x23, letters2_0 =>
  if x23 < x22 then
   if 0 ≤ x23 then
   if x23 < (↑x21.length : Int) then
    if (↑(Go.Proofs.YtfkilmmldjajmaaSx.rd [] x21 x23).length : Int) < 1 then
      some (1)
     else
      if 10 < (↑(Go.Proofs.YtfkilmmldjajmaaSx.rd [] x21 x23).length : Int) then
       some (1)
      else
       (slices_ContainsFunc___int_int_.f k (Go.Proofs.YtfkilmmldjajmaaSx.rd [] x21 x23) letters2_0).bind fun r_7 =>
        if r_7.fst = true then
         some (2)
        else
         code_Check.l6 k x21 x22 (Go.IntKind.i64.wrap (x23 + 1)) r_7.snd
    else none
   else none
  else
   some (0)
end
def code_Check.f (k : Nat) (letters0 : Int) (l1 : List (List (Int))) : Option (Int) :=
 if letters0 < 1 then
  some (2)
 else
  if 4 < letters0 then
   some (2)
  else
   if (↑l1.length : Int) < 1 then
    some (1)
   else
    if 10 < (↑l1.length : Int) then
     some (1)
    else
     code_Check.l6 k l1 ((↑l1.length : Int)) 0 letters0

noncomputable def code_Check.body : Code := fnBody Try.f31
def code_Check.ti : Tm := ⟨[(0, .p (.int .i64)), (1, .p (.slice (.slice (.int .i64))))], []⟩
def code_Check.to : Tm := ⟨[(0, .p (.int .i64))], []⟩
def code_Check.rs (r : Int) : List Dat := [⟨(.int .i64), r⟩]
def code_Check.out (ds : List Dat) : Option (Int) := pop (.int .i64) ds fun x0 ds => popN ds (some (x0))
def code_Check.c (k : Nat) (ds : List Dat) : Option (Int) := pop (.int .i64) ds fun x0 ds => pop (.slice (.slice (.int .i64))) ds fun x1 ds => popN ds (code_Check.f k x0 x1)
def code_Check.g : Nat → List Dat → Option (Int)
 | 0, _ => none
 | k + 1, ds => code_Check.c k ds
def code_Check.env (k : Nat) : Nat → List SV → List Chunk → KT (Int) → Option (Int) := (envC 74 2 slices_ContainsFunc___int_int_.ti slices_ContainsFunc___int_int_.to (fun ds K => pop (.slice (.int .i64)) ds fun x0 ds => pop (.int .i64) ds fun x1 ds => popN ds ((slices_ContainsFunc___int_int_.f k x0 x1).bind fun r => K (slices_ContainsFunc___int_int_.rs r))) env0)
def code_Check.t13 : Tm := ⟨[(2, .ptr 0 0), (21, .p (.slice (.slice (.int .i64)))), (22, .p (.int .i64)), (23, .p (.int .i64))], [.box [.p (.int .i64)] 3]⟩
def code_Check.c13 (k : Nat) (ds : List Dat) : Option (Int) := pop (.slice (.slice (.int .i64))) ds fun x0 ds => pop (.int .i64) ds fun x1 ds => pop (.int .i64) ds fun x2 ds => pop (.int .i64) ds fun x3 ds => popN ds (code_Check.l6 k x0 x1 x2 x3)
def code_Check.tbl : List (Nat × Tm × (Nat → List Dat → Option (Int))) := [(13, code_Check.t13, code_Check.c13)]
noncomputable abbrev code_Check.R (k : Nat) := run T (code_Check.env k) Try.f31.ntmps (cutE 0 code_Check.tbl k) (finE 0 code_Check.to code_Check.out) (fnRes Try.f31) [] 100000 true
theorem code_Check.e13 (k : Nat) (x0 : (List (List Int))) (x1 : Int) (x2 : Int) (x3 : Int) : code_Check.l6 (k + 1) x0 x1 x2 x3 = code_Check.R k (start (stackOf 13 code_Check.body)) (code_Check.t13.fill [⟨(.slice (.slice (.int .i64))), x0⟩, ⟨(.int .i64), x1⟩, ⟨(.int .i64), x2⟩, ⟨(.int .i64), x3⟩]) := by kernel_rfl
theorem code_Check.s13 : stackAt 13 code_Check.body [] = some (stackOf 13 code_Check.body) := by kernel_rfl
theorem code_Check.h13 (k : Nat) (ds : List Dat) (r : Int) (h : code_Check.c13 k ds = some r) : ∃ k', k' < k ∧ ∃ s, stackAt 13 code_Check.body [] = some s ∧ code_Check.R k' (start s) (code_Check.t13.fill ds) = some r := by
  unfold code_Check.c13 at h
  obtain ⟨x0, d0, rfl, h0⟩ := pop_some h
  obtain ⟨x1, d1, rfl, h1⟩ := pop_some h0
  obtain ⟨x2, d2, rfl, h2⟩ := pop_some h1
  obtain ⟨x3, d3, rfl, h3⟩ := pop_some h2
  obtain ⟨rfl, g⟩ := popN_some h3
  cases k with
  | zero => cases (show none = some r from g)
  | succ k => exact ⟨k, Nat.lt_succ_self k, _, code_Check.s13, (code_Check.e13 k x0 x1 x2 x3).symm.trans g⟩
theorem code_Check.e (k : Nat) (x0 : Int) (x1 : (List (List Int))) : code_Check.f k x0 x1 = code_Check.R k ([.code code_Check.body]) (code_Check.ti.fill [⟨(.int .i64), x0⟩, ⟨(.slice (.slice (.int .i64))), x1⟩]) := by kernel_rfl
theorem code_Check.h (k : Nat) (ds : List Dat) (r : Int) (h : code_Check.g k ds = some r) : ∃ k', k' < k ∧ code_Check.R k' ([.code code_Check.body]) (code_Check.ti.fill ds) = some r := by
  cases k with
  | zero => cases (show none = some r from h)
  | succ k =>
  replace h : code_Check.c k ds = some r := h
  unfold code_Check.c at h
  obtain ⟨x0, d0, rfl, h0⟩ := pop_some h
  obtain ⟨x1, d1, rfl, h1⟩ := pop_some h0
  obtain ⟨rfl, g⟩ := popN_some h1
  exact ⟨k, Nat.lt_succ_self k, (code_Check.e k x0 x1).symm.trans g⟩
theorem code_Check.o (ds : List Dat) (r : Int) (h : code_Check.out ds = some r) : ds = code_Check.rs r := by
  unfold code_Check.out at h
  obtain ⟨x0, d0, rfl, h0⟩ := pop_some h
  obtain ⟨rfl, g⟩ := popN_some h0
  cases g
  rfl
theorem code_Check.fn : FnOk Try.prog 31 Try.f31 code_Check.body Try.f31.ntmps 2 (fnRes Try.f31) :=
  fnOk_of (by kernel_rfl) (by kernel_rfl) (by kernel_rfl) (by kernel_rfl)
theorem code_Check.con' : ∀ k ds r, code_Check.g k ds = some r → Con Try.prog 31 2 code_Check.ti code_Check.to ds (code_Check.rs r) :=
  fun_ok (T := T) T_ok mixed code_Check.fn (env := code_Check.env) (tbl := code_Check.tbl) (gOut := code_Check.out) (nin := 0) (cuts := []) (fuel := 100000) rfl (by kernel_rfl) (by kernel_rfl) (by kernel_rfl) (fun x hx => by
    simp only [code_Check.tbl, List.mem_cons, List.not_mem_nil, or_false] at hx
    subst hx
    · exact code_Check.h13
) code_Check.o code_Check.h (fun k _ => by unfold code_Check.env; exact (envC_ok (fun ds K r h => by
    obtain ⟨x0, d0, rfl, h0⟩ := pop_some h
    obtain ⟨x1, d1, rfl, h1⟩ := pop_some h0
    obtain ⟨rfl, g⟩ := popN_some h1
    obtain ⟨r1, h1, h2⟩ := bind_some g
    exact ⟨_, h2, slices_ContainsFunc___int_int_.con k _ h1⟩) env0_ok))
theorem code_Check.con (k : Nat) {x0 : Int} {x1 : (List (List Int))} (r : Int) (h : code_Check.f k x0 x1 = some r) : Con Try.prog 31 2 code_Check.ti code_Check.to [⟨(.int .i64), x0⟩, ⟨(.slice (.slice (.int .i64))), x1⟩] (code_Check.rs r) :=
  code_Check.con' (k + 1) _ r (by show code_Check.c k _ = some r; unfold code_Check.c; simp only [pop_self, popN]; exact h)
mutual
def slices_Equal___int_int_.l4 : Nat → List (Int) → List (Int) → Int → Int → Option (Bool)
 | 0, _, _, _, _ => none
 | k + 1, s10, s21, x12, x13 =>
  if x13 < x12 then
   if 0 ≤ x13 then
   if x13 < (↑s10.length : Int) then
    if 0 ≤ x13 then
     if x13 < (↑s21.length : Int) then
      if Go.Proofs.YtfkilmmldjajmaaSx.rd (Int.ofNat 0) s10 x13 = Go.Proofs.YtfkilmmldjajmaaSx.rd (Int.ofNat 0) s21 x13 then
        slices_Equal___int_int_.l4 k s10 s21 x12 (Go.IntKind.i64.wrap (x13 + 1))
       else
        some (false)
      else none
     else none
    else none
   else none
  else
   some (true)
end
def slices_Equal___int_int_.f (k : Nat) (s10 : List (Int)) (s21 : List (Int)) : Option (Bool) :=
 if (↑s10.length : Int) = (↑s21.length : Int) then
  slices_Equal___int_int_.l4 k s10 s21 ((↑s10.length : Int)) 0
 else
  some (false)

noncomputable def slices_Equal___int_int_.body : Code := fnBody Try.f96
def slices_Equal___int_int_.ti : Tm := ⟨[(0, .p (.slice (.int .i64))), (1, .p (.slice (.int .i64)))], []⟩
def slices_Equal___int_int_.to : Tm := ⟨[(0, .p .bool)], []⟩
def slices_Equal___int_int_.rs (r : Bool) : List Dat := [⟨.bool, r⟩]
def slices_Equal___int_int_.out (ds : List Dat) : Option (Bool) := pop .bool ds fun x0 ds => popN ds (some (x0))
def slices_Equal___int_int_.c (k : Nat) (ds : List Dat) : Option (Bool) := pop (.slice (.int .i64)) ds fun x0 ds => pop (.slice (.int .i64)) ds fun x1 ds => popN ds (slices_Equal___int_int_.f k x0 x1)
def slices_Equal___int_int_.g : Nat → List Dat → Option (Bool)
 | 0, _ => none
 | k + 1, ds => slices_Equal___int_int_.c k ds
def slices_Equal___int_int_.env (k : Nat) : Nat → List SV → List Chunk → KT (Bool) → Option (Bool) := env0
def slices_Equal___int_int_.t9 : Tm := ⟨[(0, .p (.slice (.int .i64))), (1, .p (.slice (.int .i64))), (12, .p (.int .i64)), (13, .p (.int .i64))], []⟩
def slices_Equal___int_int_.c9 (k : Nat) (ds : List Dat) : Option (Bool) := pop (.slice (.int .i64)) ds fun x0 ds => pop (.slice (.int .i64)) ds fun x1 ds => pop (.int .i64) ds fun x2 ds => pop (.int .i64) ds fun x3 ds => popN ds (slices_Equal___int_int_.l4 k x0 x1 x2 x3)
def slices_Equal___int_int_.tbl : List (Nat × Tm × (Nat → List Dat → Option (Bool))) := [(9, slices_Equal___int_int_.t9, slices_Equal___int_int_.c9)]
noncomputable abbrev slices_Equal___int_int_.R (k : Nat) := run T (slices_Equal___int_int_.env k) Try.f96.ntmps (cutE 0 slices_Equal___int_int_.tbl k) (finE 0 slices_Equal___int_int_.to slices_Equal___int_int_.out) (fnRes Try.f96) [] 100000 true
theorem slices_Equal___int_int_.e9 (k : Nat) (x0 : (List Int)) (x1 : (List Int)) (x2 : Int) (x3 : Int) : slices_Equal___int_int_.l4 (k + 1) x0 x1 x2 x3 = slices_Equal___int_int_.R k (start (stackOf 9 slices_Equal___int_int_.body)) (slices_Equal___int_int_.t9.fill [⟨(.slice (.int .i64)), x0⟩, ⟨(.slice (.int .i64)), x1⟩, ⟨(.int .i64), x2⟩, ⟨(.int .i64), x3⟩]) := by kernel_rfl
theorem slices_Equal___int_int_.s9 : stackAt 9 slices_Equal___int_int_.body [] = some (stackOf 9 slices_Equal___int_int_.body) := by kernel_rfl
theorem slices_Equal___int_int_.h9 (k : Nat) (ds : List Dat) (r : Bool) (h : slices_Equal___int_int_.c9 k ds = some r) : ∃ k', k' < k ∧ ∃ s, stackAt 9 slices_Equal___int_int_.body [] = some s ∧ slices_Equal___int_int_.R k' (start s) (slices_Equal___int_int_.t9.fill ds) = some r := by
  unfold slices_Equal___int_int_.c9 at h
  obtain ⟨x0, d0, rfl, h0⟩ := pop_some h
  obtain ⟨x1, d1, rfl, h1⟩ := pop_some h0
  obtain ⟨x2, d2, rfl, h2⟩ := pop_some h1
  obtain ⟨x3, d3, rfl, h3⟩ := pop_some h2
  obtain ⟨rfl, g⟩ := popN_some h3
  cases k with
  | zero => cases (show none = some r from g)
  | succ k => exact ⟨k, Nat.lt_succ_self k, _, slices_Equal___int_int_.s9, (slices_Equal___int_int_.e9 k x0 x1 x2 x3).symm.trans g⟩
theorem slices_Equal___int_int_.e (k : Nat) (x0 : (List Int)) (x1 : (List Int)) : slices_Equal___int_int_.f k x0 x1 = slices_Equal___int_int_.R k ([.code slices_Equal___int_int_.body]) (slices_Equal___int_int_.ti.fill [⟨(.slice (.int .i64)), x0⟩, ⟨(.slice (.int .i64)), x1⟩]) := by kernel_rfl
theorem slices_Equal___int_int_.h (k : Nat) (ds : List Dat) (r : Bool) (h : slices_Equal___int_int_.g k ds = some r) : ∃ k', k' < k ∧ slices_Equal___int_int_.R k' ([.code slices_Equal___int_int_.body]) (slices_Equal___int_int_.ti.fill ds) = some r := by
  cases k with
  | zero => cases (show none = some r from h)
  | succ k =>
  replace h : slices_Equal___int_int_.c k ds = some r := h
  unfold slices_Equal___int_int_.c at h
  obtain ⟨x0, d0, rfl, h0⟩ := pop_some h
  obtain ⟨x1, d1, rfl, h1⟩ := pop_some h0
  obtain ⟨rfl, g⟩ := popN_some h1
  exact ⟨k, Nat.lt_succ_self k, (slices_Equal___int_int_.e k x0 x1).symm.trans g⟩
theorem slices_Equal___int_int_.o (ds : List Dat) (r : Bool) (h : slices_Equal___int_int_.out ds = some r) : ds = slices_Equal___int_int_.rs r := by
  unfold slices_Equal___int_int_.out at h
  obtain ⟨x0, d0, rfl, h0⟩ := pop_some h
  obtain ⟨rfl, g⟩ := popN_some h0
  cases g
  rfl
theorem slices_Equal___int_int_.fn : FnOk Try.prog 96 Try.f96 slices_Equal___int_int_.body Try.f96.ntmps 2 (fnRes Try.f96) :=
  fnOk_of (by kernel_rfl) (by kernel_rfl) (by kernel_rfl) (by kernel_rfl)
theorem slices_Equal___int_int_.con' : ∀ k ds r, slices_Equal___int_int_.g k ds = some r → Con Try.prog 96 2 slices_Equal___int_int_.ti slices_Equal___int_int_.to ds (slices_Equal___int_int_.rs r) :=
  fun_ok (T := T) T_ok mixed slices_Equal___int_int_.fn (env := slices_Equal___int_int_.env) (tbl := slices_Equal___int_int_.tbl) (gOut := slices_Equal___int_int_.out) (nin := 0) (cuts := []) (fuel := 100000) rfl (by kernel_rfl) (by kernel_rfl) (by kernel_rfl) (fun x hx => by
    simp only [slices_Equal___int_int_.tbl, List.mem_cons, List.not_mem_nil, or_false] at hx
    subst hx
    · exact slices_Equal___int_int_.h9
) slices_Equal___int_int_.o slices_Equal___int_int_.h (fun k _ => by unfold slices_Equal___int_int_.env; exact env0_ok)
theorem slices_Equal___int_int_.con (k : Nat) {x0 : (List Int)} {x1 : (List Int)} (r : Bool) (h : slices_Equal___int_int_.f k x0 x1 = some r) : Con Try.prog 96 2 slices_Equal___int_int_.ti slices_Equal___int_int_.to [⟨(.slice (.int .i64)), x0⟩, ⟨(.slice (.int .i64)), x1⟩] (slices_Equal___int_int_.rs r) :=
  slices_Equal___int_int_.con' (k + 1) _ r (by show slices_Equal___int_int_.c k _ = some r; unfold slices_Equal___int_int_.c; simp only [pop_self, popN]; exact h)
mutual
def det_Key.l3 : Nat → List (Int) → Int → Int → List (Int) → Option (ByteArray)
 | 0, _, _, _, _ => none
 | k + 1, x6, x7, x8, b3 =>
  if x8 < x7 then
   if 0 ≤ x8 then
   if x8 < (↑x6.length : Int) then
    if 0 ≤ 8 then
     if Go.Proofs.YtfkilmmldjajmaaSx.fitsIn (b3 ++ [Go.IntKind.u8.wrap (Go.Proofs.YtfkilmmldjajmaaSx.rd (Int.ofNat 0) x6 x8), Go.IntKind.u8.wrap ((Go.Proofs.YtfkilmmldjajmaaSx.rd (Int.ofNat 0) x6 x8).fdiv (2 ^ min (Int.toNat 8) Go.IntKind.i64.bits))]).length 1 = true then
      det_Key.l3 k x6 x7 (Go.IntKind.i64.wrap (x8 + 1)) (b3 ++ [Go.IntKind.u8.wrap (Go.Proofs.YtfkilmmldjajmaaSx.rd (Int.ofNat 0) x6 x8), Go.IntKind.u8.wrap ((Go.Proofs.YtfkilmmldjajmaaSx.rd (Int.ofNat 0) x6 x8).fdiv (2 ^ min (Int.toNat 8) Go.IntKind.i64.bits))])
      else none
     else none
    else none
   else none
  else
   some (Go.Proofs.YtfkilmmldjajmaaSx.strOf b3)
end
def det_Key.f (k : Nat) (l0 : List (Int)) : Option (ByteArray) :=
 det_Key.l3 k l0 ((↑l0.length : Int)) 0 []

noncomputable def det_Key.body : Code := fnBody Try.f95
def det_Key.ti : Tm := ⟨[(0, .p (.slice (.int .i64)))], []⟩
def det_Key.to : Tm := ⟨[(0, .p .str)], []⟩
def det_Key.rs (r : ByteArray) : List Dat := [⟨.str, r⟩]
def det_Key.out (ds : List Dat) : Option (ByteArray) := pop .str ds fun x0 ds => popN ds (some (x0))
def det_Key.c (k : Nat) (ds : List Dat) : Option (ByteArray) := pop (.slice (.int .i64)) ds fun x0 ds => popN ds (det_Key.f k x0)
def det_Key.g : Nat → List Dat → Option (ByteArray)
 | 0, _ => none
 | k + 1, ds => det_Key.c k ds
def det_Key.env (k : Nat) : Nat → List SV → List Chunk → KT (ByteArray) → Option (ByteArray) := env0
def det_Key.t7 : Tm := ⟨[(3, .own 0), (6, .p (.slice (.int .i64))), (7, .p (.int .i64)), (8, .p (.int .i64))], [.own (.int .u8)]⟩
def det_Key.c7 (k : Nat) (ds : List Dat) : Option (ByteArray) := pop (.slice (.int .i64)) ds fun x0 ds => pop (.int .i64) ds fun x1 ds => pop (.int .i64) ds fun x2 ds => pop (.slice (.int .u8)) ds fun x3 ds => popN ds (det_Key.l3 k x0 x1 x2 x3)
def det_Key.tbl : List (Nat × Tm × (Nat → List Dat → Option (ByteArray))) := [(7, det_Key.t7, det_Key.c7)]
noncomputable abbrev det_Key.R (k : Nat) := run T (det_Key.env k) Try.f95.ntmps (cutE 0 det_Key.tbl k) (finE 0 det_Key.to det_Key.out) (fnRes Try.f95) [] 100000 true
theorem det_Key.e7 (k : Nat) (x0 : (List Int)) (x1 : Int) (x2 : Int) (x3 : (List Int)) : det_Key.l3 (k + 1) x0 x1 x2 x3 = det_Key.R k (start (stackOf 7 det_Key.body)) (det_Key.t7.fill [⟨(.slice (.int .i64)), x0⟩, ⟨(.int .i64), x1⟩, ⟨(.int .i64), x2⟩, ⟨(.slice (.int .u8)), x3⟩]) := by kernel_rfl
theorem det_Key.s7 : stackAt 7 det_Key.body [] = some (stackOf 7 det_Key.body) := by kernel_rfl
theorem det_Key.h7 (k : Nat) (ds : List Dat) (r : ByteArray) (h : det_Key.c7 k ds = some r) : ∃ k', k' < k ∧ ∃ s, stackAt 7 det_Key.body [] = some s ∧ det_Key.R k' (start s) (det_Key.t7.fill ds) = some r := by
  unfold det_Key.c7 at h
  obtain ⟨x0, d0, rfl, h0⟩ := pop_some h
  obtain ⟨x1, d1, rfl, h1⟩ := pop_some h0
  obtain ⟨x2, d2, rfl, h2⟩ := pop_some h1
  obtain ⟨x3, d3, rfl, h3⟩ := pop_some h2
  obtain ⟨rfl, g⟩ := popN_some h3
  cases k with
  | zero => cases (show none = some r from g)
  | succ k => exact ⟨k, Nat.lt_succ_self k, _, det_Key.s7, (det_Key.e7 k x0 x1 x2 x3).symm.trans g⟩
theorem det_Key.e (k : Nat) (x0 : (List Int)) : det_Key.f k x0 = det_Key.R k ([.code det_Key.body]) (det_Key.ti.fill [⟨(.slice (.int .i64)), x0⟩]) := by kernel_rfl
theorem det_Key.h (k : Nat) (ds : List Dat) (r : ByteArray) (h : det_Key.g k ds = some r) : ∃ k', k' < k ∧ det_Key.R k' ([.code det_Key.body]) (det_Key.ti.fill ds) = some r := by
  cases k with
  | zero => cases (show none = some r from h)
  | succ k =>
  replace h : det_Key.c k ds = some r := h
  unfold det_Key.c at h
  obtain ⟨x0, d0, rfl, h0⟩ := pop_some h
  obtain ⟨rfl, g⟩ := popN_some h0
  exact ⟨k, Nat.lt_succ_self k, (det_Key.e k x0).symm.trans g⟩
theorem det_Key.o (ds : List Dat) (r : ByteArray) (h : det_Key.out ds = some r) : ds = det_Key.rs r := by
  unfold det_Key.out at h
  obtain ⟨x0, d0, rfl, h0⟩ := pop_some h
  obtain ⟨rfl, g⟩ := popN_some h0
  cases g
  rfl
theorem det_Key.fn : FnOk Try.prog 95 Try.f95 det_Key.body Try.f95.ntmps 1 (fnRes Try.f95) :=
  fnOk_of (by kernel_rfl) (by kernel_rfl) (by kernel_rfl) (by kernel_rfl)
theorem det_Key.con' : ∀ k ds r, det_Key.g k ds = some r → Con Try.prog 95 1 det_Key.ti det_Key.to ds (det_Key.rs r) :=
  fun_ok (T := T) T_ok mixed det_Key.fn (env := det_Key.env) (tbl := det_Key.tbl) (gOut := det_Key.out) (nin := 0) (cuts := []) (fuel := 100000) rfl (by kernel_rfl) (by kernel_rfl) (by kernel_rfl) (fun x hx => by
    simp only [det_Key.tbl, List.mem_cons, List.not_mem_nil, or_false] at hx
    subst hx
    · exact det_Key.h7
) det_Key.o det_Key.h (fun k _ => by unfold det_Key.env; exact env0_ok)
theorem det_Key.con (k : Nat) {x0 : (List Int)} (r : ByteArray) (h : det_Key.f k x0 = some r) : Con Try.prog 95 1 det_Key.ti det_Key.to [⟨(.slice (.int .i64)), x0⟩] (det_Key.rs r) :=
  det_Key.con' (k + 1) _ r (by show det_Key.c k _ = some r; unfold det_Key.c; simp only [pop_self, popN]; exact h)
def slices_Clone___int_int_.f (k : Nat) (x0 : List (Int)) : Option (List (Int)) := if Short x0.length then some x0 else none
def slices_Clone___int_int_.ti : Tm := cloneIn (.int .i64)
def slices_Clone___int_int_.to : Tm := cloneOut (.int .i64)
def slices_Clone___int_int_.rs (r : List Int) : List Dat := [⟨.slice (.int .i64), r⟩]
theorem slices_Clone___int_int_.fn : FnOk Try.prog 81 Try.f81 (fnBody Try.f81) Try.f81.ntmps 1 (fnRes Try.f81) :=
  fnOk_of (by kernel_rfl) (by kernel_rfl) (by kernel_rfl) (by kernel_rfl)
theorem slices_Clone___int_int_.con (k : Nat) {x0 : List Int} (r : List Int) (h : slices_Clone___int_int_.f k x0 = some r) : Con Try.prog 81 1 slices_Clone___int_int_.ti slices_Clone___int_int_.to [⟨.slice (.int .i64), x0⟩] (slices_Clone___int_int_.rs r) := by
  unfold slices_Clone___int_int_.f at h
  split at h
  · rename_i hs
    cases h
    exact clone_con (by_ := elemB T 23) (u := (.int .i64)) (t := 23) (t' := 23) (k := restOf (stackOf 2 (fnBody Try.f81))) (ops := opsAt 1 (fnBody Try.f81)) (o1 := opAt 0 (opsAt 1 (fnBody Try.f81))) (o2 := opAt 1 (opsAt 1 (fnBody Try.f81))) T_ok mixed slices_Clone___int_int_.fn (by kernel_rfl) ⟨by kernel_rfl, by kernel_rfl, by kernel_rfl, by kernel_rfl, by kernel_rfl, by kernel_rfl, by kernel_rfl, ⟨3, by kernel_rfl⟩⟩ (Nat.le_of_ble_eq_true (by kernel_rfl)) (by kernel_rfl) (by kernel_rfl) (fun L => by kernel_rfl) (by kernel_rfl) (fun L => by kernel_rfl) (by kernel_rfl) x0 hs
  · cases h
def code_Unique_1.f (k : Nat) (r0 : (List (Int) × (List (Int) × (List (Int) × Unit)))) (c2 : List ((ByteArray × Int))) (c3 : List ((List (Int) × (List (Int) × (List (Int) × Unit))))) : Option (List (ByteArray × Int) × List (List Int × List Int × List Int × Unit)) :=
 (det_Key.f k r0.fst).bind fun r_1 =>
  if Go.Proofs.YtfkilmmldjajmaaSx.mget Go.Proofs.YtfkilmmldjajmaaSx.Ty.str (Go.Proofs.YtfkilmmldjajmaaSx.Ty.int Go.IntKind.i64) c2 r_1 = 0 then
   if Go.Proofs.YtfkilmmldjajmaaSx.fitsIn (c3 ++ [(r0.fst, r0.snd.fst, r0.snd.snd.fst, ())]).length 72 = true then
   some (Go.Proofs.YtfkilmmldjajmaaSx.mput Go.Proofs.YtfkilmmldjajmaaSx.Ty.str (Go.Proofs.YtfkilmmldjajmaaSx.Ty.int Go.IntKind.i64) c2 r_1 (Int.ofNat 1), c3 ++ [(r0.fst, r0.snd.fst, r0.snd.snd.fst, ())])
   else none
  else
   some (c2, c3)

noncomputable def code_Unique_1.body : Code := fnBody Try.f94
def code_Unique_1.ti : Tm := ⟨[(0, .p (.pair (.slice (.int .i64)) (.pair (.slice (.int .i64)) (.pair (.slice (.int .i64)) .unit)))), (1, .ptr 0 0), (2, .ptr 1 0)], [.box [.map 2] 125, .box [.own 3] 126, .map .str (.int .i64), .own (.pair (.slice (.int .i64)) (.pair (.slice (.int .i64)) (.pair (.slice (.int .i64)) .unit)))]⟩
def code_Unique_1.to : Tm := ⟨[], [.box [.map 2] 125, .box [.own 4] 126, .map .str (.int .i64), .gone, .own (.pair (.slice (.int .i64)) (.pair (.slice (.int .i64)) (.pair (.slice (.int .i64)) .unit)))]⟩
def code_Unique_1.rs (r : (List (ByteArray × Int)) × (List ((List Int) × ((List Int) × ((List Int) × Unit))))) : List Dat := [⟨(.slice (.pair .str (.int .i64))), r.1⟩, ⟨(.slice (.pair (.slice (.int .i64)) (.pair (.slice (.int .i64)) (.pair (.slice (.int .i64)) .unit)))), r.2⟩]
def code_Unique_1.out (ds : List Dat) : Option ((List (ByteArray × Int)) × (List ((List Int) × ((List Int) × ((List Int) × Unit))))) := pop (.slice (.pair .str (.int .i64))) ds fun x0 ds => pop (.slice (.pair (.slice (.int .i64)) (.pair (.slice (.int .i64)) (.pair (.slice (.int .i64)) .unit)))) ds fun x1 ds => popN ds (some (x0, x1))
def code_Unique_1.c (k : Nat) (ds : List Dat) : Option ((List (ByteArray × Int)) × (List ((List Int) × ((List Int) × ((List Int) × Unit))))) := pop (.pair (.slice (.int .i64)) (.pair (.slice (.int .i64)) (.pair (.slice (.int .i64)) .unit))) ds fun x0 ds => pop (.slice (.pair .str (.int .i64))) ds fun x1 ds => pop (.slice (.pair (.slice (.int .i64)) (.pair (.slice (.int .i64)) (.pair (.slice (.int .i64)) .unit)))) ds fun x2 ds => popN ds (code_Unique_1.f k x0 x1 x2)
def code_Unique_1.g : Nat → List Dat → Option ((List (ByteArray × Int)) × (List ((List Int) × ((List Int) × ((List Int) × Unit)))))
 | 0, _ => none
 | k + 1, ds => code_Unique_1.c k ds
def code_Unique_1.env (k : Nat) : Nat → List SV → List Chunk → KT ((List (ByteArray × Int)) × (List ((List Int) × ((List Int) × ((List Int) × Unit))))) → Option ((List (ByteArray × Int)) × (List ((List Int) × ((List Int) × ((List Int) × Unit))))) := (envC 95 1 det_Key.ti det_Key.to (fun ds K => pop (.slice (.int .i64)) ds fun x0 ds => popN ds ((det_Key.f k x0).bind fun r => K (det_Key.rs r))) env0)
def code_Unique_1.tbl : List (Nat × Tm × (Nat → List Dat → Option ((List (ByteArray × Int)) × (List ((List Int) × ((List Int) × ((List Int) × Unit))))))) := []
noncomputable abbrev code_Unique_1.R (k : Nat) := run T (code_Unique_1.env k) Try.f94.ntmps (cutE 4 code_Unique_1.tbl k) (finE 4 code_Unique_1.to code_Unique_1.out) (fnRes Try.f94) [] 100000 true
theorem code_Unique_1.e (k : Nat) (x0 : ((List Int) × ((List Int) × ((List Int) × Unit)))) (x1 : (List (ByteArray × Int))) (x2 : (List ((List Int) × ((List Int) × ((List Int) × Unit))))) : code_Unique_1.f k x0 x1 x2 = code_Unique_1.R k ([.code code_Unique_1.body]) (code_Unique_1.ti.fill [⟨(.pair (.slice (.int .i64)) (.pair (.slice (.int .i64)) (.pair (.slice (.int .i64)) .unit))), x0⟩, ⟨(.slice (.pair .str (.int .i64))), x1⟩, ⟨(.slice (.pair (.slice (.int .i64)) (.pair (.slice (.int .i64)) (.pair (.slice (.int .i64)) .unit)))), x2⟩]) := by kernel_rfl
theorem code_Unique_1.h (k : Nat) (ds : List Dat) (r : (List (ByteArray × Int)) × (List ((List Int) × ((List Int) × ((List Int) × Unit))))) (h : code_Unique_1.g k ds = some r) : ∃ k', k' < k ∧ code_Unique_1.R k' ([.code code_Unique_1.body]) (code_Unique_1.ti.fill ds) = some r := by
  cases k with
  | zero => cases (show none = some r from h)
  | succ k =>
  replace h : code_Unique_1.c k ds = some r := h
  unfold code_Unique_1.c at h
  obtain ⟨x0, d0, rfl, h0⟩ := pop_some h
  obtain ⟨x1, d1, rfl, h1⟩ := pop_some h0
  obtain ⟨x2, d2, rfl, h2⟩ := pop_some h1
  obtain ⟨rfl, g⟩ := popN_some h2
  exact ⟨k, Nat.lt_succ_self k, (code_Unique_1.e k x0 x1 x2).symm.trans g⟩
theorem code_Unique_1.o (ds : List Dat) (r : (List (ByteArray × Int)) × (List ((List Int) × ((List Int) × ((List Int) × Unit))))) (h : code_Unique_1.out ds = some r) : ds = code_Unique_1.rs r := by
  unfold code_Unique_1.out at h
  obtain ⟨x0, d0, rfl, h0⟩ := pop_some h
  obtain ⟨x1, d1, rfl, h1⟩ := pop_some h0
  obtain ⟨rfl, g⟩ := popN_some h1
  cases g
  rfl
theorem code_Unique_1.fn : FnOk Try.prog 94 Try.f94 code_Unique_1.body Try.f94.ntmps 3 (fnRes Try.f94) :=
  fnOk_of (by kernel_rfl) (by kernel_rfl) (by kernel_rfl) (by kernel_rfl)
theorem code_Unique_1.con' : ∀ k ds r, code_Unique_1.g k ds = some r → Con Try.prog 94 3 code_Unique_1.ti code_Unique_1.to ds (code_Unique_1.rs r) :=
  fun_ok (T := T) T_ok mixed code_Unique_1.fn (env := code_Unique_1.env) (tbl := code_Unique_1.tbl) (gOut := code_Unique_1.out) (nin := 4) (cuts := []) (fuel := 100000) rfl (by kernel_rfl) (by kernel_rfl) (by kernel_rfl) (fun x hx => by simp [code_Unique_1.tbl] at hx) code_Unique_1.o code_Unique_1.h (fun k _ => by unfold code_Unique_1.env; exact (envC_ok (fun ds K r h => by
    obtain ⟨x0, d0, rfl, h0⟩ := pop_some h
    obtain ⟨rfl, g⟩ := popN_some h0
    obtain ⟨r1, h1, h2⟩ := bind_some g
    exact ⟨_, h2, det_Key.con k _ h1⟩) env0_ok))
theorem code_Unique_1.con (k : Nat) {x0 : ((List Int) × ((List Int) × ((List Int) × Unit)))} {x1 : (List (ByteArray × Int))} {x2 : (List ((List Int) × ((List Int) × ((List Int) × Unit))))} (r : (List (ByteArray × Int)) × (List ((List Int) × ((List Int) × ((List Int) × Unit))))) (h : code_Unique_1.f k x0 x1 x2 = some r) : Con Try.prog 94 3 code_Unique_1.ti code_Unique_1.to [⟨(.pair (.slice (.int .i64)) (.pair (.slice (.int .i64)) (.pair (.slice (.int .i64)) .unit))), x0⟩, ⟨(.slice (.pair .str (.int .i64))), x1⟩, ⟨(.slice (.pair (.slice (.int .i64)) (.pair (.slice (.int .i64)) (.pair (.slice (.int .i64)) .unit)))), x2⟩] (code_Unique_1.rs r) :=
  code_Unique_1.con' (k + 1) _ r (by show code_Unique_1.c k _ = some r; unfold code_Unique_1.c; simp only [pop_self, popN]; exact h)
def code_Unique_1_2.f (k : Nat) (r0 : (List (Int) × (List (Int) × (List (Int) × Unit)))) (c2 : List ((ByteArray × Int))) (c3 : List ((List (Int) × (List (Int) × (List (Int) × Unit))))) : Option (List (ByteArray × Int) × List (List Int × List Int × List Int × Unit)) :=
 (det_Key.f k r0.fst).bind fun r_1 =>
  if Go.Proofs.YtfkilmmldjajmaaSx.mget Go.Proofs.YtfkilmmldjajmaaSx.Ty.str (Go.Proofs.YtfkilmmldjajmaaSx.Ty.int Go.IntKind.i64) c2 r_1 = 0 then
   if Go.Proofs.YtfkilmmldjajmaaSx.fitsIn (c3 ++ [(r0.fst, r0.snd.fst, r0.snd.snd.fst, ())]).length 72 = true then
   some (Go.Proofs.YtfkilmmldjajmaaSx.mput Go.Proofs.YtfkilmmldjajmaaSx.Ty.str (Go.Proofs.YtfkilmmldjajmaaSx.Ty.int Go.IntKind.i64) c2 r_1 (Int.ofNat 1), c3 ++ [(r0.fst, r0.snd.fst, r0.snd.snd.fst, ())])
   else none
  else
   some (c2, c3)

noncomputable def code_Unique_1_2.body : Code := fnBody Try.f94
def code_Unique_1_2.ti : Tm := ⟨[(0, .p (.pair (.slice (.int .i64)) (.pair (.slice (.int .i64)) (.pair (.slice (.int .i64)) .unit)))), (1, .ptr 0 0), (2, .ptr 1 0)], [.box [.map 2] 125, .box [.own 3] 126, .map .str (.int .i64), .own (.pair (.slice (.int .i64)) (.pair (.slice (.int .i64)) (.pair (.slice (.int .i64)) .unit)))]⟩
def code_Unique_1_2.to : Tm := ⟨[], [.box [.map 2] 125, .box [.own 4] 126, .map .str (.int .i64), .gone, .own (.pair (.slice (.int .i64)) (.pair (.slice (.int .i64)) (.pair (.slice (.int .i64)) .unit)))]⟩
def code_Unique_1_2.rs (r : (List (ByteArray × Int)) × (List ((List Int) × ((List Int) × ((List Int) × Unit))))) : List Dat := [⟨(.slice (.pair .str (.int .i64))), r.1⟩, ⟨(.slice (.pair (.slice (.int .i64)) (.pair (.slice (.int .i64)) (.pair (.slice (.int .i64)) .unit)))), r.2⟩]
def code_Unique_1_2.out (ds : List Dat) : Option ((List (ByteArray × Int)) × (List ((List Int) × ((List Int) × ((List Int) × Unit))))) := pop (.slice (.pair .str (.int .i64))) ds fun x0 ds => pop (.slice (.pair (.slice (.int .i64)) (.pair (.slice (.int .i64)) (.pair (.slice (.int .i64)) .unit)))) ds fun x1 ds => popN ds (some (x0, x1))
def code_Unique_1_2.c (k : Nat) (ds : List Dat) : Option ((List (ByteArray × Int)) × (List ((List Int) × ((List Int) × ((List Int) × Unit))))) := pop (.pair (.slice (.int .i64)) (.pair (.slice (.int .i64)) (.pair (.slice (.int .i64)) .unit))) ds fun x0 ds => pop (.slice (.pair .str (.int .i64))) ds fun x1 ds => pop (.slice (.pair (.slice (.int .i64)) (.pair (.slice (.int .i64)) (.pair (.slice (.int .i64)) .unit)))) ds fun x2 ds => popN ds (code_Unique_1_2.f k x0 x1 x2)
def code_Unique_1_2.g : Nat → List Dat → Option ((List (ByteArray × Int)) × (List ((List Int) × ((List Int) × ((List Int) × Unit)))))
 | 0, _ => none
 | k + 1, ds => code_Unique_1_2.c k ds
def code_Unique_1_2.env (k : Nat) : Nat → List SV → List Chunk → KT ((List (ByteArray × Int)) × (List ((List Int) × ((List Int) × ((List Int) × Unit))))) → Option ((List (ByteArray × Int)) × (List ((List Int) × ((List Int) × ((List Int) × Unit))))) := (envC 95 1 det_Key.ti det_Key.to (fun ds K => pop (.slice (.int .i64)) ds fun x0 ds => popN ds ((det_Key.f k x0).bind fun r => K (det_Key.rs r))) env0)
def code_Unique_1_2.tbl : List (Nat × Tm × (Nat → List Dat → Option ((List (ByteArray × Int)) × (List ((List Int) × ((List Int) × ((List Int) × Unit))))))) := []
noncomputable abbrev code_Unique_1_2.R (k : Nat) := run T (code_Unique_1_2.env k) Try.f94.ntmps (cutE 4 code_Unique_1_2.tbl k) (finE 4 code_Unique_1_2.to code_Unique_1_2.out) (fnRes Try.f94) [] 100000 true
theorem code_Unique_1_2.e (k : Nat) (x0 : ((List Int) × ((List Int) × ((List Int) × Unit)))) (x1 : (List (ByteArray × Int))) (x2 : (List ((List Int) × ((List Int) × ((List Int) × Unit))))) : code_Unique_1_2.f k x0 x1 x2 = code_Unique_1_2.R k ([.code code_Unique_1_2.body]) (code_Unique_1_2.ti.fill [⟨(.pair (.slice (.int .i64)) (.pair (.slice (.int .i64)) (.pair (.slice (.int .i64)) .unit))), x0⟩, ⟨(.slice (.pair .str (.int .i64))), x1⟩, ⟨(.slice (.pair (.slice (.int .i64)) (.pair (.slice (.int .i64)) (.pair (.slice (.int .i64)) .unit)))), x2⟩]) := by kernel_rfl
theorem code_Unique_1_2.h (k : Nat) (ds : List Dat) (r : (List (ByteArray × Int)) × (List ((List Int) × ((List Int) × ((List Int) × Unit))))) (h : code_Unique_1_2.g k ds = some r) : ∃ k', k' < k ∧ code_Unique_1_2.R k' ([.code code_Unique_1_2.body]) (code_Unique_1_2.ti.fill ds) = some r := by
  cases k with
  | zero => cases (show none = some r from h)
  | succ k =>
  replace h : code_Unique_1_2.c k ds = some r := h
  unfold code_Unique_1_2.c at h
  obtain ⟨x0, d0, rfl, h0⟩ := pop_some h
  obtain ⟨x1, d1, rfl, h1⟩ := pop_some h0
  obtain ⟨x2, d2, rfl, h2⟩ := pop_some h1
  obtain ⟨rfl, g⟩ := popN_some h2
  exact ⟨k, Nat.lt_succ_self k, (code_Unique_1_2.e k x0 x1 x2).symm.trans g⟩
theorem code_Unique_1_2.o (ds : List Dat) (r : (List (ByteArray × Int)) × (List ((List Int) × ((List Int) × ((List Int) × Unit))))) (h : code_Unique_1_2.out ds = some r) : ds = code_Unique_1_2.rs r := by
  unfold code_Unique_1_2.out at h
  obtain ⟨x0, d0, rfl, h0⟩ := pop_some h
  obtain ⟨x1, d1, rfl, h1⟩ := pop_some h0
  obtain ⟨rfl, g⟩ := popN_some h1
  cases g
  rfl
theorem code_Unique_1_2.fn : FnOk Try.prog 94 Try.f94 code_Unique_1_2.body Try.f94.ntmps 3 (fnRes Try.f94) :=
  fnOk_of (by kernel_rfl) (by kernel_rfl) (by kernel_rfl) (by kernel_rfl)
theorem code_Unique_1_2.con' : ∀ k ds r, code_Unique_1_2.g k ds = some r → Con Try.prog 94 3 code_Unique_1_2.ti code_Unique_1_2.to ds (code_Unique_1_2.rs r) :=
  fun_ok (T := T) T_ok mixed code_Unique_1_2.fn (env := code_Unique_1_2.env) (tbl := code_Unique_1_2.tbl) (gOut := code_Unique_1_2.out) (nin := 4) (cuts := []) (fuel := 100000) rfl (by kernel_rfl) (by kernel_rfl) (by kernel_rfl) (fun x hx => by simp [code_Unique_1_2.tbl] at hx) code_Unique_1_2.o code_Unique_1_2.h (fun k _ => by unfold code_Unique_1_2.env; exact (envC_ok (fun ds K r h => by
    obtain ⟨x0, d0, rfl, h0⟩ := pop_some h
    obtain ⟨rfl, g⟩ := popN_some h0
    obtain ⟨r1, h1, h2⟩ := bind_some g
    exact ⟨_, h2, det_Key.con k _ h1⟩) env0_ok))
theorem code_Unique_1_2.con (k : Nat) {x0 : ((List Int) × ((List Int) × ((List Int) × Unit)))} {x1 : (List (ByteArray × Int))} {x2 : (List ((List Int) × ((List Int) × ((List Int) × Unit))))} (r : (List (ByteArray × Int)) × (List ((List Int) × ((List Int) × ((List Int) × Unit))))) (h : code_Unique_1_2.f k x0 x1 x2 = some r) : Con Try.prog 94 3 code_Unique_1_2.ti code_Unique_1_2.to [⟨(.pair (.slice (.int .i64)) (.pair (.slice (.int .i64)) (.pair (.slice (.int .i64)) .unit))), x0⟩, ⟨(.slice (.pair .str (.int .i64))), x1⟩, ⟨(.slice (.pair (.slice (.int .i64)) (.pair (.slice (.int .i64)) (.pair (.slice (.int .i64)) .unit)))), x2⟩] (code_Unique_1_2.rs r) :=
  code_Unique_1_2.con' (k + 1) _ r (by show code_Unique_1_2.c k _ = some r; unfold code_Unique_1_2.c; simp only [pop_self, popN]; exact h)
def code_Unique_1_3.f (k : Nat) (r0 : (List (Int) × (List (Int) × (List (Int) × Unit)))) (c2 : List ((ByteArray × Int))) (c3 : List ((List (Int) × (List (Int) × (List (Int) × Unit))))) : Option (List (ByteArray × Int) × List (List Int × List Int × List Int × Unit)) :=
 (det_Key.f k r0.fst).bind fun r_1 =>
  if Go.Proofs.YtfkilmmldjajmaaSx.mget Go.Proofs.YtfkilmmldjajmaaSx.Ty.str (Go.Proofs.YtfkilmmldjajmaaSx.Ty.int Go.IntKind.i64) c2 r_1 = 0 then
   if Go.Proofs.YtfkilmmldjajmaaSx.fitsIn (c3 ++ [(r0.fst, r0.snd.fst, r0.snd.snd.fst, ())]).length 72 = true then
   some (Go.Proofs.YtfkilmmldjajmaaSx.mput Go.Proofs.YtfkilmmldjajmaaSx.Ty.str (Go.Proofs.YtfkilmmldjajmaaSx.Ty.int Go.IntKind.i64) c2 r_1 (Int.ofNat 1), c3 ++ [(r0.fst, r0.snd.fst, r0.snd.snd.fst, ())])
   else none
  else
   some (c2, c3)

noncomputable def code_Unique_1_3.body : Code := fnBody Try.f94
def code_Unique_1_3.ti : Tm := ⟨[(0, .p (.pair (.slice (.int .i64)) (.pair (.slice (.int .i64)) (.pair (.slice (.int .i64)) .unit)))), (1, .ptr 0 0), (2, .ptr 1 0)], [.box [.map 2] 125, .box [.own 3] 126, .map .str (.int .i64), .own (.pair (.slice (.int .i64)) (.pair (.slice (.int .i64)) (.pair (.slice (.int .i64)) .unit)))]⟩
def code_Unique_1_3.to : Tm := ⟨[], [.box [.map 2] 125, .box [.own 4] 126, .map .str (.int .i64), .gone, .own (.pair (.slice (.int .i64)) (.pair (.slice (.int .i64)) (.pair (.slice (.int .i64)) .unit)))]⟩
def code_Unique_1_3.rs (r : (List (ByteArray × Int)) × (List ((List Int) × ((List Int) × ((List Int) × Unit))))) : List Dat := [⟨(.slice (.pair .str (.int .i64))), r.1⟩, ⟨(.slice (.pair (.slice (.int .i64)) (.pair (.slice (.int .i64)) (.pair (.slice (.int .i64)) .unit)))), r.2⟩]
def code_Unique_1_3.out (ds : List Dat) : Option ((List (ByteArray × Int)) × (List ((List Int) × ((List Int) × ((List Int) × Unit))))) := pop (.slice (.pair .str (.int .i64))) ds fun x0 ds => pop (.slice (.pair (.slice (.int .i64)) (.pair (.slice (.int .i64)) (.pair (.slice (.int .i64)) .unit)))) ds fun x1 ds => popN ds (some (x0, x1))
def code_Unique_1_3.c (k : Nat) (ds : List Dat) : Option ((List (ByteArray × Int)) × (List ((List Int) × ((List Int) × ((List Int) × Unit))))) := pop (.pair (.slice (.int .i64)) (.pair (.slice (.int .i64)) (.pair (.slice (.int .i64)) .unit))) ds fun x0 ds => pop (.slice (.pair .str (.int .i64))) ds fun x1 ds => pop (.slice (.pair (.slice (.int .i64)) (.pair (.slice (.int .i64)) (.pair (.slice (.int .i64)) .unit)))) ds fun x2 ds => popN ds (code_Unique_1_3.f k x0 x1 x2)
def code_Unique_1_3.g : Nat → List Dat → Option ((List (ByteArray × Int)) × (List ((List Int) × ((List Int) × ((List Int) × Unit)))))
 | 0, _ => none
 | k + 1, ds => code_Unique_1_3.c k ds
def code_Unique_1_3.env (k : Nat) : Nat → List SV → List Chunk → KT ((List (ByteArray × Int)) × (List ((List Int) × ((List Int) × ((List Int) × Unit))))) → Option ((List (ByteArray × Int)) × (List ((List Int) × ((List Int) × ((List Int) × Unit))))) := (envC 95 1 det_Key.ti det_Key.to (fun ds K => pop (.slice (.int .i64)) ds fun x0 ds => popN ds ((det_Key.f k x0).bind fun r => K (det_Key.rs r))) env0)
def code_Unique_1_3.tbl : List (Nat × Tm × (Nat → List Dat → Option ((List (ByteArray × Int)) × (List ((List Int) × ((List Int) × ((List Int) × Unit))))))) := []
noncomputable abbrev code_Unique_1_3.R (k : Nat) := run T (code_Unique_1_3.env k) Try.f94.ntmps (cutE 4 code_Unique_1_3.tbl k) (finE 4 code_Unique_1_3.to code_Unique_1_3.out) (fnRes Try.f94) [] 100000 true
theorem code_Unique_1_3.e (k : Nat) (x0 : ((List Int) × ((List Int) × ((List Int) × Unit)))) (x1 : (List (ByteArray × Int))) (x2 : (List ((List Int) × ((List Int) × ((List Int) × Unit))))) : code_Unique_1_3.f k x0 x1 x2 = code_Unique_1_3.R k ([.code code_Unique_1_3.body]) (code_Unique_1_3.ti.fill [⟨(.pair (.slice (.int .i64)) (.pair (.slice (.int .i64)) (.pair (.slice (.int .i64)) .unit))), x0⟩, ⟨(.slice (.pair .str (.int .i64))), x1⟩, ⟨(.slice (.pair (.slice (.int .i64)) (.pair (.slice (.int .i64)) (.pair (.slice (.int .i64)) .unit)))), x2⟩]) := by kernel_rfl
theorem code_Unique_1_3.h (k : Nat) (ds : List Dat) (r : (List (ByteArray × Int)) × (List ((List Int) × ((List Int) × ((List Int) × Unit))))) (h : code_Unique_1_3.g k ds = some r) : ∃ k', k' < k ∧ code_Unique_1_3.R k' ([.code code_Unique_1_3.body]) (code_Unique_1_3.ti.fill ds) = some r := by
  cases k with
  | zero => cases (show none = some r from h)
  | succ k =>
  replace h : code_Unique_1_3.c k ds = some r := h
  unfold code_Unique_1_3.c at h
  obtain ⟨x0, d0, rfl, h0⟩ := pop_some h
  obtain ⟨x1, d1, rfl, h1⟩ := pop_some h0
  obtain ⟨x2, d2, rfl, h2⟩ := pop_some h1
  obtain ⟨rfl, g⟩ := popN_some h2
  exact ⟨k, Nat.lt_succ_self k, (code_Unique_1_3.e k x0 x1 x2).symm.trans g⟩
theorem code_Unique_1_3.o (ds : List Dat) (r : (List (ByteArray × Int)) × (List ((List Int) × ((List Int) × ((List Int) × Unit))))) (h : code_Unique_1_3.out ds = some r) : ds = code_Unique_1_3.rs r := by
  unfold code_Unique_1_3.out at h
  obtain ⟨x0, d0, rfl, h0⟩ := pop_some h
  obtain ⟨x1, d1, rfl, h1⟩ := pop_some h0
  obtain ⟨rfl, g⟩ := popN_some h1
  cases g
  rfl
theorem code_Unique_1_3.fn : FnOk Try.prog 94 Try.f94 code_Unique_1_3.body Try.f94.ntmps 3 (fnRes Try.f94) :=
  fnOk_of (by kernel_rfl) (by kernel_rfl) (by kernel_rfl) (by kernel_rfl)
theorem code_Unique_1_3.con' : ∀ k ds r, code_Unique_1_3.g k ds = some r → Con Try.prog 94 3 code_Unique_1_3.ti code_Unique_1_3.to ds (code_Unique_1_3.rs r) :=
  fun_ok (T := T) T_ok mixed code_Unique_1_3.fn (env := code_Unique_1_3.env) (tbl := code_Unique_1_3.tbl) (gOut := code_Unique_1_3.out) (nin := 4) (cuts := []) (fuel := 100000) rfl (by kernel_rfl) (by kernel_rfl) (by kernel_rfl) (fun x hx => by simp [code_Unique_1_3.tbl] at hx) code_Unique_1_3.o code_Unique_1_3.h (fun k _ => by unfold code_Unique_1_3.env; exact (envC_ok (fun ds K r h => by
    obtain ⟨x0, d0, rfl, h0⟩ := pop_some h
    obtain ⟨rfl, g⟩ := popN_some h0
    obtain ⟨r1, h1, h2⟩ := bind_some g
    exact ⟨_, h2, det_Key.con k _ h1⟩) env0_ok))
theorem code_Unique_1_3.con (k : Nat) {x0 : ((List Int) × ((List Int) × ((List Int) × Unit)))} {x1 : (List (ByteArray × Int))} {x2 : (List ((List Int) × ((List Int) × ((List Int) × Unit))))} (r : (List (ByteArray × Int)) × (List ((List Int) × ((List Int) × ((List Int) × Unit))))) (h : code_Unique_1_3.f k x0 x1 x2 = some r) : Con Try.prog 94 3 code_Unique_1_3.ti code_Unique_1_3.to [⟨(.pair (.slice (.int .i64)) (.pair (.slice (.int .i64)) (.pair (.slice (.int .i64)) .unit))), x0⟩, ⟨(.slice (.pair .str (.int .i64))), x1⟩, ⟨(.slice (.pair (.slice (.int .i64)) (.pair (.slice (.int .i64)) (.pair (.slice (.int .i64)) .unit)))), x2⟩] (code_Unique_1_3.rs r) :=
  code_Unique_1_3.con' (k + 1) _ r (by show code_Unique_1_3.c k _ = some r; unfold code_Unique_1_3.c; simp only [pop_self, popN]; exact h)
mutual
def code_Unique.l8 : Nat → List (List (Int)) → List (List (Int)) → Int → Int → List ((List (Int) × (List (Int) × (List (Int) × Unit)))) → List ((ByteArray × Int)) → Option (List Int × List Int × Bool × Int)
 | 0, _, _, _, _, _, _ => none
 | k + 1, l1, x30, x31, x32, c2, c3 =>
  if x32 < x31 then
   if 0 ≤ x32 then
   if x32 < (↑x30.length : Int) then
    code_Unique.l11 k l1 x32 (Go.Proofs.YtfkilmmldjajmaaSx.rd [] x30 x32) x30 x31 x32 l1 ((↑l1.length : Int)) 0 c2 c3
    else none
   else none
  else
   code_Unique.l18 k l1 0 c2 c3
def code_Unique.l11 : Nat → List (List (Int)) → Int → List (Int) → List (List (Int)) → Int → Int → List (List (Int)) → Int → Int → List ((List (Int) × (List (Int) × (List (Int) × Unit)))) → List ((ByteArray × Int)) → Option (List Int × List Int × Bool × Int)
 | 0, _, _, _, _, _, _, _, _, _, _, _ => none
 | k + 1, l1, i12, v13, x30, x31, x32, x37, x38, x39, c2, c3 =>
  if x39 < x38 then
   if 0 ≤ x39 then
   if x39 < (↑x37.length : Int) then
    if i12 = x39 then
      code_Unique.j15 k l1 i12 v13 x30 x31 x32 x37 x38 x39 c2 c3
     else
      if (↑(Go.Proofs.YtfkilmmldjajmaaSx.rd [] x37 x39).length : Int) ≤ (↑v13.length : Int) then
       if 0 ≤ 0 then
       if 0 ≤ (↑(Go.Proofs.YtfkilmmldjajmaaSx.rd [] x37 x39).length : Int) then
        if (↑(Go.Proofs.YtfkilmmldjajmaaSx.rd [] x37 x39).length : Int) ≤ (↑v13.length : Int) then
         (slices_Equal___int_int_.f k (List.take ((↑(Go.Proofs.YtfkilmmldjajmaaSx.rd [] x37 x39).length : Int).toNat - Int.toNat 0) (List.drop (Int.toNat 0) v13)) (Go.Proofs.YtfkilmmldjajmaaSx.rd [] x37 x39)).bind fun r_10 =>
           if r_10 = true then
            if 0 ≤ (↑(Go.Proofs.YtfkilmmldjajmaaSx.rd [] x37 x39).length : Int) then
            if (↑(Go.Proofs.YtfkilmmldjajmaaSx.rd [] x37 x39).length : Int) ≤ (↑v13.length : Int) then
             if (↑v13.length : Int) ≤ (↑v13.length : Int) then
              (code_Unique_1.f k (List.take ((↑v13.length : Int).toNat - (↑(Go.Proofs.YtfkilmmldjajmaaSx.rd [] x37 x39).length : Int).toNat) (List.drop (↑(Go.Proofs.YtfkilmmldjajmaaSx.rd [] x37 x39).length : Int).toNat v13), [i12], [x39], ()) c3 c2).bind fun r_15 =>
                code_Unique.j15 k l1 i12 v13 x30 x31 x32 x37 x38 x39 r_15.snd r_15.fst
              else none
             else none
            else none
           else
            code_Unique.j15 k l1 i12 v13 x30 x31 x32 x37 x38 x39 c2 c3
         else none
        else none
       else none
      else
       code_Unique.j15 k l1 i12 v13 x30 x31 x32 x37 x38 x39 c2 c3
    else none
   else none
  else
   code_Unique.l8 k l1 x30 x31 (Go.IntKind.i64.wrap (x32 + 1)) c2 c3
def code_Unique.l18 : Nat → List (List (Int)) → Int → List ((List (Int) × (List (Int) × (List (Int) × Unit)))) → List ((ByteArray × Int)) → Option (List Int × List Int × Bool × Int)
 | 0, _, _, _, _ => none
 | k + 1, l1, i16, c2, c3 =>
  if i16 < (↑c2.length : Int) then
   if 0 ≤ i16 then
   if i16 < (↑c2.length : Int) then
    if (↑(c2.getD i16.toNat ([], [], [], ())).fst.length : Int) = 0 then
      some ((c2.getD i16.toNat ([], [], [], ())).snd.fst, (c2.getD i16.toNat ([], [], [], ())).snd.snd.fst, false, 0)
     else
      code_Unique.l24 k l1 i16 l1 ((↑l1.length : Int)) 0 ((c2.getD i16.toNat ([], [], [], ())).fst) ((c2.getD i16.toNat ([], [], [], ())).snd.fst) ((c2.getD i16.toNat ([], [], [], ())).snd.snd.fst) c2 c3
    else none
   else none
  else
   some ([], [], true, 0)
def code_Unique.j15 : Nat → List (List (Int)) → Int → List (Int) → List (List (Int)) → Int → Int → List (List (Int)) → Int → Int → List ((List (Int) × (List (Int) × (List (Int) × Unit)))) → List ((ByteArray × Int)) → Option (List Int × List Int × Bool × Int)
 | 0, _, _, _, _, _, _, _, _, _, _, _ => none
 | k + 1, l1, i12, v13, x30, x31, x32, x37, x38, x39, c2, c3 =>
  code_Unique.l11 k l1 i12 v13 x30 x31 x32 x37 x38 (Go.IntKind.i64.wrap (x39 + 1)) c2 c3
def code_Unique.l24 : Nat → List (List (Int)) → Int → List (List (Int)) → Int → Int → List (Int) → List (Int) → List (Int) → List ((List (Int) × (List (Int) × (List (Int) × Unit)))) → List ((ByteArray × Int)) → Option (List Int × List Int × Bool × Int)
 | 0, _, _, _, _, _, _, _, _, _, _ => none
 | k + 1, l1, i16, x93, x94, x95, r17_0, r17_1, r17_2, c3, c4 =>
  if x95 < x94 then
   if 0 ≤ x95 then
   if x95 < (↑x93.length : Int) then
    (slices_Clone___int_int_.f k r17_2).bind fun r_5 =>
      if Go.Proofs.YtfkilmmldjajmaaSx.fitsIn (r_5 ++ [x95]).length 8 = true then
      if 0 ≤ 0 then
       if 0 ≤ if (↑r17_0.length : Int) < (↑(Go.Proofs.YtfkilmmldjajmaaSx.rd [] x93 x95).length : Int) then (↑r17_0.length : Int) else (↑(Go.Proofs.YtfkilmmldjajmaaSx.rd [] x93 x95).length : Int) then
        if (if (↑r17_0.length : Int) < (↑(Go.Proofs.YtfkilmmldjajmaaSx.rd [] x93 x95).length : Int) then (↑r17_0.length : Int) else (↑(Go.Proofs.YtfkilmmldjajmaaSx.rd [] x93 x95).length : Int)) ≤ (↑(Go.Proofs.YtfkilmmldjajmaaSx.rd [] x93 x95).length : Int) then
         if 0 ≤ 0 then
          if 0 ≤ if (↑r17_0.length : Int) < (↑(Go.Proofs.YtfkilmmldjajmaaSx.rd [] x93 x95).length : Int) then (↑r17_0.length : Int) else (↑(Go.Proofs.YtfkilmmldjajmaaSx.rd [] x93 x95).length : Int) then
           if (if (↑r17_0.length : Int) < (↑(Go.Proofs.YtfkilmmldjajmaaSx.rd [] x93 x95).length : Int) then (↑r17_0.length : Int) else (↑(Go.Proofs.YtfkilmmldjajmaaSx.rd [] x93 x95).length : Int)) ≤ (↑r17_0.length : Int) then
            (slices_Equal___int_int_.f k (List.take ((if (↑r17_0.length : Int) < (↑(Go.Proofs.YtfkilmmldjajmaaSx.rd [] x93 x95).length : Int) then (↑r17_0.length : Int) else (↑(Go.Proofs.YtfkilmmldjajmaaSx.rd [] x93 x95).length : Int)).toNat - Int.toNat 0) (List.drop (Int.toNat 0) (Go.Proofs.YtfkilmmldjajmaaSx.rd [] x93 x95))) (List.take ((if (↑r17_0.length : Int) < (↑(Go.Proofs.YtfkilmmldjajmaaSx.rd [] x93 x95).length : Int) then (↑r17_0.length : Int) else (↑(Go.Proofs.YtfkilmmldjajmaaSx.rd [] x93 x95).length : Int)).toNat - Int.toNat 0) (List.drop (Int.toNat 0) r17_0))).bind fun r_13 =>
              if r_13 = true then
               if (↑(Go.Proofs.YtfkilmmldjajmaaSx.rd [] x93 x95).length : Int) ≤ (↑r17_0.length : Int) then
                if 0 ≤ if (↑r17_0.length : Int) < (↑(Go.Proofs.YtfkilmmldjajmaaSx.rd [] x93 x95).length : Int) then (↑r17_0.length : Int) else (↑(Go.Proofs.YtfkilmmldjajmaaSx.rd [] x93 x95).length : Int) then
                if (if (↑r17_0.length : Int) < (↑(Go.Proofs.YtfkilmmldjajmaaSx.rd [] x93 x95).length : Int) then (↑r17_0.length : Int) else (↑(Go.Proofs.YtfkilmmldjajmaaSx.rd [] x93 x95).length : Int)) ≤ (↑r17_0.length : Int) then
                 if (↑r17_0.length : Int) ≤ (↑r17_0.length : Int) then
                  (code_Unique_1_2.f k (List.take ((↑r17_0.length : Int).toNat - (if (↑r17_0.length : Int) < (↑(Go.Proofs.YtfkilmmldjajmaaSx.rd [] x93 x95).length : Int) then (↑r17_0.length : Int) else (↑(Go.Proofs.YtfkilmmldjajmaaSx.rd [] x93 x95).length : Int)).toNat) (List.drop (if (↑r17_0.length : Int) < (↑(Go.Proofs.YtfkilmmldjajmaaSx.rd [] x93 x95).length : Int) then (↑r17_0.length : Int) else (↑(Go.Proofs.YtfkilmmldjajmaaSx.rd [] x93 x95).length : Int)).toNat r17_0), r17_1, r_5 ++ [x95], ()) c4 c3).bind fun r_19 =>
                    code_Unique.j32 k l1 i16 x93 x94 x95 r17_0 r17_1 r17_2 r_19.snd r_19.fst
                  else none
                 else none
                else none
               else
                if 0 ≤ if (↑r17_0.length : Int) < (↑(Go.Proofs.YtfkilmmldjajmaaSx.rd [] x93 x95).length : Int) then (↑r17_0.length : Int) else (↑(Go.Proofs.YtfkilmmldjajmaaSx.rd [] x93 x95).length : Int) then
                if (if (↑r17_0.length : Int) < (↑(Go.Proofs.YtfkilmmldjajmaaSx.rd [] x93 x95).length : Int) then (↑r17_0.length : Int) else (↑(Go.Proofs.YtfkilmmldjajmaaSx.rd [] x93 x95).length : Int)) ≤ (↑(Go.Proofs.YtfkilmmldjajmaaSx.rd [] x93 x95).length : Int) then
                 if (↑(Go.Proofs.YtfkilmmldjajmaaSx.rd [] x93 x95).length : Int) ≤ (↑(Go.Proofs.YtfkilmmldjajmaaSx.rd [] x93 x95).length : Int) then
                  (code_Unique_1_3.f k (List.take ((↑(Go.Proofs.YtfkilmmldjajmaaSx.rd [] x93 x95).length : Int).toNat - (if (↑r17_0.length : Int) < (↑(Go.Proofs.YtfkilmmldjajmaaSx.rd [] x93 x95).length : Int) then (↑r17_0.length : Int) else (↑(Go.Proofs.YtfkilmmldjajmaaSx.rd [] x93 x95).length : Int)).toNat) (List.drop (if (↑r17_0.length : Int) < (↑(Go.Proofs.YtfkilmmldjajmaaSx.rd [] x93 x95).length : Int) then (↑r17_0.length : Int) else (↑(Go.Proofs.YtfkilmmldjajmaaSx.rd [] x93 x95).length : Int)).toNat (Go.Proofs.YtfkilmmldjajmaaSx.rd [] x93 x95)), r_5 ++ [x95], r17_1, ()) c4 c3).bind fun r_19 =>
                    code_Unique.j32 k l1 i16 x93 x94 x95 r17_0 r17_1 r17_2 r_19.snd r_19.fst
                  else none
                 else none
                else none
              else
               code_Unique.j32 k l1 i16 x93 x94 x95 r17_0 r17_1 r17_2 c3 c4
            else none
           else none
          else none
         else none
        else none
       else none
      else none
    else none
   else none
  else
   code_Unique.l18 k l1 (Go.IntKind.i64.wrap (i16 + 1)) c3 c4
def code_Unique.j32 : Nat → List (List (Int)) → Int → List (List (Int)) → Int → Int → List (Int) → List (Int) → List (Int) → List ((List (Int) × (List (Int) × (List (Int) × Unit)))) → List ((ByteArray × Int)) → Option (List Int × List Int × Bool × Int)
 | 0, _, _, _, _, _, _, _, _, _, _ => none
 | k + 1, l1, i16, x93, x94, x95, r17_0, r17_1, r17_2, c3, c4 =>
  code_Unique.l24 k l1 i16 x93 x94 (Go.IntKind.i64.wrap (x95 + 1)) r17_0 r17_1 r17_2 c3 c4
end
def code_Unique.f (k : Nat) (letters0 : Int) (l1 : List (List (Int))) : Option (List Int × List Int × Bool × Int) :=
 (code_Check.f k letters0 l1).bind fun r_1 =>
  if r_1 = 0 then
   code_Unique.l8 k l1 l1 ((↑l1.length : Int)) 0 [] []
  else
   some ([], [], false, r_1)

noncomputable def code_Unique.body : Code := fnBody Try.f30
def code_Unique.ti : Tm := ⟨[(0, .p (.int .i64)), (1, .p (.slice (.slice (.int .i64))))], []⟩
def code_Unique.to : Tm := ⟨[(0, .p (.slice (.int .i64))), (1, .p (.slice (.int .i64))), (2, .p .bool), (3, .p (.int .i64))], [.gone, .gone]⟩
def code_Unique.rs (r : (List Int) × (List Int) × Bool × Int) : List Dat := [⟨(.slice (.int .i64)), r.1⟩, ⟨(.slice (.int .i64)), r.2.1⟩, ⟨.bool, r.2.2.1⟩, ⟨(.int .i64), r.2.2.2⟩]
def code_Unique.out (ds : List Dat) : Option ((List Int) × (List Int) × Bool × Int) := pop (.slice (.int .i64)) ds fun x0 ds => pop (.slice (.int .i64)) ds fun x1 ds => pop .bool ds fun x2 ds => pop (.int .i64) ds fun x3 ds => popN ds (some (x0, x1, x2, x3))
def code_Unique.c (k : Nat) (ds : List Dat) : Option ((List Int) × (List Int) × Bool × Int) := pop (.int .i64) ds fun x0 ds => pop (.slice (.slice (.int .i64))) ds fun x1 ds => popN ds (code_Unique.f k x0 x1)
def code_Unique.g : Nat → List Dat → Option ((List Int) × (List Int) × Bool × Int)
 | 0, _ => none
 | k + 1, ds => code_Unique.c k ds
def code_Unique.env (k : Nat) : Nat → List SV → List Chunk → KT ((List Int) × (List Int) × Bool × Int) → Option ((List Int) × (List Int) × Bool × Int) := (envC 96 2 slices_Equal___int_int_.ti slices_Equal___int_int_.to (fun ds K => pop (.slice (.int .i64)) ds fun x0 ds => pop (.slice (.int .i64)) ds fun x1 ds => popN ds ((slices_Equal___int_int_.f k x0 x1).bind fun r => K (slices_Equal___int_int_.rs r))) (envC 94 3 code_Unique_1.ti code_Unique_1.to (fun ds K => pop (.pair (.slice (.int .i64)) (.pair (.slice (.int .i64)) (.pair (.slice (.int .i64)) .unit))) ds fun x0 ds => pop (.slice (.pair .str (.int .i64))) ds fun x1 ds => pop (.slice (.pair (.slice (.int .i64)) (.pair (.slice (.int .i64)) (.pair (.slice (.int .i64)) .unit)))) ds fun x2 ds => popN ds ((code_Unique_1.f k x0 x1 x2).bind fun r => K (code_Unique_1.rs r))) (envC 81 1 slices_Clone___int_int_.ti slices_Clone___int_int_.to (fun ds K => pop (.slice (.int .i64)) ds fun x0 ds => popN ds ((slices_Clone___int_int_.f k x0).bind fun r => K (slices_Clone___int_int_.rs r))) (envC 94 3 code_Unique_1_2.ti code_Unique_1_2.to (fun ds K => pop (.pair (.slice (.int .i64)) (.pair (.slice (.int .i64)) (.pair (.slice (.int .i64)) .unit))) ds fun x0 ds => pop (.slice (.pair .str (.int .i64))) ds fun x1 ds => pop (.slice (.pair (.slice (.int .i64)) (.pair (.slice (.int .i64)) (.pair (.slice (.int .i64)) .unit)))) ds fun x2 ds => popN ds ((code_Unique_1_2.f k x0 x1 x2).bind fun r => K (code_Unique_1_2.rs r))) (envC 94 3 code_Unique_1_3.ti code_Unique_1_3.to (fun ds K => pop (.pair (.slice (.int .i64)) (.pair (.slice (.int .i64)) (.pair (.slice (.int .i64)) .unit))) ds fun x0 ds => pop (.slice (.pair .str (.int .i64))) ds fun x1 ds => pop (.slice (.pair (.slice (.int .i64)) (.pair (.slice (.int .i64)) (.pair (.slice (.int .i64)) .unit)))) ds fun x2 ds => popN ds ((code_Unique_1_3.f k x0 x1 x2).bind fun r => K (code_Unique_1_3.rs r))) (envC 31 2 code_Check.ti code_Check.to (fun ds K => pop (.int .i64) ds fun x0 ds => pop (.slice (.slice (.int .i64))) ds fun x1 ds => popN ds ((code_Check.f k x0 x1).bind fun r => K (code_Check.rs r))) env0))))))
def code_Unique.t17 : Tm := ⟨[(1, .p (.slice (.slice (.int .i64)))), (10, .ptr 0 0), (11, .fn 94 [.ptr 1 0, .ptr 0 0]), (30, .p (.slice (.slice (.int .i64)))), (31, .p (.int .i64)), (32, .p (.int .i64))], [.box [.own 2] 126, .box [.map 3] 125, .own (.pair (.slice (.int .i64)) (.pair (.slice (.int .i64)) (.pair (.slice (.int .i64)) .unit))), .map .str (.int .i64)]⟩
def code_Unique.c17 (k : Nat) (ds : List Dat) : Option ((List Int) × (List Int) × Bool × Int) := pop (.slice (.slice (.int .i64))) ds fun x0 ds => pop (.slice (.slice (.int .i64))) ds fun x1 ds => pop (.int .i64) ds fun x2 ds => pop (.int .i64) ds fun x3 ds => pop (.slice (.pair (.slice (.int .i64)) (.pair (.slice (.int .i64)) (.pair (.slice (.int .i64)) .unit)))) ds fun x4 ds => pop (.slice (.pair .str (.int .i64))) ds fun x5 ds => popN ds (code_Unique.l8 k x0 x1 x2 x3 x4 x5)
def code_Unique.t23 : Tm := ⟨[(1, .p (.slice (.slice (.int .i64)))), (10, .ptr 0 0), (11, .fn 94 [.ptr 1 0, .ptr 0 0]), (12, .p (.int .i64)), (13, .p (.slice (.int .i64))), (30, .p (.slice (.slice (.int .i64)))), (31, .p (.int .i64)), (32, .p (.int .i64)), (37, .p (.slice (.slice (.int .i64)))), (38, .p (.int .i64)), (39, .p (.int .i64))], [.box [.own 2] 126, .box [.map 3] 125, .own (.pair (.slice (.int .i64)) (.pair (.slice (.int .i64)) (.pair (.slice (.int .i64)) .unit))), .map .str (.int .i64)]⟩
def code_Unique.c23 (k : Nat) (ds : List Dat) : Option ((List Int) × (List Int) × Bool × Int) := pop (.slice (.slice (.int .i64))) ds fun x0 ds => pop (.int .i64) ds fun x1 ds => pop (.slice (.int .i64)) ds fun x2 ds => pop (.slice (.slice (.int .i64))) ds fun x3 ds => pop (.int .i64) ds fun x4 ds => pop (.int .i64) ds fun x5 ds => pop (.slice (.slice (.int .i64))) ds fun x6 ds => pop (.int .i64) ds fun x7 ds => pop (.int .i64) ds fun x8 ds => pop (.slice (.pair (.slice (.int .i64)) (.pair (.slice (.int .i64)) (.pair (.slice (.int .i64)) .unit)))) ds fun x9 ds => pop (.slice (.pair .str (.int .i64))) ds fun x10 ds => popN ds (code_Unique.l11 k x0 x1 x2 x3 x4 x5 x6 x7 x8 x9 x10)
def code_Unique.t37 : Tm := ⟨[(1, .p (.slice (.slice (.int .i64)))), (10, .ptr 0 0), (11, .fn 94 [.ptr 1 0, .ptr 0 0]), (16, .p (.int .i64))], [.box [.own 2] 126, .box [.map 3] 125, .own (.pair (.slice (.int .i64)) (.pair (.slice (.int .i64)) (.pair (.slice (.int .i64)) .unit))), .map .str (.int .i64)]⟩
def code_Unique.c37 (k : Nat) (ds : List Dat) : Option ((List Int) × (List Int) × Bool × Int) := pop (.slice (.slice (.int .i64))) ds fun x0 ds => pop (.int .i64) ds fun x1 ds => pop (.slice (.pair (.slice (.int .i64)) (.pair (.slice (.int .i64)) (.pair (.slice (.int .i64)) .unit)))) ds fun x2 ds => pop (.slice (.pair .str (.int .i64))) ds fun x3 ds => popN ds (code_Unique.l18 k x0 x1 x2 x3)
def code_Unique.t30 : Tm := ⟨[(1, .p (.slice (.slice (.int .i64)))), (10, .ptr 0 0), (11, .fn 94 [.ptr 1 0, .ptr 0 0]), (12, .p (.int .i64)), (13, .p (.slice (.int .i64))), (30, .p (.slice (.slice (.int .i64)))), (31, .p (.int .i64)), (32, .p (.int .i64)), (37, .p (.slice (.slice (.int .i64)))), (38, .p (.int .i64)), (39, .p (.int .i64))], [.box [.own 2] 126, .box [.map 3] 125, .own (.pair (.slice (.int .i64)) (.pair (.slice (.int .i64)) (.pair (.slice (.int .i64)) .unit))), .map .str (.int .i64)]⟩
def code_Unique.c30 (k : Nat) (ds : List Dat) : Option ((List Int) × (List Int) × Bool × Int) := pop (.slice (.slice (.int .i64))) ds fun x0 ds => pop (.int .i64) ds fun x1 ds => pop (.slice (.int .i64)) ds fun x2 ds => pop (.slice (.slice (.int .i64))) ds fun x3 ds => pop (.int .i64) ds fun x4 ds => pop (.int .i64) ds fun x5 ds => pop (.slice (.slice (.int .i64))) ds fun x6 ds => pop (.int .i64) ds fun x7 ds => pop (.int .i64) ds fun x8 ds => pop (.slice (.pair (.slice (.int .i64)) (.pair (.slice (.int .i64)) (.pair (.slice (.int .i64)) .unit)))) ds fun x9 ds => pop (.slice (.pair .str (.int .i64))) ds fun x10 ds => popN ds (code_Unique.j15 k x0 x1 x2 x3 x4 x5 x6 x7 x8 x9 x10)
def code_Unique.t49 : Tm := ⟨[(1, .p (.slice (.slice (.int .i64)))), (10, .ptr 0 0), (11, .fn 94 [.ptr 1 0, .ptr 0 0]), (16, .p (.int .i64)), (17, .ptr 2 0), (93, .p (.slice (.slice (.int .i64)))), (94, .p (.int .i64)), (95, .p (.int .i64))], [.box [.own 3] 126, .box [.map 4] 125, .box [.p (.slice (.int .i64)), .p (.slice (.int .i64)), .p (.slice (.int .i64))] 128, .own (.pair (.slice (.int .i64)) (.pair (.slice (.int .i64)) (.pair (.slice (.int .i64)) .unit))), .map .str (.int .i64)]⟩
def code_Unique.c49 (k : Nat) (ds : List Dat) : Option ((List Int) × (List Int) × Bool × Int) := pop (.slice (.slice (.int .i64))) ds fun x0 ds => pop (.int .i64) ds fun x1 ds => pop (.slice (.slice (.int .i64))) ds fun x2 ds => pop (.int .i64) ds fun x3 ds => pop (.int .i64) ds fun x4 ds => pop (.slice (.int .i64)) ds fun x5 ds => pop (.slice (.int .i64)) ds fun x6 ds => pop (.slice (.int .i64)) ds fun x7 ds => pop (.slice (.pair (.slice (.int .i64)) (.pair (.slice (.int .i64)) (.pair (.slice (.int .i64)) .unit)))) ds fun x8 ds => pop (.slice (.pair .str (.int .i64))) ds fun x9 ds => popN ds (code_Unique.l24 k x0 x1 x2 x3 x4 x5 x6 x7 x8 x9)
def code_Unique.t64 : Tm := ⟨[(1, .p (.slice (.slice (.int .i64)))), (10, .ptr 0 0), (11, .fn 94 [.ptr 1 0, .ptr 0 0]), (16, .p (.int .i64)), (17, .ptr 2 0), (93, .p (.slice (.slice (.int .i64)))), (94, .p (.int .i64)), (95, .p (.int .i64))], [.box [.own 3] 126, .box [.map 4] 125, .box [.p (.slice (.int .i64)), .p (.slice (.int .i64)), .p (.slice (.int .i64))] 128, .own (.pair (.slice (.int .i64)) (.pair (.slice (.int .i64)) (.pair (.slice (.int .i64)) .unit))), .map .str (.int .i64)]⟩
def code_Unique.c64 (k : Nat) (ds : List Dat) : Option ((List Int) × (List Int) × Bool × Int) := pop (.slice (.slice (.int .i64))) ds fun x0 ds => pop (.int .i64) ds fun x1 ds => pop (.slice (.slice (.int .i64))) ds fun x2 ds => pop (.int .i64) ds fun x3 ds => pop (.int .i64) ds fun x4 ds => pop (.slice (.int .i64)) ds fun x5 ds => pop (.slice (.int .i64)) ds fun x6 ds => pop (.slice (.int .i64)) ds fun x7 ds => pop (.slice (.pair (.slice (.int .i64)) (.pair (.slice (.int .i64)) (.pair (.slice (.int .i64)) .unit)))) ds fun x8 ds => pop (.slice (.pair .str (.int .i64))) ds fun x9 ds => popN ds (code_Unique.j32 k x0 x1 x2 x3 x4 x5 x6 x7 x8 x9)
def code_Unique.tbl : List (Nat × Tm × (Nat → List Dat → Option ((List Int) × (List Int) × Bool × Int))) := [(17, code_Unique.t17, code_Unique.c17), (23, code_Unique.t23, code_Unique.c23), (37, code_Unique.t37, code_Unique.c37), (30, code_Unique.t30, code_Unique.c30), (49, code_Unique.t49, code_Unique.c49), (64, code_Unique.t64, code_Unique.c64)]
noncomputable abbrev code_Unique.R (k : Nat) := run T (code_Unique.env k) Try.f30.ntmps (cutE 0 code_Unique.tbl k) (finE 0 code_Unique.to code_Unique.out) (fnRes Try.f30) [32, 15] 100000 true
theorem code_Unique.e17 (k : Nat) (x0 : (List (List Int))) (x1 : (List (List Int))) (x2 : Int) (x3 : Int) (x4 : (List ((List Int) × ((List Int) × ((List Int) × Unit))))) (x5 : (List (ByteArray × Int))) : code_Unique.l8 (k + 1) x0 x1 x2 x3 x4 x5 = code_Unique.R k (start (stackOf 17 code_Unique.body)) (code_Unique.t17.fill [⟨(.slice (.slice (.int .i64))), x0⟩, ⟨(.slice (.slice (.int .i64))), x1⟩, ⟨(.int .i64), x2⟩, ⟨(.int .i64), x3⟩, ⟨(.slice (.pair (.slice (.int .i64)) (.pair (.slice (.int .i64)) (.pair (.slice (.int .i64)) .unit)))), x4⟩, ⟨(.slice (.pair .str (.int .i64))), x5⟩]) := by kernel_rfl
theorem code_Unique.s17 : stackAt 17 code_Unique.body [] = some (stackOf 17 code_Unique.body) := by kernel_rfl
theorem code_Unique.h17 (k : Nat) (ds : List Dat) (r : (List Int) × (List Int) × Bool × Int) (h : code_Unique.c17 k ds = some r) : ∃ k', k' < k ∧ ∃ s, stackAt 17 code_Unique.body [] = some s ∧ code_Unique.R k' (start s) (code_Unique.t17.fill ds) = some r := by
  unfold code_Unique.c17 at h
  obtain ⟨x0, d0, rfl, h0⟩ := pop_some h
  obtain ⟨x1, d1, rfl, h1⟩ := pop_some h0
  obtain ⟨x2, d2, rfl, h2⟩ := pop_some h1
  obtain ⟨x3, d3, rfl, h3⟩ := pop_some h2
  obtain ⟨x4, d4, rfl, h4⟩ := pop_some h3
  obtain ⟨x5, d5, rfl, h5⟩ := pop_some h4
  obtain ⟨rfl, g⟩ := popN_some h5
  cases k with
  | zero => cases (show none = some r from g)
  | succ k => exact ⟨k, Nat.lt_succ_self k, _, code_Unique.s17, (code_Unique.e17 k x0 x1 x2 x3 x4 x5).symm.trans g⟩
theorem code_Unique.e23 (k : Nat) (x0 : (List (List Int))) (x1 : Int) (x2 : (List Int)) (x3 : (List (List Int))) (x4 : Int) (x5 : Int) (x6 : (List (List Int))) (x7 : Int) (x8 : Int) (x9 : (List ((List Int) × ((List Int) × ((List Int) × Unit))))) (x10 : (List (ByteArray × Int))) : code_Unique.l11 (k + 1) x0 x1 x2 x3 x4 x5 x6 x7 x8 x9 x10 = code_Unique.R k (start (stackOf 23 code_Unique.body)) (code_Unique.t23.fill [⟨(.slice (.slice (.int .i64))), x0⟩, ⟨(.int .i64), x1⟩, ⟨(.slice (.int .i64)), x2⟩, ⟨(.slice (.slice (.int .i64))), x3⟩, ⟨(.int .i64), x4⟩, ⟨(.int .i64), x5⟩, ⟨(.slice (.slice (.int .i64))), x6⟩, ⟨(.int .i64), x7⟩, ⟨(.int .i64), x8⟩, ⟨(.slice (.pair (.slice (.int .i64)) (.pair (.slice (.int .i64)) (.pair (.slice (.int .i64)) .unit)))), x9⟩, ⟨(.slice (.pair .str (.int .i64))), x10⟩]) := by kernel_rfl
theorem code_Unique.s23 : stackAt 23 code_Unique.body [] = some (stackOf 23 code_Unique.body) := by kernel_rfl
theorem code_Unique.h23 (k : Nat) (ds : List Dat) (r : (List Int) × (List Int) × Bool × Int) (h : code_Unique.c23 k ds = some r) : ∃ k', k' < k ∧ ∃ s, stackAt 23 code_Unique.body [] = some s ∧ code_Unique.R k' (start s) (code_Unique.t23.fill ds) = some r := by
  unfold code_Unique.c23 at h
  obtain ⟨x0, d0, rfl, h0⟩ := pop_some h
  obtain ⟨x1, d1, rfl, h1⟩ := pop_some h0
  obtain ⟨x2, d2, rfl, h2⟩ := pop_some h1
  obtain ⟨x3, d3, rfl, h3⟩ := pop_some h2
  obtain ⟨x4, d4, rfl, h4⟩ := pop_some h3
  obtain ⟨x5, d5, rfl, h5⟩ := pop_some h4
  obtain ⟨x6, d6, rfl, h6⟩ := pop_some h5
  obtain ⟨x7, d7, rfl, h7⟩ := pop_some h6
  obtain ⟨x8, d8, rfl, h8⟩ := pop_some h7
  obtain ⟨x9, d9, rfl, h9⟩ := pop_some h8
  obtain ⟨x10, d10, rfl, h10⟩ := pop_some h9
  obtain ⟨rfl, g⟩ := popN_some h10
  cases k with
  | zero => cases (show none = some r from g)
  | succ k => exact ⟨k, Nat.lt_succ_self k, _, code_Unique.s23, (code_Unique.e23 k x0 x1 x2 x3 x4 x5 x6 x7 x8 x9 x10).symm.trans g⟩
theorem code_Unique.e37 (k : Nat) (x0 : (List (List Int))) (x1 : Int) (x2 : (List ((List Int) × ((List Int) × ((List Int) × Unit))))) (x3 : (List (ByteArray × Int))) : code_Unique.l18 (k + 1) x0 x1 x2 x3 = code_Unique.R k (start (stackOf 37 code_Unique.body)) (code_Unique.t37.fill [⟨(.slice (.slice (.int .i64))), x0⟩, ⟨(.int .i64), x1⟩, ⟨(.slice (.pair (.slice (.int .i64)) (.pair (.slice (.int .i64)) (.pair (.slice (.int .i64)) .unit)))), x2⟩, ⟨(.slice (.pair .str (.int .i64))), x3⟩]) := by kernel_rfl
theorem code_Unique.s37 : stackAt 37 code_Unique.body [] = some (stackOf 37 code_Unique.body) := by kernel_rfl
theorem code_Unique.h37 (k : Nat) (ds : List Dat) (r : (List Int) × (List Int) × Bool × Int) (h : code_Unique.c37 k ds = some r) : ∃ k', k' < k ∧ ∃ s, stackAt 37 code_Unique.body [] = some s ∧ code_Unique.R k' (start s) (code_Unique.t37.fill ds) = some r := by
  unfold code_Unique.c37 at h
  obtain ⟨x0, d0, rfl, h0⟩ := pop_some h
  obtain ⟨x1, d1, rfl, h1⟩ := pop_some h0
  obtain ⟨x2, d2, rfl, h2⟩ := pop_some h1
  obtain ⟨x3, d3, rfl, h3⟩ := pop_some h2
  obtain ⟨rfl, g⟩ := popN_some h3
  cases k with
  | zero => cases (show none = some r from g)
  | succ k => exact ⟨k, Nat.lt_succ_self k, _, code_Unique.s37, (code_Unique.e37 k x0 x1 x2 x3).symm.trans g⟩
theorem code_Unique.e30 (k : Nat) (x0 : (List (List Int))) (x1 : Int) (x2 : (List Int)) (x3 : (List (List Int))) (x4 : Int) (x5 : Int) (x6 : (List (List Int))) (x7 : Int) (x8 : Int) (x9 : (List ((List Int) × ((List Int) × ((List Int) × Unit))))) (x10 : (List (ByteArray × Int))) : code_Unique.j15 (k + 1) x0 x1 x2 x3 x4 x5 x6 x7 x8 x9 x10 = code_Unique.R k (start (stackOf 30 code_Unique.body)) (code_Unique.t30.fill [⟨(.slice (.slice (.int .i64))), x0⟩, ⟨(.int .i64), x1⟩, ⟨(.slice (.int .i64)), x2⟩, ⟨(.slice (.slice (.int .i64))), x3⟩, ⟨(.int .i64), x4⟩, ⟨(.int .i64), x5⟩, ⟨(.slice (.slice (.int .i64))), x6⟩, ⟨(.int .i64), x7⟩, ⟨(.int .i64), x8⟩, ⟨(.slice (.pair (.slice (.int .i64)) (.pair (.slice (.int .i64)) (.pair (.slice (.int .i64)) .unit)))), x9⟩, ⟨(.slice (.pair .str (.int .i64))), x10⟩]) := by kernel_rfl
theorem code_Unique.s30 : stackAt 30 code_Unique.body [] = some (stackOf 30 code_Unique.body) := by kernel_rfl
theorem code_Unique.h30 (k : Nat) (ds : List Dat) (r : (List Int) × (List Int) × Bool × Int) (h : code_Unique.c30 k ds = some r) : ∃ k', k' < k ∧ ∃ s, stackAt 30 code_Unique.body [] = some s ∧ code_Unique.R k' (start s) (code_Unique.t30.fill ds) = some r := by
  unfold code_Unique.c30 at h
  obtain ⟨x0, d0, rfl, h0⟩ := pop_some h
  obtain ⟨x1, d1, rfl, h1⟩ := pop_some h0
  obtain ⟨x2, d2, rfl, h2⟩ := pop_some h1
  obtain ⟨x3, d3, rfl, h3⟩ := pop_some h2
  obtain ⟨x4, d4, rfl, h4⟩ := pop_some h3
  obtain ⟨x5, d5, rfl, h5⟩ := pop_some h4
  obtain ⟨x6, d6, rfl, h6⟩ := pop_some h5
  obtain ⟨x7, d7, rfl, h7⟩ := pop_some h6
  obtain ⟨x8, d8, rfl, h8⟩ := pop_some h7
  obtain ⟨x9, d9, rfl, h9⟩ := pop_some h8
  obtain ⟨x10, d10, rfl, h10⟩ := pop_some h9
  obtain ⟨rfl, g⟩ := popN_some h10
  cases k with
  | zero => cases (show none = some r from g)
  | succ k => exact ⟨k, Nat.lt_succ_self k, _, code_Unique.s30, (code_Unique.e30 k x0 x1 x2 x3 x4 x5 x6 x7 x8 x9 x10).symm.trans g⟩
theorem code_Unique.e49 (k : Nat) (x0 : (List (List Int))) (x1 : Int) (x2 : (List (List Int))) (x3 : Int) (x4 : Int) (x5 : (List Int)) (x6 : (List Int)) (x7 : (List Int)) (x8 : (List ((List Int) × ((List Int) × ((List Int) × Unit))))) (x9 : (List (ByteArray × Int))) : code_Unique.l24 (k + 1) x0 x1 x2 x3 x4 x5 x6 x7 x8 x9 = code_Unique.R k (start (stackOf 49 code_Unique.body)) (code_Unique.t49.fill [⟨(.slice (.slice (.int .i64))), x0⟩, ⟨(.int .i64), x1⟩, ⟨(.slice (.slice (.int .i64))), x2⟩, ⟨(.int .i64), x3⟩, ⟨(.int .i64), x4⟩, ⟨(.slice (.int .i64)), x5⟩, ⟨(.slice (.int .i64)), x6⟩, ⟨(.slice (.int .i64)), x7⟩, ⟨(.slice (.pair (.slice (.int .i64)) (.pair (.slice (.int .i64)) (.pair (.slice (.int .i64)) .unit)))), x8⟩, ⟨(.slice (.pair .str (.int .i64))), x9⟩]) := by kernel_rfl
theorem code_Unique.s49 : stackAt 49 code_Unique.body [] = some (stackOf 49 code_Unique.body) := by kernel_rfl
theorem code_Unique.h49 (k : Nat) (ds : List Dat) (r : (List Int) × (List Int) × Bool × Int) (h : code_Unique.c49 k ds = some r) : ∃ k', k' < k ∧ ∃ s, stackAt 49 code_Unique.body [] = some s ∧ code_Unique.R k' (start s) (code_Unique.t49.fill ds) = some r := by
  unfold code_Unique.c49 at h
  obtain ⟨x0, d0, rfl, h0⟩ := pop_some h
  obtain ⟨x1, d1, rfl, h1⟩ := pop_some h0
  obtain ⟨x2, d2, rfl, h2⟩ := pop_some h1
  obtain ⟨x3, d3, rfl, h3⟩ := pop_some h2
  obtain ⟨x4, d4, rfl, h4⟩ := pop_some h3
  obtain ⟨x5, d5, rfl, h5⟩ := pop_some h4
  obtain ⟨x6, d6, rfl, h6⟩ := pop_some h5
  obtain ⟨x7, d7, rfl, h7⟩ := pop_some h6
  obtain ⟨x8, d8, rfl, h8⟩ := pop_some h7
  obtain ⟨x9, d9, rfl, h9⟩ := pop_some h8
  obtain ⟨rfl, g⟩ := popN_some h9
  cases k with
  | zero => cases (show none = some r from g)
  | succ k => exact ⟨k, Nat.lt_succ_self k, _, code_Unique.s49, (code_Unique.e49 k x0 x1 x2 x3 x4 x5 x6 x7 x8 x9).symm.trans g⟩
theorem code_Unique.e64 (k : Nat) (x0 : (List (List Int))) (x1 : Int) (x2 : (List (List Int))) (x3 : Int) (x4 : Int) (x5 : (List Int)) (x6 : (List Int)) (x7 : (List Int)) (x8 : (List ((List Int) × ((List Int) × ((List Int) × Unit))))) (x9 : (List (ByteArray × Int))) : code_Unique.j32 (k + 1) x0 x1 x2 x3 x4 x5 x6 x7 x8 x9 = code_Unique.R k (start (stackOf 64 code_Unique.body)) (code_Unique.t64.fill [⟨(.slice (.slice (.int .i64))), x0⟩, ⟨(.int .i64), x1⟩, ⟨(.slice (.slice (.int .i64))), x2⟩, ⟨(.int .i64), x3⟩, ⟨(.int .i64), x4⟩, ⟨(.slice (.int .i64)), x5⟩, ⟨(.slice (.int .i64)), x6⟩, ⟨(.slice (.int .i64)), x7⟩, ⟨(.slice (.pair (.slice (.int .i64)) (.pair (.slice (.int .i64)) (.pair (.slice (.int .i64)) .unit)))), x8⟩, ⟨(.slice (.pair .str (.int .i64))), x9⟩]) := by kernel_rfl
theorem code_Unique.s64 : stackAt 64 code_Unique.body [] = some (stackOf 64 code_Unique.body) := by kernel_rfl
theorem code_Unique.h64 (k : Nat) (ds : List Dat) (r : (List Int) × (List Int) × Bool × Int) (h : code_Unique.c64 k ds = some r) : ∃ k', k' < k ∧ ∃ s, stackAt 64 code_Unique.body [] = some s ∧ code_Unique.R k' (start s) (code_Unique.t64.fill ds) = some r := by
  unfold code_Unique.c64 at h
  obtain ⟨x0, d0, rfl, h0⟩ := pop_some h
  obtain ⟨x1, d1, rfl, h1⟩ := pop_some h0
  obtain ⟨x2, d2, rfl, h2⟩ := pop_some h1
  obtain ⟨x3, d3, rfl, h3⟩ := pop_some h2
  obtain ⟨x4, d4, rfl, h4⟩ := pop_some h3
  obtain ⟨x5, d5, rfl, h5⟩ := pop_some h4
  obtain ⟨x6, d6, rfl, h6⟩ := pop_some h5
  obtain ⟨x7, d7, rfl, h7⟩ := pop_some h6
  obtain ⟨x8, d8, rfl, h8⟩ := pop_some h7
  obtain ⟨x9, d9, rfl, h9⟩ := pop_some h8
  obtain ⟨rfl, g⟩ := popN_some h9
  cases k with
  | zero => cases (show none = some r from g)
  | succ k => exact ⟨k, Nat.lt_succ_self k, _, code_Unique.s64, (code_Unique.e64 k x0 x1 x2 x3 x4 x5 x6 x7 x8 x9).symm.trans g⟩
theorem code_Unique.e (k : Nat) (x0 : Int) (x1 : (List (List Int))) : code_Unique.f k x0 x1 = code_Unique.R k ([.code code_Unique.body]) (code_Unique.ti.fill [⟨(.int .i64), x0⟩, ⟨(.slice (.slice (.int .i64))), x1⟩]) := by kernel_rfl
theorem code_Unique.h (k : Nat) (ds : List Dat) (r : (List Int) × (List Int) × Bool × Int) (h : code_Unique.g k ds = some r) : ∃ k', k' < k ∧ code_Unique.R k' ([.code code_Unique.body]) (code_Unique.ti.fill ds) = some r := by
  cases k with
  | zero => cases (show none = some r from h)
  | succ k =>
  replace h : code_Unique.c k ds = some r := h
  unfold code_Unique.c at h
  obtain ⟨x0, d0, rfl, h0⟩ := pop_some h
  obtain ⟨x1, d1, rfl, h1⟩ := pop_some h0
  obtain ⟨rfl, g⟩ := popN_some h1
  exact ⟨k, Nat.lt_succ_self k, (code_Unique.e k x0 x1).symm.trans g⟩
theorem code_Unique.o (ds : List Dat) (r : (List Int) × (List Int) × Bool × Int) (h : code_Unique.out ds = some r) : ds = code_Unique.rs r := by
  unfold code_Unique.out at h
  obtain ⟨x0, d0, rfl, h0⟩ := pop_some h
  obtain ⟨x1, d1, rfl, h1⟩ := pop_some h0
  obtain ⟨x2, d2, rfl, h2⟩ := pop_some h1
  obtain ⟨x3, d3, rfl, h3⟩ := pop_some h2
  obtain ⟨rfl, g⟩ := popN_some h3
  cases g
  rfl
theorem code_Unique.fn : FnOk Try.prog 30 Try.f30 code_Unique.body Try.f30.ntmps 2 (fnRes Try.f30) :=
  fnOk_of (by kernel_rfl) (by kernel_rfl) (by kernel_rfl) (by kernel_rfl)
theorem code_Unique.con' : ∀ k ds r, code_Unique.g k ds = some r → Con Try.prog 30 2 code_Unique.ti code_Unique.to ds (code_Unique.rs r) :=
  fun_ok (T := T) T_ok mixed code_Unique.fn (env := code_Unique.env) (tbl := code_Unique.tbl) (gOut := code_Unique.out) (nin := 0) (cuts := [32, 15]) (fuel := 100000) rfl (by kernel_rfl) (by kernel_rfl) (by kernel_rfl) (fun x hx => by
    simp only [code_Unique.tbl, List.mem_cons, List.not_mem_nil, or_false] at hx
    rcases hx with rfl | rfl | rfl | rfl | rfl | rfl
    · exact code_Unique.h17
    · exact code_Unique.h23
    · exact code_Unique.h37
    · exact code_Unique.h30
    · exact code_Unique.h49
    · exact code_Unique.h64
) code_Unique.o code_Unique.h (fun k _ => by unfold code_Unique.env; exact (envC_ok (fun ds K r h => by
    obtain ⟨x0, d0, rfl, h0⟩ := pop_some h
    obtain ⟨x1, d1, rfl, h1⟩ := pop_some h0
    obtain ⟨rfl, g⟩ := popN_some h1
    obtain ⟨r1, h1, h2⟩ := bind_some g
    exact ⟨_, h2, slices_Equal___int_int_.con k _ h1⟩) (envC_ok (fun ds K r h => by
    obtain ⟨x0, d0, rfl, h0⟩ := pop_some h
    obtain ⟨x1, d1, rfl, h1⟩ := pop_some h0
    obtain ⟨x2, d2, rfl, h2⟩ := pop_some h1
    obtain ⟨rfl, g⟩ := popN_some h2
    obtain ⟨r1, h1, h2⟩ := bind_some g
    exact ⟨_, h2, code_Unique_1.con k _ h1⟩) (envC_ok (fun ds K r h => by
    obtain ⟨x0, d0, rfl, h0⟩ := pop_some h
    obtain ⟨rfl, g⟩ := popN_some h0
    obtain ⟨r1, h1, h2⟩ := bind_some g
    exact ⟨_, h2, slices_Clone___int_int_.con k _ h1⟩) (envC_ok (fun ds K r h => by
    obtain ⟨x0, d0, rfl, h0⟩ := pop_some h
    obtain ⟨x1, d1, rfl, h1⟩ := pop_some h0
    obtain ⟨x2, d2, rfl, h2⟩ := pop_some h1
    obtain ⟨rfl, g⟩ := popN_some h2
    obtain ⟨r1, h1, h2⟩ := bind_some g
    exact ⟨_, h2, code_Unique_1_2.con k _ h1⟩) (envC_ok (fun ds K r h => by
    obtain ⟨x0, d0, rfl, h0⟩ := pop_some h
    obtain ⟨x1, d1, rfl, h1⟩ := pop_some h0
    obtain ⟨x2, d2, rfl, h2⟩ := pop_some h1
    obtain ⟨rfl, g⟩ := popN_some h2
    obtain ⟨r1, h1, h2⟩ := bind_some g
    exact ⟨_, h2, code_Unique_1_3.con k _ h1⟩) (envC_ok (fun ds K r h => by
    obtain ⟨x0, d0, rfl, h0⟩ := pop_some h
    obtain ⟨x1, d1, rfl, h1⟩ := pop_some h0
    obtain ⟨rfl, g⟩ := popN_some h1
    obtain ⟨r1, h1, h2⟩ := bind_some g
    exact ⟨_, h2, code_Check.con k _ h1⟩) env0_ok)))))))
theorem code_Unique.con (k : Nat) {x0 : Int} {x1 : (List (List Int))} (r : (List Int) × (List Int) × Bool × Int) (h : code_Unique.f k x0 x1 = some r) : Con Try.prog 30 2 code_Unique.ti code_Unique.to [⟨(.int .i64), x0⟩, ⟨(.slice (.slice (.int .i64))), x1⟩] (code_Unique.rs r) :=
  code_Unique.con' (k + 1) _ r (by show code_Unique.c k _ = some r; unfold code_Unique.c; simp only [pop_self, popN]; exact h)
mutual
def evermoreref1_Words.l4 : Nat → List (Int) → List (Int) → Int → Option (Bool)
 | 0, _, _, _ => none
 | k + 1, a0, b1, i5 =>
  if i5 < (↑a0.length : Int) then
   if 0 ≤ i5 then
   if i5 < (↑a0.length : Int) then
    if 0 ≤ i5 then
     if i5 < (↑b1.length : Int) then
      if Go.Proofs.YtfkilmmldjajmaaSx.rd (Int.ofNat 0) a0 i5 = Go.Proofs.YtfkilmmldjajmaaSx.rd (Int.ofNat 0) b1 i5 then
        evermoreref1_Words.l4 k a0 b1 (Go.IntKind.i64.wrap (i5 + 1))
       else
        some (false)
      else none
     else none
    else none
   else none
  else
   some (true)
end
def evermoreref1_Words.f (k : Nat) (a0 : List (Int)) (b1 : List (Int)) : Option (Bool) :=
 if (↑a0.length : Int) = (↑b1.length : Int) then
  evermoreref1_Words.l4 k a0 b1 0
 else
  some (false)

noncomputable def evermoreref1_Words.body : Code := fnBody Try.f36
def evermoreref1_Words.ti : Tm := ⟨[(0, .p (.slice (.int .i64))), (1, .p (.slice (.int .i64)))], []⟩
def evermoreref1_Words.to : Tm := ⟨[(0, .p .bool)], []⟩
def evermoreref1_Words.rs (r : Bool) : List Dat := [⟨.bool, r⟩]
def evermoreref1_Words.out (ds : List Dat) : Option (Bool) := pop .bool ds fun x0 ds => popN ds (some (x0))
def evermoreref1_Words.c (k : Nat) (ds : List Dat) : Option (Bool) := pop (.slice (.int .i64)) ds fun x0 ds => pop (.slice (.int .i64)) ds fun x1 ds => popN ds (evermoreref1_Words.f k x0 x1)
def evermoreref1_Words.g : Nat → List Dat → Option (Bool)
 | 0, _ => none
 | k + 1, ds => evermoreref1_Words.c k ds
def evermoreref1_Words.env (k : Nat) : Nat → List SV → List Chunk → KT (Bool) → Option (Bool) := env0
def evermoreref1_Words.t9 : Tm := ⟨[(0, .p (.slice (.int .i64))), (1, .p (.slice (.int .i64))), (5, .p (.int .i64))], []⟩
def evermoreref1_Words.c9 (k : Nat) (ds : List Dat) : Option (Bool) := pop (.slice (.int .i64)) ds fun x0 ds => pop (.slice (.int .i64)) ds fun x1 ds => pop (.int .i64) ds fun x2 ds => popN ds (evermoreref1_Words.l4 k x0 x1 x2)
def evermoreref1_Words.tbl : List (Nat × Tm × (Nat → List Dat → Option (Bool))) := [(9, evermoreref1_Words.t9, evermoreref1_Words.c9)]
noncomputable abbrev evermoreref1_Words.R (k : Nat) := run T (evermoreref1_Words.env k) Try.f36.ntmps (cutE 0 evermoreref1_Words.tbl k) (finE 0 evermoreref1_Words.to evermoreref1_Words.out) (fnRes Try.f36) [] 100000 true
theorem evermoreref1_Words.e9 (k : Nat) (x0 : (List Int)) (x1 : (List Int)) (x2 : Int) : evermoreref1_Words.l4 (k + 1) x0 x1 x2 = evermoreref1_Words.R k (start (stackOf 9 evermoreref1_Words.body)) (evermoreref1_Words.t9.fill [⟨(.slice (.int .i64)), x0⟩, ⟨(.slice (.int .i64)), x1⟩, ⟨(.int .i64), x2⟩]) := by kernel_rfl
theorem evermoreref1_Words.s9 : stackAt 9 evermoreref1_Words.body [] = some (stackOf 9 evermoreref1_Words.body) := by kernel_rfl
theorem evermoreref1_Words.h9 (k : Nat) (ds : List Dat) (r : Bool) (h : evermoreref1_Words.c9 k ds = some r) : ∃ k', k' < k ∧ ∃ s, stackAt 9 evermoreref1_Words.body [] = some s ∧ evermoreref1_Words.R k' (start s) (evermoreref1_Words.t9.fill ds) = some r := by
  unfold evermoreref1_Words.c9 at h
  obtain ⟨x0, d0, rfl, h0⟩ := pop_some h
  obtain ⟨x1, d1, rfl, h1⟩ := pop_some h0
  obtain ⟨x2, d2, rfl, h2⟩ := pop_some h1
  obtain ⟨rfl, g⟩ := popN_some h2
  cases k with
  | zero => cases (show none = some r from g)
  | succ k => exact ⟨k, Nat.lt_succ_self k, _, evermoreref1_Words.s9, (evermoreref1_Words.e9 k x0 x1 x2).symm.trans g⟩
theorem evermoreref1_Words.e (k : Nat) (x0 : (List Int)) (x1 : (List Int)) : evermoreref1_Words.f k x0 x1 = evermoreref1_Words.R k ([.code evermoreref1_Words.body]) (evermoreref1_Words.ti.fill [⟨(.slice (.int .i64)), x0⟩, ⟨(.slice (.int .i64)), x1⟩]) := by kernel_rfl
theorem evermoreref1_Words.h (k : Nat) (ds : List Dat) (r : Bool) (h : evermoreref1_Words.g k ds = some r) : ∃ k', k' < k ∧ evermoreref1_Words.R k' ([.code evermoreref1_Words.body]) (evermoreref1_Words.ti.fill ds) = some r := by
  cases k with
  | zero => cases (show none = some r from h)
  | succ k =>
  replace h : evermoreref1_Words.c k ds = some r := h
  unfold evermoreref1_Words.c at h
  obtain ⟨x0, d0, rfl, h0⟩ := pop_some h
  obtain ⟨x1, d1, rfl, h1⟩ := pop_some h0
  obtain ⟨rfl, g⟩ := popN_some h1
  exact ⟨k, Nat.lt_succ_self k, (evermoreref1_Words.e k x0 x1).symm.trans g⟩
theorem evermoreref1_Words.o (ds : List Dat) (r : Bool) (h : evermoreref1_Words.out ds = some r) : ds = evermoreref1_Words.rs r := by
  unfold evermoreref1_Words.out at h
  obtain ⟨x0, d0, rfl, h0⟩ := pop_some h
  obtain ⟨rfl, g⟩ := popN_some h0
  cases g
  rfl
theorem evermoreref1_Words.fn : FnOk Try.prog 36 Try.f36 evermoreref1_Words.body Try.f36.ntmps 2 (fnRes Try.f36) :=
  fnOk_of (by kernel_rfl) (by kernel_rfl) (by kernel_rfl) (by kernel_rfl)
theorem evermoreref1_Words.con' : ∀ k ds r, evermoreref1_Words.g k ds = some r → Con Try.prog 36 2 evermoreref1_Words.ti evermoreref1_Words.to ds (evermoreref1_Words.rs r) :=
  fun_ok (T := T) T_ok mixed evermoreref1_Words.fn (env := evermoreref1_Words.env) (tbl := evermoreref1_Words.tbl) (gOut := evermoreref1_Words.out) (nin := 0) (cuts := []) (fuel := 100000) rfl (by kernel_rfl) (by kernel_rfl) (by kernel_rfl) (fun x hx => by
    simp only [evermoreref1_Words.tbl, List.mem_cons, List.not_mem_nil, or_false] at hx
    subst hx
    · exact evermoreref1_Words.h9
) evermoreref1_Words.o evermoreref1_Words.h (fun k _ => by unfold evermoreref1_Words.env; exact env0_ok)
theorem evermoreref1_Words.con (k : Nat) {x0 : (List Int)} {x1 : (List Int)} (r : Bool) (h : evermoreref1_Words.f k x0 x1 = some r) : Con Try.prog 36 2 evermoreref1_Words.ti evermoreref1_Words.to [⟨(.slice (.int .i64)), x0⟩, ⟨(.slice (.int .i64)), x1⟩] (evermoreref1_Words.rs r) :=
  evermoreref1_Words.con' (k + 1) _ r (by show evermoreref1_Words.c k _ = some r; unfold evermoreref1_Words.c; simp only [pop_self, popN]; exact h)
mutual
def evermorelaw_sameLists.l4 : Nat → List (List (Int)) → List (List (Int)) → Int → Option (Bool)
 | 0, _, _, _ => none
 | k + 1, a0, b1, i5 =>
  if i5 < (↑a0.length : Int) then
   if 0 ≤ i5 then
   if i5 < (↑a0.length : Int) then
    if 0 ≤ i5 then
     if i5 < (↑b1.length : Int) then
      (evermoreref1_Words.f k (Go.Proofs.YtfkilmmldjajmaaSx.rd [] a0 i5) (Go.Proofs.YtfkilmmldjajmaaSx.rd [] b1 i5)).bind fun r_7 =>
        if r_7 = true then
         evermorelaw_sameLists.l4 k a0 b1 (Go.IntKind.i64.wrap (i5 + 1))
        else
         some (false)
      else none
     else none
    else none
   else none
  else
   some (true)
end
def evermorelaw_sameLists.f (k : Nat) (a0 : List (List (Int))) (b1 : List (List (Int))) : Option (Bool) :=
 if (↑a0.length : Int) = (↑b1.length : Int) then
  evermorelaw_sameLists.l4 k a0 b1 0
 else
  some (false)

noncomputable def evermorelaw_sameLists.body : Code := fnBody Try.f32
def evermorelaw_sameLists.ti : Tm := ⟨[(0, .p (.slice (.slice (.int .i64)))), (1, .p (.slice (.slice (.int .i64))))], []⟩
def evermorelaw_sameLists.to : Tm := ⟨[(0, .p .bool)], []⟩
def evermorelaw_sameLists.rs (r : Bool) : List Dat := [⟨.bool, r⟩]
def evermorelaw_sameLists.out (ds : List Dat) : Option (Bool) := pop .bool ds fun x0 ds => popN ds (some (x0))
def evermorelaw_sameLists.c (k : Nat) (ds : List Dat) : Option (Bool) := pop (.slice (.slice (.int .i64))) ds fun x0 ds => pop (.slice (.slice (.int .i64))) ds fun x1 ds => popN ds (evermorelaw_sameLists.f k x0 x1)
def evermorelaw_sameLists.g : Nat → List Dat → Option (Bool)
 | 0, _ => none
 | k + 1, ds => evermorelaw_sameLists.c k ds
def evermorelaw_sameLists.env (k : Nat) : Nat → List SV → List Chunk → KT (Bool) → Option (Bool) := (envC 36 2 evermoreref1_Words.ti evermoreref1_Words.to (fun ds K => pop (.slice (.int .i64)) ds fun x0 ds => pop (.slice (.int .i64)) ds fun x1 ds => popN ds ((evermoreref1_Words.f k x0 x1).bind fun r => K (evermoreref1_Words.rs r))) env0)
def evermorelaw_sameLists.t9 : Tm := ⟨[(0, .p (.slice (.slice (.int .i64)))), (1, .p (.slice (.slice (.int .i64)))), (5, .p (.int .i64))], []⟩
def evermorelaw_sameLists.c9 (k : Nat) (ds : List Dat) : Option (Bool) := pop (.slice (.slice (.int .i64))) ds fun x0 ds => pop (.slice (.slice (.int .i64))) ds fun x1 ds => pop (.int .i64) ds fun x2 ds => popN ds (evermorelaw_sameLists.l4 k x0 x1 x2)
def evermorelaw_sameLists.tbl : List (Nat × Tm × (Nat → List Dat → Option (Bool))) := [(9, evermorelaw_sameLists.t9, evermorelaw_sameLists.c9)]
noncomputable abbrev evermorelaw_sameLists.R (k : Nat) := run T (evermorelaw_sameLists.env k) Try.f32.ntmps (cutE 0 evermorelaw_sameLists.tbl k) (finE 0 evermorelaw_sameLists.to evermorelaw_sameLists.out) (fnRes Try.f32) [] 100000 true
theorem evermorelaw_sameLists.e9 (k : Nat) (x0 : (List (List Int))) (x1 : (List (List Int))) (x2 : Int) : evermorelaw_sameLists.l4 (k + 1) x0 x1 x2 = evermorelaw_sameLists.R k (start (stackOf 9 evermorelaw_sameLists.body)) (evermorelaw_sameLists.t9.fill [⟨(.slice (.slice (.int .i64))), x0⟩, ⟨(.slice (.slice (.int .i64))), x1⟩, ⟨(.int .i64), x2⟩]) := by kernel_rfl
theorem evermorelaw_sameLists.s9 : stackAt 9 evermorelaw_sameLists.body [] = some (stackOf 9 evermorelaw_sameLists.body) := by kernel_rfl
theorem evermorelaw_sameLists.h9 (k : Nat) (ds : List Dat) (r : Bool) (h : evermorelaw_sameLists.c9 k ds = some r) : ∃ k', k' < k ∧ ∃ s, stackAt 9 evermorelaw_sameLists.body [] = some s ∧ evermorelaw_sameLists.R k' (start s) (evermorelaw_sameLists.t9.fill ds) = some r := by
  unfold evermorelaw_sameLists.c9 at h
  obtain ⟨x0, d0, rfl, h0⟩ := pop_some h
  obtain ⟨x1, d1, rfl, h1⟩ := pop_some h0
  obtain ⟨x2, d2, rfl, h2⟩ := pop_some h1
  obtain ⟨rfl, g⟩ := popN_some h2
  cases k with
  | zero => cases (show none = some r from g)
  | succ k => exact ⟨k, Nat.lt_succ_self k, _, evermorelaw_sameLists.s9, (evermorelaw_sameLists.e9 k x0 x1 x2).symm.trans g⟩
theorem evermorelaw_sameLists.e (k : Nat) (x0 : (List (List Int))) (x1 : (List (List Int))) : evermorelaw_sameLists.f k x0 x1 = evermorelaw_sameLists.R k ([.code evermorelaw_sameLists.body]) (evermorelaw_sameLists.ti.fill [⟨(.slice (.slice (.int .i64))), x0⟩, ⟨(.slice (.slice (.int .i64))), x1⟩]) := by kernel_rfl
theorem evermorelaw_sameLists.h (k : Nat) (ds : List Dat) (r : Bool) (h : evermorelaw_sameLists.g k ds = some r) : ∃ k', k' < k ∧ evermorelaw_sameLists.R k' ([.code evermorelaw_sameLists.body]) (evermorelaw_sameLists.ti.fill ds) = some r := by
  cases k with
  | zero => cases (show none = some r from h)
  | succ k =>
  replace h : evermorelaw_sameLists.c k ds = some r := h
  unfold evermorelaw_sameLists.c at h
  obtain ⟨x0, d0, rfl, h0⟩ := pop_some h
  obtain ⟨x1, d1, rfl, h1⟩ := pop_some h0
  obtain ⟨rfl, g⟩ := popN_some h1
  exact ⟨k, Nat.lt_succ_self k, (evermorelaw_sameLists.e k x0 x1).symm.trans g⟩
theorem evermorelaw_sameLists.o (ds : List Dat) (r : Bool) (h : evermorelaw_sameLists.out ds = some r) : ds = evermorelaw_sameLists.rs r := by
  unfold evermorelaw_sameLists.out at h
  obtain ⟨x0, d0, rfl, h0⟩ := pop_some h
  obtain ⟨rfl, g⟩ := popN_some h0
  cases g
  rfl
theorem evermorelaw_sameLists.fn : FnOk Try.prog 32 Try.f32 evermorelaw_sameLists.body Try.f32.ntmps 2 (fnRes Try.f32) :=
  fnOk_of (by kernel_rfl) (by kernel_rfl) (by kernel_rfl) (by kernel_rfl)
theorem evermorelaw_sameLists.con' : ∀ k ds r, evermorelaw_sameLists.g k ds = some r → Con Try.prog 32 2 evermorelaw_sameLists.ti evermorelaw_sameLists.to ds (evermorelaw_sameLists.rs r) :=
  fun_ok (T := T) T_ok mixed evermorelaw_sameLists.fn (env := evermorelaw_sameLists.env) (tbl := evermorelaw_sameLists.tbl) (gOut := evermorelaw_sameLists.out) (nin := 0) (cuts := []) (fuel := 100000) rfl (by kernel_rfl) (by kernel_rfl) (by kernel_rfl) (fun x hx => by
    simp only [evermorelaw_sameLists.tbl, List.mem_cons, List.not_mem_nil, or_false] at hx
    subst hx
    · exact evermorelaw_sameLists.h9
) evermorelaw_sameLists.o evermorelaw_sameLists.h (fun k _ => by unfold evermorelaw_sameLists.env; exact (envC_ok (fun ds K r h => by
    obtain ⟨x0, d0, rfl, h0⟩ := pop_some h
    obtain ⟨x1, d1, rfl, h1⟩ := pop_some h0
    obtain ⟨rfl, g⟩ := popN_some h1
    obtain ⟨r1, h1, h2⟩ := bind_some g
    exact ⟨_, h2, evermoreref1_Words.con k _ h1⟩) env0_ok))
theorem evermorelaw_sameLists.con (k : Nat) {x0 : (List (List Int))} {x1 : (List (List Int))} (r : Bool) (h : evermorelaw_sameLists.f k x0 x1 = some r) : Con Try.prog 32 2 evermorelaw_sameLists.ti evermorelaw_sameLists.to [⟨(.slice (.slice (.int .i64))), x0⟩, ⟨(.slice (.slice (.int .i64))), x1⟩] (evermorelaw_sameLists.rs r) :=
  evermorelaw_sameLists.con' (k + 1) _ r (by show evermorelaw_sameLists.c k _ = some r; unfold evermorelaw_sameLists.c; simp only [pop_self, popN]; exact h)
mutual
def evermoreref24_Check.l6 : Nat → Int → List (List (Int)) → Int → Option (Int)
 | 0, _, _, _ => none
 | k + 1, letters0, l1, i5 =>
  if i5 < (↑l1.length : Int) then
   if 0 ≤ i5 then
   if i5 < (↑l1.length : Int) then
    if (↑(Go.Proofs.YtfkilmmldjajmaaSx.rd [] l1 i5).length : Int) < 1 then
      some (1)
     else
      if 0 ≤ i5 then
      if i5 < (↑l1.length : Int) then
       if 10 < (↑(Go.Proofs.YtfkilmmldjajmaaSx.rd [] l1 i5).length : Int) then
         some (1)
        else
         evermoreref24_Check.l11 k letters0 l1 i5 0
       else none
      else none
    else none
   else none
  else
   some (0)
def evermoreref24_Check.l11 : Nat → Int → List (List (Int)) → Int → Int → Option (Int)
 | 0, _, _, _, _ => none
 | k + 1, letters0, l1, i5, k6 =>
  if 0 ≤ i5 then
  if i5 < (↑l1.length : Int) then
   if k6 < (↑(Go.Proofs.YtfkilmmldjajmaaSx.rd [] l1 i5).length : Int) then
     if 0 ≤ i5 then
     if i5 < (↑l1.length : Int) then
      if 0 ≤ k6 then
       if k6 < (↑(Go.Proofs.YtfkilmmldjajmaaSx.rd [] l1 i5).length : Int) then
        if Go.Proofs.YtfkilmmldjajmaaSx.rd (Int.ofNat 0) (Go.Proofs.YtfkilmmldjajmaaSx.rd [] l1 i5) k6 < 0 then
          some (2)
         else
          if 0 ≤ i5 then
          if i5 < (↑l1.length : Int) then
           if 0 ≤ k6 then
            if k6 < (↑(Go.Proofs.YtfkilmmldjajmaaSx.rd [] l1 i5).length : Int) then
             if letters0 ≤ Go.Proofs.YtfkilmmldjajmaaSx.rd (Int.ofNat 0) (Go.Proofs.YtfkilmmldjajmaaSx.rd [] l1 i5) k6 then
               some (2)
              else
               evermoreref24_Check.l11 k letters0 l1 i5 (Go.IntKind.i64.wrap (k6 + 1))
             else none
            else none
           else none
          else none
        else none
       else none
      else none
     else none
    else
     evermoreref24_Check.l6 k letters0 l1 (Go.IntKind.i64.wrap (i5 + 1))
   else none
  else none
end
def evermoreref24_Check.f (k : Nat) (letters0 : Int) (l1 : List (List (Int))) : Option (Int) :=
 if letters0 < 1 then
  some (2)
 else
  if 4 < letters0 then
   some (2)
  else
   if (↑l1.length : Int) < 1 then
    some (1)
   else
    if 10 < (↑l1.length : Int) then
     some (1)
    else
     evermoreref24_Check.l6 k letters0 l1 0

noncomputable def evermoreref24_Check.body : Code := fnBody Try.f33
def evermoreref24_Check.ti : Tm := ⟨[(0, .p (.int .i64)), (1, .p (.slice (.slice (.int .i64))))], []⟩
def evermoreref24_Check.to : Tm := ⟨[(0, .p (.int .i64))], []⟩
def evermoreref24_Check.rs (r : Int) : List Dat := [⟨(.int .i64), r⟩]
def evermoreref24_Check.out (ds : List Dat) : Option (Int) := pop (.int .i64) ds fun x0 ds => popN ds (some (x0))
def evermoreref24_Check.c (k : Nat) (ds : List Dat) : Option (Int) := pop (.int .i64) ds fun x0 ds => pop (.slice (.slice (.int .i64))) ds fun x1 ds => popN ds (evermoreref24_Check.f k x0 x1)
def evermoreref24_Check.g : Nat → List Dat → Option (Int)
 | 0, _ => none
 | k + 1, ds => evermoreref24_Check.c k ds
def evermoreref24_Check.env (k : Nat) : Nat → List SV → List Chunk → KT (Int) → Option (Int) := env0
def evermoreref24_Check.t13 : Tm := ⟨[(0, .p (.int .i64)), (1, .p (.slice (.slice (.int .i64)))), (5, .p (.int .i64))], []⟩
def evermoreref24_Check.c13 (k : Nat) (ds : List Dat) : Option (Int) := pop (.int .i64) ds fun x0 ds => pop (.slice (.slice (.int .i64))) ds fun x1 ds => pop (.int .i64) ds fun x2 ds => popN ds (evermoreref24_Check.l6 k x0 x1 x2)
def evermoreref24_Check.t23 : Tm := ⟨[(0, .p (.int .i64)), (1, .p (.slice (.slice (.int .i64)))), (5, .p (.int .i64)), (6, .p (.int .i64))], []⟩
def evermoreref24_Check.c23 (k : Nat) (ds : List Dat) : Option (Int) := pop (.int .i64) ds fun x0 ds => pop (.slice (.slice (.int .i64))) ds fun x1 ds => pop (.int .i64) ds fun x2 ds => pop (.int .i64) ds fun x3 ds => popN ds (evermoreref24_Check.l11 k x0 x1 x2 x3)
def evermoreref24_Check.tbl : List (Nat × Tm × (Nat → List Dat → Option (Int))) := [(13, evermoreref24_Check.t13, evermoreref24_Check.c13), (23, evermoreref24_Check.t23, evermoreref24_Check.c23)]
noncomputable abbrev evermoreref24_Check.R (k : Nat) := run T (evermoreref24_Check.env k) Try.f33.ntmps (cutE 0 evermoreref24_Check.tbl k) (finE 0 evermoreref24_Check.to evermoreref24_Check.out) (fnRes Try.f33) [] 100000 true
theorem evermoreref24_Check.e13 (k : Nat) (x0 : Int) (x1 : (List (List Int))) (x2 : Int) : evermoreref24_Check.l6 (k + 1) x0 x1 x2 = evermoreref24_Check.R k (start (stackOf 13 evermoreref24_Check.body)) (evermoreref24_Check.t13.fill [⟨(.int .i64), x0⟩, ⟨(.slice (.slice (.int .i64))), x1⟩, ⟨(.int .i64), x2⟩]) := by kernel_rfl
theorem evermoreref24_Check.s13 : stackAt 13 evermoreref24_Check.body [] = some (stackOf 13 evermoreref24_Check.body) := by kernel_rfl
theorem evermoreref24_Check.h13 (k : Nat) (ds : List Dat) (r : Int) (h : evermoreref24_Check.c13 k ds = some r) : ∃ k', k' < k ∧ ∃ s, stackAt 13 evermoreref24_Check.body [] = some s ∧ evermoreref24_Check.R k' (start s) (evermoreref24_Check.t13.fill ds) = some r := by
  unfold evermoreref24_Check.c13 at h
  obtain ⟨x0, d0, rfl, h0⟩ := pop_some h
  obtain ⟨x1, d1, rfl, h1⟩ := pop_some h0
  obtain ⟨x2, d2, rfl, h2⟩ := pop_some h1
  obtain ⟨rfl, g⟩ := popN_some h2
  cases k with
  | zero => cases (show none = some r from g)
  | succ k => exact ⟨k, Nat.lt_succ_self k, _, evermoreref24_Check.s13, (evermoreref24_Check.e13 k x0 x1 x2).symm.trans g⟩
theorem evermoreref24_Check.e23 (k : Nat) (x0 : Int) (x1 : (List (List Int))) (x2 : Int) (x3 : Int) : evermoreref24_Check.l11 (k + 1) x0 x1 x2 x3 = evermoreref24_Check.R k (start (stackOf 23 evermoreref24_Check.body)) (evermoreref24_Check.t23.fill [⟨(.int .i64), x0⟩, ⟨(.slice (.slice (.int .i64))), x1⟩, ⟨(.int .i64), x2⟩, ⟨(.int .i64), x3⟩]) := by kernel_rfl
theorem evermoreref24_Check.s23 : stackAt 23 evermoreref24_Check.body [] = some (stackOf 23 evermoreref24_Check.body) := by kernel_rfl
theorem evermoreref24_Check.h23 (k : Nat) (ds : List Dat) (r : Int) (h : evermoreref24_Check.c23 k ds = some r) : ∃ k', k' < k ∧ ∃ s, stackAt 23 evermoreref24_Check.body [] = some s ∧ evermoreref24_Check.R k' (start s) (evermoreref24_Check.t23.fill ds) = some r := by
  unfold evermoreref24_Check.c23 at h
  obtain ⟨x0, d0, rfl, h0⟩ := pop_some h
  obtain ⟨x1, d1, rfl, h1⟩ := pop_some h0
  obtain ⟨x2, d2, rfl, h2⟩ := pop_some h1
  obtain ⟨x3, d3, rfl, h3⟩ := pop_some h2
  obtain ⟨rfl, g⟩ := popN_some h3
  cases k with
  | zero => cases (show none = some r from g)
  | succ k => exact ⟨k, Nat.lt_succ_self k, _, evermoreref24_Check.s23, (evermoreref24_Check.e23 k x0 x1 x2 x3).symm.trans g⟩
theorem evermoreref24_Check.e (k : Nat) (x0 : Int) (x1 : (List (List Int))) : evermoreref24_Check.f k x0 x1 = evermoreref24_Check.R k ([.code evermoreref24_Check.body]) (evermoreref24_Check.ti.fill [⟨(.int .i64), x0⟩, ⟨(.slice (.slice (.int .i64))), x1⟩]) := by kernel_rfl
theorem evermoreref24_Check.h (k : Nat) (ds : List Dat) (r : Int) (h : evermoreref24_Check.g k ds = some r) : ∃ k', k' < k ∧ evermoreref24_Check.R k' ([.code evermoreref24_Check.body]) (evermoreref24_Check.ti.fill ds) = some r := by
  cases k with
  | zero => cases (show none = some r from h)
  | succ k =>
  replace h : evermoreref24_Check.c k ds = some r := h
  unfold evermoreref24_Check.c at h
  obtain ⟨x0, d0, rfl, h0⟩ := pop_some h
  obtain ⟨x1, d1, rfl, h1⟩ := pop_some h0
  obtain ⟨rfl, g⟩ := popN_some h1
  exact ⟨k, Nat.lt_succ_self k, (evermoreref24_Check.e k x0 x1).symm.trans g⟩
theorem evermoreref24_Check.o (ds : List Dat) (r : Int) (h : evermoreref24_Check.out ds = some r) : ds = evermoreref24_Check.rs r := by
  unfold evermoreref24_Check.out at h
  obtain ⟨x0, d0, rfl, h0⟩ := pop_some h
  obtain ⟨rfl, g⟩ := popN_some h0
  cases g
  rfl
theorem evermoreref24_Check.fn : FnOk Try.prog 33 Try.f33 evermoreref24_Check.body Try.f33.ntmps 2 (fnRes Try.f33) :=
  fnOk_of (by kernel_rfl) (by kernel_rfl) (by kernel_rfl) (by kernel_rfl)
theorem evermoreref24_Check.con' : ∀ k ds r, evermoreref24_Check.g k ds = some r → Con Try.prog 33 2 evermoreref24_Check.ti evermoreref24_Check.to ds (evermoreref24_Check.rs r) :=
  fun_ok (T := T) T_ok mixed evermoreref24_Check.fn (env := evermoreref24_Check.env) (tbl := evermoreref24_Check.tbl) (gOut := evermoreref24_Check.out) (nin := 0) (cuts := []) (fuel := 100000) rfl (by kernel_rfl) (by kernel_rfl) (by kernel_rfl) (fun x hx => by
    simp only [evermoreref24_Check.tbl, List.mem_cons, List.not_mem_nil, or_false] at hx
    rcases hx with rfl | rfl
    · exact evermoreref24_Check.h13
    · exact evermoreref24_Check.h23
) evermoreref24_Check.o evermoreref24_Check.h (fun k _ => by unfold evermoreref24_Check.env; exact env0_ok)
theorem evermoreref24_Check.con (k : Nat) {x0 : Int} {x1 : (List (List Int))} (r : Int) (h : evermoreref24_Check.f k x0 x1 = some r) : Con Try.prog 33 2 evermoreref24_Check.ti evermoreref24_Check.to [⟨(.int .i64), x0⟩, ⟨(.slice (.slice (.int .i64))), x1⟩] (evermoreref24_Check.rs r) :=
  evermoreref24_Check.con' (k + 1) _ r (by show evermoreref24_Check.c k _ = some r; unfold evermoreref24_Check.c; simp only [pop_self, popN]; exact h)
def evermoreref24_Begins.f (k : Nat) (w0 : List (Int)) (v1 : List (Int)) : Option (Bool) :=
 if (↑w0.length : Int) < (↑v1.length : Int) then
  some (false)
 else
  if 0 ≤ 0 then
  if 0 ≤ (↑v1.length : Int) then
   if (↑v1.length : Int) ≤ (↑w0.length : Int) then
    (evermoreref1_Words.f k (List.take ((↑v1.length : Int).toNat - Int.toNat 0) (List.drop (Int.toNat 0) w0)) v1).bind fun r_5 =>
      some (r_5)
    else none
   else none
  else none

noncomputable def evermoreref24_Begins.body : Code := fnBody Try.f98
def evermoreref24_Begins.ti : Tm := ⟨[(0, .p (.slice (.int .i64))), (1, .p (.slice (.int .i64)))], []⟩
def evermoreref24_Begins.to : Tm := ⟨[(0, .p .bool)], []⟩
def evermoreref24_Begins.rs (r : Bool) : List Dat := [⟨.bool, r⟩]
def evermoreref24_Begins.out (ds : List Dat) : Option (Bool) := pop .bool ds fun x0 ds => popN ds (some (x0))
def evermoreref24_Begins.c (k : Nat) (ds : List Dat) : Option (Bool) := pop (.slice (.int .i64)) ds fun x0 ds => pop (.slice (.int .i64)) ds fun x1 ds => popN ds (evermoreref24_Begins.f k x0 x1)
def evermoreref24_Begins.g : Nat → List Dat → Option (Bool)
 | 0, _ => none
 | k + 1, ds => evermoreref24_Begins.c k ds
def evermoreref24_Begins.env (k : Nat) : Nat → List SV → List Chunk → KT (Bool) → Option (Bool) := (envC 36 2 evermoreref1_Words.ti evermoreref1_Words.to (fun ds K => pop (.slice (.int .i64)) ds fun x0 ds => pop (.slice (.int .i64)) ds fun x1 ds => popN ds ((evermoreref1_Words.f k x0 x1).bind fun r => K (evermoreref1_Words.rs r))) env0)
def evermoreref24_Begins.tbl : List (Nat × Tm × (Nat → List Dat → Option (Bool))) := []
noncomputable abbrev evermoreref24_Begins.R (k : Nat) := run T (evermoreref24_Begins.env k) Try.f98.ntmps (cutE 0 evermoreref24_Begins.tbl k) (finE 0 evermoreref24_Begins.to evermoreref24_Begins.out) (fnRes Try.f98) [] 100000 true
theorem evermoreref24_Begins.e (k : Nat) (x0 : (List Int)) (x1 : (List Int)) : evermoreref24_Begins.f k x0 x1 = evermoreref24_Begins.R k ([.code evermoreref24_Begins.body]) (evermoreref24_Begins.ti.fill [⟨(.slice (.int .i64)), x0⟩, ⟨(.slice (.int .i64)), x1⟩]) := by kernel_rfl
theorem evermoreref24_Begins.h (k : Nat) (ds : List Dat) (r : Bool) (h : evermoreref24_Begins.g k ds = some r) : ∃ k', k' < k ∧ evermoreref24_Begins.R k' ([.code evermoreref24_Begins.body]) (evermoreref24_Begins.ti.fill ds) = some r := by
  cases k with
  | zero => cases (show none = some r from h)
  | succ k =>
  replace h : evermoreref24_Begins.c k ds = some r := h
  unfold evermoreref24_Begins.c at h
  obtain ⟨x0, d0, rfl, h0⟩ := pop_some h
  obtain ⟨x1, d1, rfl, h1⟩ := pop_some h0
  obtain ⟨rfl, g⟩ := popN_some h1
  exact ⟨k, Nat.lt_succ_self k, (evermoreref24_Begins.e k x0 x1).symm.trans g⟩
theorem evermoreref24_Begins.o (ds : List Dat) (r : Bool) (h : evermoreref24_Begins.out ds = some r) : ds = evermoreref24_Begins.rs r := by
  unfold evermoreref24_Begins.out at h
  obtain ⟨x0, d0, rfl, h0⟩ := pop_some h
  obtain ⟨rfl, g⟩ := popN_some h0
  cases g
  rfl
theorem evermoreref24_Begins.fn : FnOk Try.prog 98 Try.f98 evermoreref24_Begins.body Try.f98.ntmps 2 (fnRes Try.f98) :=
  fnOk_of (by kernel_rfl) (by kernel_rfl) (by kernel_rfl) (by kernel_rfl)
theorem evermoreref24_Begins.con' : ∀ k ds r, evermoreref24_Begins.g k ds = some r → Con Try.prog 98 2 evermoreref24_Begins.ti evermoreref24_Begins.to ds (evermoreref24_Begins.rs r) :=
  fun_ok (T := T) T_ok mixed evermoreref24_Begins.fn (env := evermoreref24_Begins.env) (tbl := evermoreref24_Begins.tbl) (gOut := evermoreref24_Begins.out) (nin := 0) (cuts := []) (fuel := 100000) rfl (by kernel_rfl) (by kernel_rfl) (by kernel_rfl) (fun x hx => by simp [evermoreref24_Begins.tbl] at hx) evermoreref24_Begins.o evermoreref24_Begins.h (fun k _ => by unfold evermoreref24_Begins.env; exact (envC_ok (fun ds K r h => by
    obtain ⟨x0, d0, rfl, h0⟩ := pop_some h
    obtain ⟨x1, d1, rfl, h1⟩ := pop_some h0
    obtain ⟨rfl, g⟩ := popN_some h1
    obtain ⟨r1, h1, h2⟩ := bind_some g
    exact ⟨_, h2, evermoreref1_Words.con k _ h1⟩) env0_ok))
theorem evermoreref24_Begins.con (k : Nat) {x0 : (List Int)} {x1 : (List Int)} (r : Bool) (h : evermoreref24_Begins.f k x0 x1 = some r) : Con Try.prog 98 2 evermoreref24_Begins.ti evermoreref24_Begins.to [⟨(.slice (.int .i64)), x0⟩, ⟨(.slice (.int .i64)), x1⟩] (evermoreref24_Begins.rs r) :=
  evermoreref24_Begins.con' (k + 1) _ r (by show evermoreref24_Begins.c k _ = some r; unfold evermoreref24_Begins.c; simp only [pop_self, popN]; exact h)
mutual
def evermoreref24_put.l2 : Nat → List (Int) → Int → List (List (Int)) → Option (List (List Int))
 | 0, _, _, _ => none
 | k + 1, w1, i5, l0 =>
  if i5 < (↑l0.length : Int) then
   if 0 ≤ i5 then
   if i5 < (↑l0.length : Int) then
    (evermoreref1_Words.f k (l0.getD i5.toNat []) w1).bind fun r_5 =>
      if r_5 = true then
       some (l0)
      else
       evermoreref24_put.l2 k w1 (Go.IntKind.i64.wrap (i5 + 1)) l0
    else none
   else none
  else
   if Go.Proofs.YtfkilmmldjajmaaSx.fitsIn (l0 ++ [w1]).length 24 = true then
   some (l0 ++ [w1])
   else none
end
def evermoreref24_put.f (k : Nat) (w1 : List (Int)) (l0 : List (List (Int))) : Option (List (List Int)) :=
 evermoreref24_put.l2 k w1 0 l0

noncomputable def evermoreref24_put.body : Code := fnBody Try.f99
def evermoreref24_put.ti : Tm := ⟨[(0, .own 0), (1, .p (.slice (.int .i64)))], [.own (.slice (.int .i64))]⟩
def evermoreref24_put.to : Tm := ⟨[(0, .own 1)], [.gone, .own (.slice (.int .i64))]⟩
def evermoreref24_put.rs (r : (List (List Int))) : List Dat := [⟨(.slice (.slice (.int .i64))), r⟩]
def evermoreref24_put.out (ds : List Dat) : Option ((List (List Int))) := pop (.slice (.slice (.int .i64))) ds fun x0 ds => popN ds (some (x0))
def evermoreref24_put.c (k : Nat) (ds : List Dat) : Option ((List (List Int))) := pop (.slice (.int .i64)) ds fun x0 ds => pop (.slice (.slice (.int .i64))) ds fun x1 ds => popN ds (evermoreref24_put.f k x0 x1)
def evermoreref24_put.g : Nat → List Dat → Option ((List (List Int)))
 | 0, _ => none
 | k + 1, ds => evermoreref24_put.c k ds
def evermoreref24_put.env (k : Nat) : Nat → List SV → List Chunk → KT ((List (List Int))) → Option ((List (List Int))) := (envC 36 2 evermoreref1_Words.ti evermoreref1_Words.to (fun ds K => pop (.slice (.int .i64)) ds fun x0 ds => pop (.slice (.int .i64)) ds fun x1 ds => popN ds ((evermoreref1_Words.f k x0 x1).bind fun r => K (evermoreref1_Words.rs r))) env0)
def evermoreref24_put.t5 : Tm := ⟨[(0, .own 0), (1, .p (.slice (.int .i64))), (5, .p (.int .i64))], [.own (.slice (.int .i64))]⟩
def evermoreref24_put.c5 (k : Nat) (ds : List Dat) : Option ((List (List Int))) := pop (.slice (.int .i64)) ds fun x0 ds => pop (.int .i64) ds fun x1 ds => pop (.slice (.slice (.int .i64))) ds fun x2 ds => popN ds (evermoreref24_put.l2 k x0 x1 x2)
def evermoreref24_put.tbl : List (Nat × Tm × (Nat → List Dat → Option ((List (List Int))))) := [(5, evermoreref24_put.t5, evermoreref24_put.c5)]
noncomputable abbrev evermoreref24_put.R (k : Nat) := run T (evermoreref24_put.env k) Try.f99.ntmps (cutE 1 evermoreref24_put.tbl k) (finE 1 evermoreref24_put.to evermoreref24_put.out) (fnRes Try.f99) [] 100000 true
theorem evermoreref24_put.e5 (k : Nat) (x0 : (List Int)) (x1 : Int) (x2 : (List (List Int))) : evermoreref24_put.l2 (k + 1) x0 x1 x2 = evermoreref24_put.R k (start (stackOf 5 evermoreref24_put.body)) (evermoreref24_put.t5.fill [⟨(.slice (.int .i64)), x0⟩, ⟨(.int .i64), x1⟩, ⟨(.slice (.slice (.int .i64))), x2⟩]) := by kernel_rfl
theorem evermoreref24_put.s5 : stackAt 5 evermoreref24_put.body [] = some (stackOf 5 evermoreref24_put.body) := by kernel_rfl
theorem evermoreref24_put.h5 (k : Nat) (ds : List Dat) (r : (List (List Int))) (h : evermoreref24_put.c5 k ds = some r) : ∃ k', k' < k ∧ ∃ s, stackAt 5 evermoreref24_put.body [] = some s ∧ evermoreref24_put.R k' (start s) (evermoreref24_put.t5.fill ds) = some r := by
  unfold evermoreref24_put.c5 at h
  obtain ⟨x0, d0, rfl, h0⟩ := pop_some h
  obtain ⟨x1, d1, rfl, h1⟩ := pop_some h0
  obtain ⟨x2, d2, rfl, h2⟩ := pop_some h1
  obtain ⟨rfl, g⟩ := popN_some h2
  cases k with
  | zero => cases (show none = some r from g)
  | succ k => exact ⟨k, Nat.lt_succ_self k, _, evermoreref24_put.s5, (evermoreref24_put.e5 k x0 x1 x2).symm.trans g⟩
theorem evermoreref24_put.e (k : Nat) (x0 : (List Int)) (x1 : (List (List Int))) : evermoreref24_put.f k x0 x1 = evermoreref24_put.R k ([.code evermoreref24_put.body]) (evermoreref24_put.ti.fill [⟨(.slice (.int .i64)), x0⟩, ⟨(.slice (.slice (.int .i64))), x1⟩]) := by kernel_rfl
theorem evermoreref24_put.h (k : Nat) (ds : List Dat) (r : (List (List Int))) (h : evermoreref24_put.g k ds = some r) : ∃ k', k' < k ∧ evermoreref24_put.R k' ([.code evermoreref24_put.body]) (evermoreref24_put.ti.fill ds) = some r := by
  cases k with
  | zero => cases (show none = some r from h)
  | succ k =>
  replace h : evermoreref24_put.c k ds = some r := h
  unfold evermoreref24_put.c at h
  obtain ⟨x0, d0, rfl, h0⟩ := pop_some h
  obtain ⟨x1, d1, rfl, h1⟩ := pop_some h0
  obtain ⟨rfl, g⟩ := popN_some h1
  exact ⟨k, Nat.lt_succ_self k, (evermoreref24_put.e k x0 x1).symm.trans g⟩
theorem evermoreref24_put.o (ds : List Dat) (r : (List (List Int))) (h : evermoreref24_put.out ds = some r) : ds = evermoreref24_put.rs r := by
  unfold evermoreref24_put.out at h
  obtain ⟨x0, d0, rfl, h0⟩ := pop_some h
  obtain ⟨rfl, g⟩ := popN_some h0
  cases g
  rfl
theorem evermoreref24_put.fn : FnOk Try.prog 99 Try.f99 evermoreref24_put.body Try.f99.ntmps 2 (fnRes Try.f99) :=
  fnOk_of (by kernel_rfl) (by kernel_rfl) (by kernel_rfl) (by kernel_rfl)
theorem evermoreref24_put.con' : ∀ k ds r, evermoreref24_put.g k ds = some r → Con Try.prog 99 2 evermoreref24_put.ti evermoreref24_put.to ds (evermoreref24_put.rs r) :=
  fun_ok (T := T) T_ok mixed evermoreref24_put.fn (env := evermoreref24_put.env) (tbl := evermoreref24_put.tbl) (gOut := evermoreref24_put.out) (nin := 1) (cuts := []) (fuel := 100000) rfl (by kernel_rfl) (by kernel_rfl) (by kernel_rfl) (fun x hx => by
    simp only [evermoreref24_put.tbl, List.mem_cons, List.not_mem_nil, or_false] at hx
    subst hx
    · exact evermoreref24_put.h5
) evermoreref24_put.o evermoreref24_put.h (fun k _ => by unfold evermoreref24_put.env; exact (envC_ok (fun ds K r h => by
    obtain ⟨x0, d0, rfl, h0⟩ := pop_some h
    obtain ⟨x1, d1, rfl, h1⟩ := pop_some h0
    obtain ⟨rfl, g⟩ := popN_some h1
    obtain ⟨r1, h1, h2⟩ := bind_some g
    exact ⟨_, h2, evermoreref1_Words.con k _ h1⟩) env0_ok))
theorem evermoreref24_put.con (k : Nat) {x0 : (List Int)} {x1 : (List (List Int))} (r : (List (List Int))) (h : evermoreref24_put.f k x0 x1 = some r) : Con Try.prog 99 2 evermoreref24_put.ti evermoreref24_put.to [⟨(.slice (.int .i64)), x0⟩, ⟨(.slice (.slice (.int .i64))), x1⟩] (evermoreref24_put.rs r) :=
  evermoreref24_put.con' (k + 1) _ r (by show evermoreref24_put.c k _ = some r; unfold evermoreref24_put.c; simp only [pop_self, popN]; exact h)
mutual
def evermoreref24_Unique.l3 : Nat → List (List (Int)) → Int → List (List (Int)) → Option (Bool)
 | 0, _, _, _ => none
 | k + 1, l0, i4, rests3 =>
  if i4 < (↑l0.length : Int) then
   evermoreref24_Unique.l6 k l0 i4 0 rests3
  else
   evermoreref24_Unique.l12 k l0 0 rests3
def evermoreref24_Unique.l6 : Nat → List (List (Int)) → Int → Int → List (List (Int)) → Option (Bool)
 | 0, _, _, _, _ => none
 | k + 1, l0, i4, k5, rests3 =>
  if k5 < (↑l0.length : Int) then
   if 0 ≤ i4 then
   if i4 < (↑l0.length : Int) then
    if 0 ≤ k5 then
     if k5 < (↑l0.length : Int) then
      (evermoreref24_Begins.f k (Go.Proofs.YtfkilmmldjajmaaSx.rd [] l0 i4) (Go.Proofs.YtfkilmmldjajmaaSx.rd [] l0 k5)).bind fun r_7 =>
        if i4 = k5 then
         evermoreref24_Unique.j7 k l0 i4 k5 rests3
        else
         if r_7 = true then
          if 0 ≤ i4 then
          if i4 < (↑l0.length : Int) then
           if 0 ≤ k5 then
            if k5 < (↑l0.length : Int) then
             if 0 ≤ (↑(Go.Proofs.YtfkilmmldjajmaaSx.rd [] l0 k5).length : Int) then
              if (↑(Go.Proofs.YtfkilmmldjajmaaSx.rd [] l0 k5).length : Int) ≤ (↑(Go.Proofs.YtfkilmmldjajmaaSx.rd [] l0 i4).length : Int) then
               if (↑(Go.Proofs.YtfkilmmldjajmaaSx.rd [] l0 i4).length : Int) ≤ (↑(Go.Proofs.YtfkilmmldjajmaaSx.rd [] l0 i4).length : Int) then
                (evermoreref24_put.f k (List.take ((↑(Go.Proofs.YtfkilmmldjajmaaSx.rd [] l0 i4).length : Int).toNat - (↑(Go.Proofs.YtfkilmmldjajmaaSx.rd [] l0 k5).length : Int).toNat) (List.drop (↑(Go.Proofs.YtfkilmmldjajmaaSx.rd [] l0 k5).length : Int).toNat (Go.Proofs.YtfkilmmldjajmaaSx.rd [] l0 i4))) rests3).bind fun r_17 =>
                  evermoreref24_Unique.j7 k l0 i4 k5 r_17
                else none
               else none
              else none
             else none
            else none
           else none
          else none
         else
          evermoreref24_Unique.j7 k l0 i4 k5 rests3
      else none
     else none
    else none
   else none
  else
   evermoreref24_Unique.l3 k l0 (Go.IntKind.i64.wrap (i4 + 1)) rests3
def evermoreref24_Unique.l12 : Nat → List (List (Int)) → Int → List (List (Int)) → Option (Bool)
 | 0, _, _, _ => none
 | k + 1, l0, i7, rests3 =>
  if i7 < (↑rests3.length : Int) then
   if 0 ≤ i7 then
   if i7 < (↑rests3.length : Int) then
    if (↑(rests3.getD i7.toNat []).length : Int) = 0 then
      some (false)
     else
      evermoreref24_Unique.l18 k l0 i7 (rests3.getD i7.toNat []) 0 rests3
    else none
   else none
  else
   some (true)
def evermoreref24_Unique.j7 : Nat → List (List (Int)) → Int → Int → List (List (Int)) → Option (Bool)
 | 0, _, _, _, _ => none
 | k + 1, l0, i4, k5, rests3 =>
  evermoreref24_Unique.l6 k l0 i4 (Go.IntKind.i64.wrap (k5 + 1)) rests3
def evermoreref24_Unique.l18 : Nat → List (List (Int)) → Int → List (Int) → Int → List (List (Int)) → Option (Bool)
 | 0, _, _, _, _, _ => none
 | k + 1, l0, i7, r8, k9, rests3 =>
  if k9 < (↑l0.length : Int) then
   if 0 ≤ k9 then
   if k9 < (↑l0.length : Int) then
    (evermoreref24_Begins.f k r8 (Go.Proofs.YtfkilmmldjajmaaSx.rd [] l0 k9)).bind fun r_5 =>
      if 0 ≤ k9 then
      if k9 < (↑l0.length : Int) then
       (evermoreref24_Begins.f k (Go.Proofs.YtfkilmmldjajmaaSx.rd [] l0 k9) r8).bind fun r_8 =>
         if r_5 = true then
          if 0 ≤ k9 then
          if k9 < (↑l0.length : Int) then
           if 0 ≤ (↑(Go.Proofs.YtfkilmmldjajmaaSx.rd [] l0 k9).length : Int) then
            if (↑(Go.Proofs.YtfkilmmldjajmaaSx.rd [] l0 k9).length : Int) ≤ (↑r8.length : Int) then
             if (↑r8.length : Int) ≤ (↑r8.length : Int) then
              (evermoreref24_put.f k (List.take ((↑r8.length : Int).toNat - (↑(Go.Proofs.YtfkilmmldjajmaaSx.rd [] l0 k9).length : Int).toNat) (List.drop (↑(Go.Proofs.YtfkilmmldjajmaaSx.rd [] l0 k9).length : Int).toNat r8)) rests3).bind fun r_15 =>
                evermoreref24_Unique.j19 k l0 i7 r8 k9 r_15
              else none
             else none
            else none
           else none
          else none
         else
          if r_8 = true then
           if 0 ≤ k9 then
           if k9 < (↑l0.length : Int) then
            if 0 ≤ (↑r8.length : Int) then
             if (↑r8.length : Int) ≤ (↑(Go.Proofs.YtfkilmmldjajmaaSx.rd [] l0 k9).length : Int) then
              if (↑(Go.Proofs.YtfkilmmldjajmaaSx.rd [] l0 k9).length : Int) ≤ (↑(Go.Proofs.YtfkilmmldjajmaaSx.rd [] l0 k9).length : Int) then
               (evermoreref24_put.f k (List.take ((↑(Go.Proofs.YtfkilmmldjajmaaSx.rd [] l0 k9).length : Int).toNat - (↑r8.length : Int).toNat) (List.drop (↑r8.length : Int).toNat (Go.Proofs.YtfkilmmldjajmaaSx.rd [] l0 k9))) rests3).bind fun r_16 =>
                 evermoreref24_Unique.j19 k l0 i7 r8 k9 r_16
               else none
              else none
             else none
            else none
           else none
          else
           evermoreref24_Unique.j19 k l0 i7 r8 k9 rests3
       else none
      else none
    else none
   else none
  else
   evermoreref24_Unique.l12 k l0 (Go.IntKind.i64.wrap (i7 + 1)) rests3
def evermoreref24_Unique.j19 : Nat → List (List (Int)) → Int → List (Int) → Int → List (List (Int)) → Option (Bool)
 | 0, _, _, _, _, _ => none
 | k + 1, l0, i7, r8, k9, rests3 =>
  evermoreref24_Unique.l18 k l0 i7 r8 (Go.IntKind.i64.wrap (k9 + 1)) rests3
end
def evermoreref24_Unique.f (k : Nat) (l0 : List (List (Int))) : Option (Bool) :=
 evermoreref24_Unique.l3 k l0 0 []

noncomputable def evermoreref24_Unique.body : Code := fnBody Try.f34
def evermoreref24_Unique.ti : Tm := ⟨[(0, .p (.slice (.slice (.int .i64))))], []⟩
def evermoreref24_Unique.to : Tm := ⟨[(0, .p .bool)], []⟩
def evermoreref24_Unique.rs (r : Bool) : List Dat := [⟨.bool, r⟩]
def evermoreref24_Unique.out (ds : List Dat) : Option (Bool) := pop .bool ds fun x0 ds => popN ds (some (x0))
def evermoreref24_Unique.c (k : Nat) (ds : List Dat) : Option (Bool) := pop (.slice (.slice (.int .i64))) ds fun x0 ds => popN ds (evermoreref24_Unique.f k x0)
def evermoreref24_Unique.g : Nat → List Dat → Option (Bool)
 | 0, _ => none
 | k + 1, ds => evermoreref24_Unique.c k ds
def evermoreref24_Unique.env (k : Nat) : Nat → List SV → List Chunk → KT (Bool) → Option (Bool) := (envC 98 2 evermoreref24_Begins.ti evermoreref24_Begins.to (fun ds K => pop (.slice (.int .i64)) ds fun x0 ds => pop (.slice (.int .i64)) ds fun x1 ds => popN ds ((evermoreref24_Begins.f k x0 x1).bind fun r => K (evermoreref24_Begins.rs r))) (envC 99 2 evermoreref24_put.ti evermoreref24_put.to (fun ds K => pop (.slice (.int .i64)) ds fun x0 ds => pop (.slice (.slice (.int .i64))) ds fun x1 ds => popN ds ((evermoreref24_put.f k x0 x1).bind fun r => K (evermoreref24_put.rs r))) env0))
def evermoreref24_Unique.t7 : Tm := ⟨[(0, .p (.slice (.slice (.int .i64)))), (3, .own 0), (4, .p (.int .i64))], [.own (.slice (.int .i64))]⟩
def evermoreref24_Unique.c7 (k : Nat) (ds : List Dat) : Option (Bool) := pop (.slice (.slice (.int .i64))) ds fun x0 ds => pop (.int .i64) ds fun x1 ds => pop (.slice (.slice (.int .i64))) ds fun x2 ds => popN ds (evermoreref24_Unique.l3 k x0 x1 x2)
def evermoreref24_Unique.t13 : Tm := ⟨[(0, .p (.slice (.slice (.int .i64)))), (3, .own 0), (4, .p (.int .i64)), (5, .p (.int .i64))], [.own (.slice (.int .i64))]⟩
def evermoreref24_Unique.c13 (k : Nat) (ds : List Dat) : Option (Bool) := pop (.slice (.slice (.int .i64))) ds fun x0 ds => pop (.int .i64) ds fun x1 ds => pop (.int .i64) ds fun x2 ds => pop (.slice (.slice (.int .i64))) ds fun x3 ds => popN ds (evermoreref24_Unique.l6 k x0 x1 x2 x3)
def evermoreref24_Unique.t25 : Tm := ⟨[(0, .p (.slice (.slice (.int .i64)))), (3, .own 0), (7, .p (.int .i64))], [.own (.slice (.int .i64))]⟩
def evermoreref24_Unique.c25 (k : Nat) (ds : List Dat) : Option (Bool) := pop (.slice (.slice (.int .i64))) ds fun x0 ds => pop (.int .i64) ds fun x1 ds => pop (.slice (.slice (.int .i64))) ds fun x2 ds => popN ds (evermoreref24_Unique.l12 k x0 x1 x2)
def evermoreref24_Unique.t14 : Tm := ⟨[(0, .p (.slice (.slice (.int .i64)))), (3, .own 0), (4, .p (.int .i64)), (5, .p (.int .i64))], [.own (.slice (.int .i64))]⟩
def evermoreref24_Unique.c14 (k : Nat) (ds : List Dat) : Option (Bool) := pop (.slice (.slice (.int .i64))) ds fun x0 ds => pop (.int .i64) ds fun x1 ds => pop (.int .i64) ds fun x2 ds => pop (.slice (.slice (.int .i64))) ds fun x3 ds => popN ds (evermoreref24_Unique.j7 k x0 x1 x2 x3)
def evermoreref24_Unique.t37 : Tm := ⟨[(0, .p (.slice (.slice (.int .i64)))), (3, .own 0), (7, .p (.int .i64)), (8, .p (.slice (.int .i64))), (9, .p (.int .i64))], [.own (.slice (.int .i64))]⟩
def evermoreref24_Unique.c37 (k : Nat) (ds : List Dat) : Option (Bool) := pop (.slice (.slice (.int .i64))) ds fun x0 ds => pop (.int .i64) ds fun x1 ds => pop (.slice (.int .i64)) ds fun x2 ds => pop (.int .i64) ds fun x3 ds => pop (.slice (.slice (.int .i64))) ds fun x4 ds => popN ds (evermoreref24_Unique.l18 k x0 x1 x2 x3 x4)
def evermoreref24_Unique.t38 : Tm := ⟨[(0, .p (.slice (.slice (.int .i64)))), (3, .own 0), (7, .p (.int .i64)), (8, .p (.slice (.int .i64))), (9, .p (.int .i64))], [.own (.slice (.int .i64))]⟩
def evermoreref24_Unique.c38 (k : Nat) (ds : List Dat) : Option (Bool) := pop (.slice (.slice (.int .i64))) ds fun x0 ds => pop (.int .i64) ds fun x1 ds => pop (.slice (.int .i64)) ds fun x2 ds => pop (.int .i64) ds fun x3 ds => pop (.slice (.slice (.int .i64))) ds fun x4 ds => popN ds (evermoreref24_Unique.j19 k x0 x1 x2 x3 x4)
def evermoreref24_Unique.tbl : List (Nat × Tm × (Nat → List Dat → Option (Bool))) := [(7, evermoreref24_Unique.t7, evermoreref24_Unique.c7), (13, evermoreref24_Unique.t13, evermoreref24_Unique.c13), (25, evermoreref24_Unique.t25, evermoreref24_Unique.c25), (14, evermoreref24_Unique.t14, evermoreref24_Unique.c14), (37, evermoreref24_Unique.t37, evermoreref24_Unique.c37), (38, evermoreref24_Unique.t38, evermoreref24_Unique.c38)]
noncomputable abbrev evermoreref24_Unique.R (k : Nat) := run T (evermoreref24_Unique.env k) Try.f34.ntmps (cutE 0 evermoreref24_Unique.tbl k) (finE 0 evermoreref24_Unique.to evermoreref24_Unique.out) (fnRes Try.f34) [19, 7] 100000 true
theorem evermoreref24_Unique.e7 (k : Nat) (x0 : (List (List Int))) (x1 : Int) (x2 : (List (List Int))) : evermoreref24_Unique.l3 (k + 1) x0 x1 x2 = evermoreref24_Unique.R k (start (stackOf 7 evermoreref24_Unique.body)) (evermoreref24_Unique.t7.fill [⟨(.slice (.slice (.int .i64))), x0⟩, ⟨(.int .i64), x1⟩, ⟨(.slice (.slice (.int .i64))), x2⟩]) := by kernel_rfl
theorem evermoreref24_Unique.s7 : stackAt 7 evermoreref24_Unique.body [] = some (stackOf 7 evermoreref24_Unique.body) := by kernel_rfl
theorem evermoreref24_Unique.h7 (k : Nat) (ds : List Dat) (r : Bool) (h : evermoreref24_Unique.c7 k ds = some r) : ∃ k', k' < k ∧ ∃ s, stackAt 7 evermoreref24_Unique.body [] = some s ∧ evermoreref24_Unique.R k' (start s) (evermoreref24_Unique.t7.fill ds) = some r := by
  unfold evermoreref24_Unique.c7 at h
  obtain ⟨x0, d0, rfl, h0⟩ := pop_some h
  obtain ⟨x1, d1, rfl, h1⟩ := pop_some h0
  obtain ⟨x2, d2, rfl, h2⟩ := pop_some h1
  obtain ⟨rfl, g⟩ := popN_some h2
  cases k with
  | zero => cases (show none = some r from g)
  | succ k => exact ⟨k, Nat.lt_succ_self k, _, evermoreref24_Unique.s7, (evermoreref24_Unique.e7 k x0 x1 x2).symm.trans g⟩
theorem evermoreref24_Unique.e13 (k : Nat) (x0 : (List (List Int))) (x1 : Int) (x2 : Int) (x3 : (List (List Int))) : evermoreref24_Unique.l6 (k + 1) x0 x1 x2 x3 = evermoreref24_Unique.R k (start (stackOf 13 evermoreref24_Unique.body)) (evermoreref24_Unique.t13.fill [⟨(.slice (.slice (.int .i64))), x0⟩, ⟨(.int .i64), x1⟩, ⟨(.int .i64), x2⟩, ⟨(.slice (.slice (.int .i64))), x3⟩]) := by kernel_rfl
theorem evermoreref24_Unique.s13 : stackAt 13 evermoreref24_Unique.body [] = some (stackOf 13 evermoreref24_Unique.body) := by kernel_rfl
theorem evermoreref24_Unique.h13 (k : Nat) (ds : List Dat) (r : Bool) (h : evermoreref24_Unique.c13 k ds = some r) : ∃ k', k' < k ∧ ∃ s, stackAt 13 evermoreref24_Unique.body [] = some s ∧ evermoreref24_Unique.R k' (start s) (evermoreref24_Unique.t13.fill ds) = some r := by
  unfold evermoreref24_Unique.c13 at h
  obtain ⟨x0, d0, rfl, h0⟩ := pop_some h
  obtain ⟨x1, d1, rfl, h1⟩ := pop_some h0
  obtain ⟨x2, d2, rfl, h2⟩ := pop_some h1
  obtain ⟨x3, d3, rfl, h3⟩ := pop_some h2
  obtain ⟨rfl, g⟩ := popN_some h3
  cases k with
  | zero => cases (show none = some r from g)
  | succ k => exact ⟨k, Nat.lt_succ_self k, _, evermoreref24_Unique.s13, (evermoreref24_Unique.e13 k x0 x1 x2 x3).symm.trans g⟩
theorem evermoreref24_Unique.e25 (k : Nat) (x0 : (List (List Int))) (x1 : Int) (x2 : (List (List Int))) : evermoreref24_Unique.l12 (k + 1) x0 x1 x2 = evermoreref24_Unique.R k (start (stackOf 25 evermoreref24_Unique.body)) (evermoreref24_Unique.t25.fill [⟨(.slice (.slice (.int .i64))), x0⟩, ⟨(.int .i64), x1⟩, ⟨(.slice (.slice (.int .i64))), x2⟩]) := by kernel_rfl
theorem evermoreref24_Unique.s25 : stackAt 25 evermoreref24_Unique.body [] = some (stackOf 25 evermoreref24_Unique.body) := by kernel_rfl
theorem evermoreref24_Unique.h25 (k : Nat) (ds : List Dat) (r : Bool) (h : evermoreref24_Unique.c25 k ds = some r) : ∃ k', k' < k ∧ ∃ s, stackAt 25 evermoreref24_Unique.body [] = some s ∧ evermoreref24_Unique.R k' (start s) (evermoreref24_Unique.t25.fill ds) = some r := by
  unfold evermoreref24_Unique.c25 at h
  obtain ⟨x0, d0, rfl, h0⟩ := pop_some h
  obtain ⟨x1, d1, rfl, h1⟩ := pop_some h0
  obtain ⟨x2, d2, rfl, h2⟩ := pop_some h1
  obtain ⟨rfl, g⟩ := popN_some h2
  cases k with
  | zero => cases (show none = some r from g)
  | succ k => exact ⟨k, Nat.lt_succ_self k, _, evermoreref24_Unique.s25, (evermoreref24_Unique.e25 k x0 x1 x2).symm.trans g⟩
theorem evermoreref24_Unique.e14 (k : Nat) (x0 : (List (List Int))) (x1 : Int) (x2 : Int) (x3 : (List (List Int))) : evermoreref24_Unique.j7 (k + 1) x0 x1 x2 x3 = evermoreref24_Unique.R k (start (stackOf 14 evermoreref24_Unique.body)) (evermoreref24_Unique.t14.fill [⟨(.slice (.slice (.int .i64))), x0⟩, ⟨(.int .i64), x1⟩, ⟨(.int .i64), x2⟩, ⟨(.slice (.slice (.int .i64))), x3⟩]) := by kernel_rfl
theorem evermoreref24_Unique.s14 : stackAt 14 evermoreref24_Unique.body [] = some (stackOf 14 evermoreref24_Unique.body) := by kernel_rfl
theorem evermoreref24_Unique.h14 (k : Nat) (ds : List Dat) (r : Bool) (h : evermoreref24_Unique.c14 k ds = some r) : ∃ k', k' < k ∧ ∃ s, stackAt 14 evermoreref24_Unique.body [] = some s ∧ evermoreref24_Unique.R k' (start s) (evermoreref24_Unique.t14.fill ds) = some r := by
  unfold evermoreref24_Unique.c14 at h
  obtain ⟨x0, d0, rfl, h0⟩ := pop_some h
  obtain ⟨x1, d1, rfl, h1⟩ := pop_some h0
  obtain ⟨x2, d2, rfl, h2⟩ := pop_some h1
  obtain ⟨x3, d3, rfl, h3⟩ := pop_some h2
  obtain ⟨rfl, g⟩ := popN_some h3
  cases k with
  | zero => cases (show none = some r from g)
  | succ k => exact ⟨k, Nat.lt_succ_self k, _, evermoreref24_Unique.s14, (evermoreref24_Unique.e14 k x0 x1 x2 x3).symm.trans g⟩
theorem evermoreref24_Unique.e37 (k : Nat) (x0 : (List (List Int))) (x1 : Int) (x2 : (List Int)) (x3 : Int) (x4 : (List (List Int))) : evermoreref24_Unique.l18 (k + 1) x0 x1 x2 x3 x4 = evermoreref24_Unique.R k (start (stackOf 37 evermoreref24_Unique.body)) (evermoreref24_Unique.t37.fill [⟨(.slice (.slice (.int .i64))), x0⟩, ⟨(.int .i64), x1⟩, ⟨(.slice (.int .i64)), x2⟩, ⟨(.int .i64), x3⟩, ⟨(.slice (.slice (.int .i64))), x4⟩]) := by kernel_rfl
theorem evermoreref24_Unique.s37 : stackAt 37 evermoreref24_Unique.body [] = some (stackOf 37 evermoreref24_Unique.body) := by kernel_rfl
theorem evermoreref24_Unique.h37 (k : Nat) (ds : List Dat) (r : Bool) (h : evermoreref24_Unique.c37 k ds = some r) : ∃ k', k' < k ∧ ∃ s, stackAt 37 evermoreref24_Unique.body [] = some s ∧ evermoreref24_Unique.R k' (start s) (evermoreref24_Unique.t37.fill ds) = some r := by
  unfold evermoreref24_Unique.c37 at h
  obtain ⟨x0, d0, rfl, h0⟩ := pop_some h
  obtain ⟨x1, d1, rfl, h1⟩ := pop_some h0
  obtain ⟨x2, d2, rfl, h2⟩ := pop_some h1
  obtain ⟨x3, d3, rfl, h3⟩ := pop_some h2
  obtain ⟨x4, d4, rfl, h4⟩ := pop_some h3
  obtain ⟨rfl, g⟩ := popN_some h4
  cases k with
  | zero => cases (show none = some r from g)
  | succ k => exact ⟨k, Nat.lt_succ_self k, _, evermoreref24_Unique.s37, (evermoreref24_Unique.e37 k x0 x1 x2 x3 x4).symm.trans g⟩
theorem evermoreref24_Unique.e38 (k : Nat) (x0 : (List (List Int))) (x1 : Int) (x2 : (List Int)) (x3 : Int) (x4 : (List (List Int))) : evermoreref24_Unique.j19 (k + 1) x0 x1 x2 x3 x4 = evermoreref24_Unique.R k (start (stackOf 38 evermoreref24_Unique.body)) (evermoreref24_Unique.t38.fill [⟨(.slice (.slice (.int .i64))), x0⟩, ⟨(.int .i64), x1⟩, ⟨(.slice (.int .i64)), x2⟩, ⟨(.int .i64), x3⟩, ⟨(.slice (.slice (.int .i64))), x4⟩]) := by kernel_rfl
theorem evermoreref24_Unique.s38 : stackAt 38 evermoreref24_Unique.body [] = some (stackOf 38 evermoreref24_Unique.body) := by kernel_rfl
theorem evermoreref24_Unique.h38 (k : Nat) (ds : List Dat) (r : Bool) (h : evermoreref24_Unique.c38 k ds = some r) : ∃ k', k' < k ∧ ∃ s, stackAt 38 evermoreref24_Unique.body [] = some s ∧ evermoreref24_Unique.R k' (start s) (evermoreref24_Unique.t38.fill ds) = some r := by
  unfold evermoreref24_Unique.c38 at h
  obtain ⟨x0, d0, rfl, h0⟩ := pop_some h
  obtain ⟨x1, d1, rfl, h1⟩ := pop_some h0
  obtain ⟨x2, d2, rfl, h2⟩ := pop_some h1
  obtain ⟨x3, d3, rfl, h3⟩ := pop_some h2
  obtain ⟨x4, d4, rfl, h4⟩ := pop_some h3
  obtain ⟨rfl, g⟩ := popN_some h4
  cases k with
  | zero => cases (show none = some r from g)
  | succ k => exact ⟨k, Nat.lt_succ_self k, _, evermoreref24_Unique.s38, (evermoreref24_Unique.e38 k x0 x1 x2 x3 x4).symm.trans g⟩
theorem evermoreref24_Unique.e (k : Nat) (x0 : (List (List Int))) : evermoreref24_Unique.f k x0 = evermoreref24_Unique.R k ([.code evermoreref24_Unique.body]) (evermoreref24_Unique.ti.fill [⟨(.slice (.slice (.int .i64))), x0⟩]) := by kernel_rfl
theorem evermoreref24_Unique.h (k : Nat) (ds : List Dat) (r : Bool) (h : evermoreref24_Unique.g k ds = some r) : ∃ k', k' < k ∧ evermoreref24_Unique.R k' ([.code evermoreref24_Unique.body]) (evermoreref24_Unique.ti.fill ds) = some r := by
  cases k with
  | zero => cases (show none = some r from h)
  | succ k =>
  replace h : evermoreref24_Unique.c k ds = some r := h
  unfold evermoreref24_Unique.c at h
  obtain ⟨x0, d0, rfl, h0⟩ := pop_some h
  obtain ⟨rfl, g⟩ := popN_some h0
  exact ⟨k, Nat.lt_succ_self k, (evermoreref24_Unique.e k x0).symm.trans g⟩
theorem evermoreref24_Unique.o (ds : List Dat) (r : Bool) (h : evermoreref24_Unique.out ds = some r) : ds = evermoreref24_Unique.rs r := by
  unfold evermoreref24_Unique.out at h
  obtain ⟨x0, d0, rfl, h0⟩ := pop_some h
  obtain ⟨rfl, g⟩ := popN_some h0
  cases g
  rfl
theorem evermoreref24_Unique.fn : FnOk Try.prog 34 Try.f34 evermoreref24_Unique.body Try.f34.ntmps 1 (fnRes Try.f34) :=
  fnOk_of (by kernel_rfl) (by kernel_rfl) (by kernel_rfl) (by kernel_rfl)
theorem evermoreref24_Unique.con' : ∀ k ds r, evermoreref24_Unique.g k ds = some r → Con Try.prog 34 1 evermoreref24_Unique.ti evermoreref24_Unique.to ds (evermoreref24_Unique.rs r) :=
  fun_ok (T := T) T_ok mixed evermoreref24_Unique.fn (env := evermoreref24_Unique.env) (tbl := evermoreref24_Unique.tbl) (gOut := evermoreref24_Unique.out) (nin := 0) (cuts := [19, 7]) (fuel := 100000) rfl (by kernel_rfl) (by kernel_rfl) (by kernel_rfl) (fun x hx => by
    simp only [evermoreref24_Unique.tbl, List.mem_cons, List.not_mem_nil, or_false] at hx
    rcases hx with rfl | rfl | rfl | rfl | rfl | rfl
    · exact evermoreref24_Unique.h7
    · exact evermoreref24_Unique.h13
    · exact evermoreref24_Unique.h25
    · exact evermoreref24_Unique.h14
    · exact evermoreref24_Unique.h37
    · exact evermoreref24_Unique.h38
) evermoreref24_Unique.o evermoreref24_Unique.h (fun k _ => by unfold evermoreref24_Unique.env; exact (envC_ok (fun ds K r h => by
    obtain ⟨x0, d0, rfl, h0⟩ := pop_some h
    obtain ⟨x1, d1, rfl, h1⟩ := pop_some h0
    obtain ⟨rfl, g⟩ := popN_some h1
    obtain ⟨r1, h1, h2⟩ := bind_some g
    exact ⟨_, h2, evermoreref24_Begins.con k _ h1⟩) (envC_ok (fun ds K r h => by
    obtain ⟨x0, d0, rfl, h0⟩ := pop_some h
    obtain ⟨x1, d1, rfl, h1⟩ := pop_some h0
    obtain ⟨rfl, g⟩ := popN_some h1
    obtain ⟨r1, h1, h2⟩ := bind_some g
    exact ⟨_, h2, evermoreref24_put.con k _ h1⟩) env0_ok)))
theorem evermoreref24_Unique.con (k : Nat) {x0 : (List (List Int))} (r : Bool) (h : evermoreref24_Unique.f k x0 = some r) : Con Try.prog 34 1 evermoreref24_Unique.ti evermoreref24_Unique.to [⟨(.slice (.slice (.int .i64))), x0⟩] (evermoreref24_Unique.rs r) :=
  evermoreref24_Unique.con' (k + 1) _ r (by show evermoreref24_Unique.c k _ = some r; unfold evermoreref24_Unique.c; simp only [pop_self, popN]; exact h)
mutual
def evermoreref24_Whole.l3 : Nat → List (List (Int)) → List (Int) → Int → List (Int) → Option (Bool × List Int)
 | 0, _, _, _, _ => none
 | k + 1, l0, row1, i7, out6 =>
  if i7 < (↑row1.length : Int) then
   if 0 ≤ i7 then
   if i7 < (↑row1.length : Int) then
    if Go.Proofs.YtfkilmmldjajmaaSx.rd (Int.ofNat 0) row1 i7 < 0 then
      some (false, [])
     else
      if 0 ≤ i7 then
      if i7 < (↑row1.length : Int) then
       if (↑l0.length : Int) ≤ Go.Proofs.YtfkilmmldjajmaaSx.rd (Int.ofNat 0) row1 i7 then
         some (false, [])
        else
         if 0 ≤ i7 then
         if i7 < (↑row1.length : Int) then
          if 0 ≤ Go.Proofs.YtfkilmmldjajmaaSx.rd (Int.ofNat 0) row1 i7 then
           if Go.Proofs.YtfkilmmldjajmaaSx.rd (Int.ofNat 0) row1 i7 < (↑l0.length : Int) then
            if Go.Proofs.YtfkilmmldjajmaaSx.fitsIn (out6 ++ Go.Proofs.YtfkilmmldjajmaaSx.rd [] l0 (Go.Proofs.YtfkilmmldjajmaaSx.rd (Int.ofNat 0) row1 i7)).length 8 = true then
             evermoreref24_Whole.l3 k l0 row1 (Go.IntKind.i64.wrap (i7 + 1)) (out6 ++ Go.Proofs.YtfkilmmldjajmaaSx.rd [] l0 (Go.Proofs.YtfkilmmldjajmaaSx.rd (Int.ofNat 0) row1 i7))
             else none
            else none
           else none
          else none
         else none
       else none
      else none
    else none
   else none
  else
   some (true, out6)
end
def evermoreref24_Whole.f (k : Nat) (l0 : List (List (Int))) (row1 : List (Int)) : Option (Bool × List Int) :=
 evermoreref24_Whole.l3 k l0 row1 0 []

noncomputable def evermoreref24_Whole.body : Code := fnBody Try.f35
def evermoreref24_Whole.ti : Tm := ⟨[(0, .p (.slice (.slice (.int .i64)))), (1, .p (.slice (.int .i64)))], []⟩
def evermoreref24_Whole.to : Tm := ⟨[(0, .own 0), (1, .p .bool)], [.own (.int .i64)]⟩
def evermoreref24_Whole.rs (r : Bool × (List Int)) : List Dat := [⟨.bool, r.1⟩, ⟨(.slice (.int .i64)), r.2⟩]
def evermoreref24_Whole.out (ds : List Dat) : Option (Bool × (List Int)) := pop .bool ds fun x0 ds => pop (.slice (.int .i64)) ds fun x1 ds => popN ds (some (x0, x1))
def evermoreref24_Whole.c (k : Nat) (ds : List Dat) : Option (Bool × (List Int)) := pop (.slice (.slice (.int .i64))) ds fun x0 ds => pop (.slice (.int .i64)) ds fun x1 ds => popN ds (evermoreref24_Whole.f k x0 x1)
def evermoreref24_Whole.g : Nat → List Dat → Option (Bool × (List Int))
 | 0, _ => none
 | k + 1, ds => evermoreref24_Whole.c k ds
def evermoreref24_Whole.env (k : Nat) : Nat → List SV → List Chunk → KT (Bool × (List Int)) → Option (Bool × (List Int)) := env0
def evermoreref24_Whole.t7 : Tm := ⟨[(0, .p (.slice (.slice (.int .i64)))), (1, .p (.slice (.int .i64))), (6, .own 0), (7, .p (.int .i64))], [.own (.int .i64)]⟩
def evermoreref24_Whole.c7 (k : Nat) (ds : List Dat) : Option (Bool × (List Int)) := pop (.slice (.slice (.int .i64))) ds fun x0 ds => pop (.slice (.int .i64)) ds fun x1 ds => pop (.int .i64) ds fun x2 ds => pop (.slice (.int .i64)) ds fun x3 ds => popN ds (evermoreref24_Whole.l3 k x0 x1 x2 x3)
def evermoreref24_Whole.tbl : List (Nat × Tm × (Nat → List Dat → Option (Bool × (List Int)))) := [(7, evermoreref24_Whole.t7, evermoreref24_Whole.c7)]
noncomputable abbrev evermoreref24_Whole.R (k : Nat) := run T (evermoreref24_Whole.env k) Try.f35.ntmps (cutE 0 evermoreref24_Whole.tbl k) (finE 0 evermoreref24_Whole.to evermoreref24_Whole.out) (fnRes Try.f35) [] 100000 true
theorem evermoreref24_Whole.e7 (k : Nat) (x0 : (List (List Int))) (x1 : (List Int)) (x2 : Int) (x3 : (List Int)) : evermoreref24_Whole.l3 (k + 1) x0 x1 x2 x3 = evermoreref24_Whole.R k (start (stackOf 7 evermoreref24_Whole.body)) (evermoreref24_Whole.t7.fill [⟨(.slice (.slice (.int .i64))), x0⟩, ⟨(.slice (.int .i64)), x1⟩, ⟨(.int .i64), x2⟩, ⟨(.slice (.int .i64)), x3⟩]) := by kernel_rfl
theorem evermoreref24_Whole.s7 : stackAt 7 evermoreref24_Whole.body [] = some (stackOf 7 evermoreref24_Whole.body) := by kernel_rfl
theorem evermoreref24_Whole.h7 (k : Nat) (ds : List Dat) (r : Bool × (List Int)) (h : evermoreref24_Whole.c7 k ds = some r) : ∃ k', k' < k ∧ ∃ s, stackAt 7 evermoreref24_Whole.body [] = some s ∧ evermoreref24_Whole.R k' (start s) (evermoreref24_Whole.t7.fill ds) = some r := by
  unfold evermoreref24_Whole.c7 at h
  obtain ⟨x0, d0, rfl, h0⟩ := pop_some h
  obtain ⟨x1, d1, rfl, h1⟩ := pop_some h0
  obtain ⟨x2, d2, rfl, h2⟩ := pop_some h1
  obtain ⟨x3, d3, rfl, h3⟩ := pop_some h2
  obtain ⟨rfl, g⟩ := popN_some h3
  cases k with
  | zero => cases (show none = some r from g)
  | succ k => exact ⟨k, Nat.lt_succ_self k, _, evermoreref24_Whole.s7, (evermoreref24_Whole.e7 k x0 x1 x2 x3).symm.trans g⟩
theorem evermoreref24_Whole.e (k : Nat) (x0 : (List (List Int))) (x1 : (List Int)) : evermoreref24_Whole.f k x0 x1 = evermoreref24_Whole.R k ([.code evermoreref24_Whole.body]) (evermoreref24_Whole.ti.fill [⟨(.slice (.slice (.int .i64))), x0⟩, ⟨(.slice (.int .i64)), x1⟩]) := by kernel_rfl
theorem evermoreref24_Whole.h (k : Nat) (ds : List Dat) (r : Bool × (List Int)) (h : evermoreref24_Whole.g k ds = some r) : ∃ k', k' < k ∧ evermoreref24_Whole.R k' ([.code evermoreref24_Whole.body]) (evermoreref24_Whole.ti.fill ds) = some r := by
  cases k with
  | zero => cases (show none = some r from h)
  | succ k =>
  replace h : evermoreref24_Whole.c k ds = some r := h
  unfold evermoreref24_Whole.c at h
  obtain ⟨x0, d0, rfl, h0⟩ := pop_some h
  obtain ⟨x1, d1, rfl, h1⟩ := pop_some h0
  obtain ⟨rfl, g⟩ := popN_some h1
  exact ⟨k, Nat.lt_succ_self k, (evermoreref24_Whole.e k x0 x1).symm.trans g⟩
theorem evermoreref24_Whole.o (ds : List Dat) (r : Bool × (List Int)) (h : evermoreref24_Whole.out ds = some r) : ds = evermoreref24_Whole.rs r := by
  unfold evermoreref24_Whole.out at h
  obtain ⟨x0, d0, rfl, h0⟩ := pop_some h
  obtain ⟨x1, d1, rfl, h1⟩ := pop_some h0
  obtain ⟨rfl, g⟩ := popN_some h1
  cases g
  rfl
theorem evermoreref24_Whole.fn : FnOk Try.prog 35 Try.f35 evermoreref24_Whole.body Try.f35.ntmps 2 (fnRes Try.f35) :=
  fnOk_of (by kernel_rfl) (by kernel_rfl) (by kernel_rfl) (by kernel_rfl)
theorem evermoreref24_Whole.con' : ∀ k ds r, evermoreref24_Whole.g k ds = some r → Con Try.prog 35 2 evermoreref24_Whole.ti evermoreref24_Whole.to ds (evermoreref24_Whole.rs r) :=
  fun_ok (T := T) T_ok mixed evermoreref24_Whole.fn (env := evermoreref24_Whole.env) (tbl := evermoreref24_Whole.tbl) (gOut := evermoreref24_Whole.out) (nin := 0) (cuts := []) (fuel := 100000) rfl (by kernel_rfl) (by kernel_rfl) (by kernel_rfl) (fun x hx => by
    simp only [evermoreref24_Whole.tbl, List.mem_cons, List.not_mem_nil, or_false] at hx
    subst hx
    · exact evermoreref24_Whole.h7
) evermoreref24_Whole.o evermoreref24_Whole.h (fun k _ => by unfold evermoreref24_Whole.env; exact env0_ok)
theorem evermoreref24_Whole.con (k : Nat) {x0 : (List (List Int))} {x1 : (List Int)} (r : Bool × (List Int)) (h : evermoreref24_Whole.f k x0 x1 = some r) : Con Try.prog 35 2 evermoreref24_Whole.ti evermoreref24_Whole.to [⟨(.slice (.slice (.int .i64))), x0⟩, ⟨(.slice (.int .i64)), x1⟩] (evermoreref24_Whole.rs r) :=
  evermoreref24_Whole.con' (k + 1) _ r (by show evermoreref24_Whole.c k _ = some r; unfold evermoreref24_Whole.c; simp only [pop_self, popN]; exact h)
def evermorelaw_CodeUnique.f (k : Nat) (letters0 : Int) (l1 : List (List (Int))) : Option (Bool) :=
 (evermorelaw_lists.f k l1).bind fun r_1 =>
  (code_Unique.f k letters0 r_1).bind fun r_2 =>
   (code_Check.f k letters0 r_1).bind fun r_3 =>
    (evermorelaw_sameLists.f k r_1 l1).bind fun r_4 =>
     (evermoreref24_Check.f k letters0 l1).bind fun r_5 =>
      if r_3 = r_5 then
       if r_4 = true then
        if r_5 = 0 then
         (evermoreref24_Unique.f k l1).bind fun r_9 =>
          if r_2.snd.snd.snd = 0 then
           if (!r_2.snd.snd.fst == r_9) = true then
            some (false)
           else
            if r_2.snd.snd.fst = true then
             some (decide (Go.IntKind.i64.wrap ((↑r_2.fst.length : Int) + (↑r_2.snd.fst.length : Int)) = 0))
            else
             (evermoreref24_Whole.f k l1 r_2.fst).bind fun r_13 =>
              (evermoreref24_Whole.f k l1 r_2.snd.fst).bind fun r_14 =>
               (evermoreref1_Words.f k r_2.fst r_2.snd.fst).bind fun r_15 =>
                (evermoreref1_Words.f k r_13.snd r_14.snd).bind fun r_16 =>
                 if r_13.fst = true then
                  if r_14.fst = true then
                   if r_15 = true then
                    some (false)
                   else
                    some (r_16)
                  else
                   some (false)
                 else
                  some (false)
          else
           some (false)
        else
         if r_2.snd.snd.snd = r_5 then
          if r_2.snd.snd.fst = true then
           some (false)
          else
           some (decide (Go.IntKind.i64.wrap ((↑r_2.fst.length : Int) + (↑r_2.snd.fst.length : Int)) = 0))
         else
          some (false)
       else
        some (false)
      else
       some (false)

noncomputable def evermorelaw_CodeUnique.body : Code := fnBody Try.f6
def evermorelaw_CodeUnique.ti : Tm := ⟨[(0, .p (.int .i64)), (1, .p (.slice (.slice (.int .i64))))], []⟩
def evermorelaw_CodeUnique.to : Tm := ⟨[(0, .p .bool)], []⟩
def evermorelaw_CodeUnique.rs (r : Bool) : List Dat := [⟨.bool, r⟩]
def evermorelaw_CodeUnique.out (ds : List Dat) : Option (Bool) := pop .bool ds fun x0 ds => popN ds (some (x0))
def evermorelaw_CodeUnique.c (k : Nat) (ds : List Dat) : Option (Bool) := pop (.int .i64) ds fun x0 ds => pop (.slice (.slice (.int .i64))) ds fun x1 ds => popN ds (evermorelaw_CodeUnique.f k x0 x1)
def evermorelaw_CodeUnique.g : Nat → List Dat → Option (Bool)
 | 0, _ => none
 | k + 1, ds => evermorelaw_CodeUnique.c k ds
def evermorelaw_CodeUnique.env (k : Nat) : Nat → List SV → List Chunk → KT (Bool) → Option (Bool) := (envC 29 1 evermorelaw_lists.ti evermorelaw_lists.to (fun ds K => pop (.slice (.slice (.int .i64))) ds fun x0 ds => popN ds ((evermorelaw_lists.f k x0).bind fun r => K (evermorelaw_lists.rs r))) (envC 30 2 code_Unique.ti code_Unique.to (fun ds K => pop (.int .i64) ds fun x0 ds => pop (.slice (.slice (.int .i64))) ds fun x1 ds => popN ds ((code_Unique.f k x0 x1).bind fun r => K (code_Unique.rs r))) (envC 31 2 code_Check.ti code_Check.to (fun ds K => pop (.int .i64) ds fun x0 ds => pop (.slice (.slice (.int .i64))) ds fun x1 ds => popN ds ((code_Check.f k x0 x1).bind fun r => K (code_Check.rs r))) (envC 32 2 evermorelaw_sameLists.ti evermorelaw_sameLists.to (fun ds K => pop (.slice (.slice (.int .i64))) ds fun x0 ds => pop (.slice (.slice (.int .i64))) ds fun x1 ds => popN ds ((evermorelaw_sameLists.f k x0 x1).bind fun r => K (evermorelaw_sameLists.rs r))) (envC 33 2 evermoreref24_Check.ti evermoreref24_Check.to (fun ds K => pop (.int .i64) ds fun x0 ds => pop (.slice (.slice (.int .i64))) ds fun x1 ds => popN ds ((evermoreref24_Check.f k x0 x1).bind fun r => K (evermoreref24_Check.rs r))) (envC 34 1 evermoreref24_Unique.ti evermoreref24_Unique.to (fun ds K => pop (.slice (.slice (.int .i64))) ds fun x0 ds => popN ds ((evermoreref24_Unique.f k x0).bind fun r => K (evermoreref24_Unique.rs r))) (envC 35 2 evermoreref24_Whole.ti evermoreref24_Whole.to (fun ds K => pop (.slice (.slice (.int .i64))) ds fun x0 ds => pop (.slice (.int .i64)) ds fun x1 ds => popN ds ((evermoreref24_Whole.f k x0 x1).bind fun r => K (evermoreref24_Whole.rs r))) (envC 36 2 evermoreref1_Words.ti evermoreref1_Words.to (fun ds K => pop (.slice (.int .i64)) ds fun x0 ds => pop (.slice (.int .i64)) ds fun x1 ds => popN ds ((evermoreref1_Words.f k x0 x1).bind fun r => K (evermoreref1_Words.rs r))) env0))))))))
def evermorelaw_CodeUnique.tbl : List (Nat × Tm × (Nat → List Dat → Option (Bool))) := []
noncomputable abbrev evermorelaw_CodeUnique.R (k : Nat) := run T (evermorelaw_CodeUnique.env k) Try.f6.ntmps (cutE 0 evermorelaw_CodeUnique.tbl k) (finE 0 evermorelaw_CodeUnique.to evermorelaw_CodeUnique.out) (fnRes Try.f6) [] 100000 true
theorem evermorelaw_CodeUnique.e (k : Nat) (x0 : Int) (x1 : (List (List Int))) : evermorelaw_CodeUnique.f k x0 x1 = evermorelaw_CodeUnique.R k ([.code evermorelaw_CodeUnique.body]) (evermorelaw_CodeUnique.ti.fill [⟨(.int .i64), x0⟩, ⟨(.slice (.slice (.int .i64))), x1⟩]) := by kernel_rfl
theorem evermorelaw_CodeUnique.h (k : Nat) (ds : List Dat) (r : Bool) (h : evermorelaw_CodeUnique.g k ds = some r) : ∃ k', k' < k ∧ evermorelaw_CodeUnique.R k' ([.code evermorelaw_CodeUnique.body]) (evermorelaw_CodeUnique.ti.fill ds) = some r := by
  cases k with
  | zero => cases (show none = some r from h)
  | succ k =>
  replace h : evermorelaw_CodeUnique.c k ds = some r := h
  unfold evermorelaw_CodeUnique.c at h
  obtain ⟨x0, d0, rfl, h0⟩ := pop_some h
  obtain ⟨x1, d1, rfl, h1⟩ := pop_some h0
  obtain ⟨rfl, g⟩ := popN_some h1
  exact ⟨k, Nat.lt_succ_self k, (evermorelaw_CodeUnique.e k x0 x1).symm.trans g⟩
theorem evermorelaw_CodeUnique.o (ds : List Dat) (r : Bool) (h : evermorelaw_CodeUnique.out ds = some r) : ds = evermorelaw_CodeUnique.rs r := by
  unfold evermorelaw_CodeUnique.out at h
  obtain ⟨x0, d0, rfl, h0⟩ := pop_some h
  obtain ⟨rfl, g⟩ := popN_some h0
  cases g
  rfl
theorem evermorelaw_CodeUnique.fn : FnOk Try.prog 6 Try.f6 evermorelaw_CodeUnique.body Try.f6.ntmps 2 (fnRes Try.f6) :=
  fnOk_of (by kernel_rfl) (by kernel_rfl) (by kernel_rfl) (by kernel_rfl)
theorem evermorelaw_CodeUnique.con' : ∀ k ds r, evermorelaw_CodeUnique.g k ds = some r → Con Try.prog 6 2 evermorelaw_CodeUnique.ti evermorelaw_CodeUnique.to ds (evermorelaw_CodeUnique.rs r) :=
  fun_ok (T := T) T_ok mixed evermorelaw_CodeUnique.fn (env := evermorelaw_CodeUnique.env) (tbl := evermorelaw_CodeUnique.tbl) (gOut := evermorelaw_CodeUnique.out) (nin := 0) (cuts := []) (fuel := 100000) rfl (by kernel_rfl) (by kernel_rfl) (by kernel_rfl) (fun x hx => by simp [evermorelaw_CodeUnique.tbl] at hx) evermorelaw_CodeUnique.o evermorelaw_CodeUnique.h (fun k _ => by unfold evermorelaw_CodeUnique.env; exact (envC_ok (fun ds K r h => by
    obtain ⟨x0, d0, rfl, h0⟩ := pop_some h
    obtain ⟨rfl, g⟩ := popN_some h0
    obtain ⟨r1, h1, h2⟩ := bind_some g
    exact ⟨_, h2, evermorelaw_lists.con k _ h1⟩) (envC_ok (fun ds K r h => by
    obtain ⟨x0, d0, rfl, h0⟩ := pop_some h
    obtain ⟨x1, d1, rfl, h1⟩ := pop_some h0
    obtain ⟨rfl, g⟩ := popN_some h1
    obtain ⟨r1, h1, h2⟩ := bind_some g
    exact ⟨_, h2, code_Unique.con k _ h1⟩) (envC_ok (fun ds K r h => by
    obtain ⟨x0, d0, rfl, h0⟩ := pop_some h
    obtain ⟨x1, d1, rfl, h1⟩ := pop_some h0
    obtain ⟨rfl, g⟩ := popN_some h1
    obtain ⟨r1, h1, h2⟩ := bind_some g
    exact ⟨_, h2, code_Check.con k _ h1⟩) (envC_ok (fun ds K r h => by
    obtain ⟨x0, d0, rfl, h0⟩ := pop_some h
    obtain ⟨x1, d1, rfl, h1⟩ := pop_some h0
    obtain ⟨rfl, g⟩ := popN_some h1
    obtain ⟨r1, h1, h2⟩ := bind_some g
    exact ⟨_, h2, evermorelaw_sameLists.con k _ h1⟩) (envC_ok (fun ds K r h => by
    obtain ⟨x0, d0, rfl, h0⟩ := pop_some h
    obtain ⟨x1, d1, rfl, h1⟩ := pop_some h0
    obtain ⟨rfl, g⟩ := popN_some h1
    obtain ⟨r1, h1, h2⟩ := bind_some g
    exact ⟨_, h2, evermoreref24_Check.con k _ h1⟩) (envC_ok (fun ds K r h => by
    obtain ⟨x0, d0, rfl, h0⟩ := pop_some h
    obtain ⟨rfl, g⟩ := popN_some h0
    obtain ⟨r1, h1, h2⟩ := bind_some g
    exact ⟨_, h2, evermoreref24_Unique.con k _ h1⟩) (envC_ok (fun ds K r h => by
    obtain ⟨x0, d0, rfl, h0⟩ := pop_some h
    obtain ⟨x1, d1, rfl, h1⟩ := pop_some h0
    obtain ⟨rfl, g⟩ := popN_some h1
    obtain ⟨r1, h1, h2⟩ := bind_some g
    exact ⟨_, h2, evermoreref24_Whole.con k _ h1⟩) (envC_ok (fun ds K r h => by
    obtain ⟨x0, d0, rfl, h0⟩ := pop_some h
    obtain ⟨x1, d1, rfl, h1⟩ := pop_some h0
    obtain ⟨rfl, g⟩ := popN_some h1
    obtain ⟨r1, h1, h2⟩ := bind_some g
    exact ⟨_, h2, evermoreref1_Words.con k _ h1⟩) env0_ok)))))))))
theorem evermorelaw_CodeUnique.con (k : Nat) {x0 : Int} {x1 : (List (List Int))} (r : Bool) (h : evermorelaw_CodeUnique.f k x0 x1 = some r) : Con Try.prog 6 2 evermorelaw_CodeUnique.ti evermorelaw_CodeUnique.to [⟨(.int .i64), x0⟩, ⟨(.slice (.slice (.int .i64))), x1⟩] (evermorelaw_CodeUnique.rs r) :=
  evermorelaw_CodeUnique.con' (k + 1) _ r (by show evermorelaw_CodeUnique.c k _ = some r; unfold evermorelaw_CodeUnique.c; simp only [pop_self, popN]; exact h)
/-- The one pure statement of the law, over whatever arguments can be read. -/
def evermorelaw_CodeUnique.PureH : Prop := ∀ (x0 : Int) (x1 : (List (List Int))), Ty.okv (.int .i64) x0 → Ty.okv (.slice (.slice (.int .i64))) x1 → ∃ k, evermorelaw_CodeUnique.f k x0 x1 = some true
end Go.Proofs.YtfkilmmldjajmaaSx
